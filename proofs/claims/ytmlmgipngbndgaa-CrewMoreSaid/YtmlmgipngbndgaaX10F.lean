/- A part of the proof: rules for walks, and contracts of functions (6). -/
import Derived.Test.YtmlmgipngbndgaaX10E
import Derived.Test.YtmlmgipngbndgaaX10B
import Derived.Laws.IdiomCopy
namespace Go.Proofs.Ytmlmgipngbndgaa
open Go.RowKit
attribute [local irreducible] OQ OS OX Rd T TL GX GL AL AI RV wpG SAny Calls
set_option maxRecDepth 100000
set_option maxHeartbeats 2000000
set_option linter.unusedVariables false
set_option linter.unusedSimpArgs false
theorem hp_left {G R : Hp} : HpSub (G ++ R) G := by
  induction G with
  | nil => exact HpSub.nil
  | cons x G ih => obtain ⟨b, C, g⟩ := x; exact HpSub.cons P0 ih
def tiB (l : List Ti) : List Value := (l.map tiCells).flatten
theorem tiB_len (l : List Ti) : (tiB l).length = l.length * 3 := flat_len (s := 3) (fun _ => rfl) l
theorem tiB_app (l m : List Ti) : tiB (l ++ m) = tiB l ++ tiB m := by unfold tiB; rw [List.map_append, List.flatten_append]
/-- What tired hands out. -/
def TiO (T : List Ti) (v : Value) (H : Hp) : Prop := ∃ x, (x = none → T.length = 0) ∧ v = .slice (clA x) T.length (clC x) ∧ H = clH 99 3 (tiB T) x
def ArrP (S : List Sh) (v : Value) (H : Hp) : Prop := ∃ x, (x = none → S.length = 0) ∧ S.length ≤ clC x ∧ v = .slice (clA x) S.length (clC x) ∧ H = clH 101 3 (shB S) x
theorem arrangedP_T (A : Option Addr) (n c : Nat) (l : List Sh) (w : World) (hr : RdS w 3 A n (l.map shCells)) (hA : A = none → n = 0 ∧ c = 0) (hn : n ≤ 1000000) :
    Calls Try.prog 110 #[.slice A n c, .func (.func 111) #[] #[]] w fun e w' => ∃ v H', e = .returned v ∧ ArrP (srtS l) v H' ∧ Has w ⟨[], []⟩ H' w' :=
  (arranged_T A n c l w hr hA hn).mono fun e w' ⟨v, H', h1, ⟨x, h2, h3, h4⟩, h5⟩ => ⟨v, H', h1, ⟨x, h2, by
    rcases x with _ | ⟨g, cp⟩
    · rw [h2 rfl]; exact Nat.zero_le _
    · subst h4
      have := h5.capge P0
      rw [sh_flat_len] at this
      simp only [clC]
      omega, h3, h4⟩, h5⟩
/-- The minutes so far. -/
def wkJ (S : List Sh) (i : Nat) (x : Sh) (win : Int) (j : Nat) : Int := (((S.drop i).take j).map (minT x win)).sum
theorem wkJ_succ {S : List Sh} {i j : Nat} {x y : Sh} {win : Int} (h : S[i + j]? = some y) : wkJ S i x win (j + 1) = wkJ S i x win j + minT x win y := by
  unfold wkJ
  rw [List.take_add_one, List.getElem?_drop, h]
  simp
theorem wkJ_all {S : List Sh} {i : Nat} {x : Sh} {win : Int} {j : Nat} (h : S.length ≤ i + j) : wkJ S i x win j = workT S i x win := by
  unfold wkJ workT
  rw [List.take_of_length_le (by simp; omega)]
theorem wkJ_in {S : List Sh} (hS : ∀ y ∈ S, shOk y) {i : Nat} {x : Sh} {win : Int} : ∀ {j : Nat}, i + j ≤ S.length → 0 ≤ wkJ S i x win j ∧ wkJ S i x win j ≤ (j : Int) * 1000000
  | 0, _ => by simp [wkJ]
  | j + 1, h => by
    obtain ⟨y, hy⟩ : ∃ y, S[i + j]? = some y := ⟨_, List.getElem?_eq_getElem (by omega)⟩
    have ih := wkJ_in hS (i := i) (x := x) (win := win) (show i + j ≤ S.length by omega)
    have ho := hS y (List.mem_of_getElem? hy)
    unfold shOk at ho
    rw [wkJ_succ hy]
    have : 0 ≤ minT x win y ∧ minT x win y ≤ 1000000 := by unfold minT; split <;> omega
    rw [show ((j + 1 : Nat) : Int) * 1000000 = (j : Int) * 1000000 + 1000000 by omega]
    omega
/-- The first k kinds of cases of a shift. -/
def casK (a b c : Bool) (x : Sh) : Nat → List Ti
  | 0 => []
  | 1 => (if a then [⟨1, x.who, x.fr⟩] else [])
  | 2 => (if a then [⟨1, x.who, x.fr⟩] else []) ++ (if b then [⟨2, x.who, x.fr⟩] else [])
  | _ => (if a then [⟨1, x.who, x.fr⟩] else []) ++ ((if b then [⟨2, x.who, x.fr⟩] else []) ++ (if c then [⟨3, x.who, x.fr⟩] else []))
theorem casK_all {d : Du} {S : List Sh} {i : Nat} {x : Sh} {a b c : Bool} (ha : a = decide (x.to - x.fr > d.most)) (hb : b = restB d S i x) (hc : c = decide (workV S x.who x.fr (x.fr + d.win) > d.sum)) : casK a b c x 3 = casV d S i x := by
  subst ha hb hc
  unfold casK casV
  simp only [decide_eq_true_eq]
theorem casK_len (a b c : Bool) (x : Sh) (k : Nat) : (casK a b c x k).length ≤ 3 := by
  rcases k with _ | _ | _ | k <;> cases a <;> cases b <;> cases c <;> simp [casK]
theorem tiTo_len (d : Du) (S : List Sh) : ∀ k, (tiTo d S k).length ≤ 3 * k
  | 0 => Nat.le_refl _
  | k + 1 => by
    show (tiTo d S k ++ casAt d S k).length ≤ _
    rw [List.length_append]
    have := tiTo_len d S k
    have : (casAt d S k).length ≤ 3 := by
      unfold casAt
      split
      · rename_i x _
        rw [← casK_all (d := d) (S := S) (i := k) (x := x) rfl rfl rfl]
        exact casK_len _ _ _ _ _
      · exact Nat.zero_le _
    omega
theorem tiredR_T (d : Du) (hd : duB d) (A : Option Addr) (n c : Nat) (l : List Sh) (w : World) (hr : RdS w 3 A n (l.map shCells)) (hA : A = none → n = 0 ∧ c = 0) (hn : n ≤ 1000) (hRos : Ros l) :
    Calls Try.prog 82 #[.agg #[.int .i64 d.most, .int .i64 d.rest, .int .i64 d.win, .int .i64 d.sum], .slice A n c] w fun e w' => ∃ v H', e = .returned v ∧ TiO (tiV d l) v H' ∧ Has w ⟨[], []⟩ H' w' := by
  have hl := hr.len
  simp only [List.length_map] at hl
  obtain ⟨S, hS⟩ : ∃ S, srtS l = S := ⟨_, rfl⟩
  have hsl : S.length = n := by rw [← hS, srtS, srt_len, hl]
  have hfit : Fit S := by rw [← hS]; exact (fitS_iff l).2 hRos
  have hsrt : Srt ltS S := by rw [← hS]; exact srt_srt woS l
  have hall : ∀ y ∈ S, shOk y := fun y hy => hRos.1 y ((srt_perm l).mem_iff.1 (by rw [← hS] at hy; exact hy))
  have hti : tiV d l = tiTo d S n := by unfold tiV; rw [hS, hl]
  obtain ⟨⟨dm1, dm2⟩, ⟨dr1, dr2⟩, ⟨dw1, dw2⟩, ds1, ds2⟩ := hd
  refine enterF (c := cx w 114) Try.func82 rfl rfl rfl rfl ?_
  refine t_cut (ι := Nat) (fun b2 => [(1, .slice A n c), (2, .pointer (some ⟨b2, 0, none⟩))]) (fun b2 => [(b2, [.int .i64 d.most, .int .i64 d.rest, .int .i64 d.win, .int .i64 d.sum], some (74, 4, 1))]) (fun _ => True) ?_ ?_
  · repeat' (first | ((with_reducible apply oq_id); first | (apply oq_fn; exact rfl; first | exact trivial | (refine ⟨?_, ?_⟩ <;> omega) | (refine ⟨?_, ?_, ?_⟩ <;> omega) | omega | skip)) | ((with_reducible apply tl_id); first | ((with_reducible apply tl_nil)) | ((with_reducible apply u_q); exact rfl; exact rfl; exact rfl; exact rfl) | ((with_reducible apply u_s); exact rfl; exact rfl; exact rfl)) | ((with_reducible apply os_id); first | ((with_reducible apply os_x); exact rfl)) | ((with_reducible apply ox_id); first | ((with_reducible apply ox_boxAgg); exact rfl; intro _)) | ((with_reducible apply t_id); first | (apply t_region; kernel_rfl)))
    all_goals exact ⟨rfl, _, trivial, by (repeat (first | exact FrSub.nil | (apply FrSub.cons; exact rfl))), by (repeat (first | exact HpSub.refl _ | (apply HpSub.consE; (repeat (first | exact P0 | apply P1 | apply PA)); exact rfl) | exact HpSub.nil))⟩
  rintro b2 -
  refine t_cut (ι := Unit) (fun _ => [(1, .slice A n c), (2, .pointer (some ⟨b2, 0, none⟩)), (5, .slice none 0 0)]) (fun _ => [(b2, [.int .i64 d.most, .int .i64 d.rest, .int .i64 d.win, .int .i64 d.sum], some (74, 4, 1))]) (fun _ => True) ?_ ?_
  · repeat' (first | ((with_reducible apply oq_id); first | (apply oq_fn; exact rfl; first | exact trivial | (refine ⟨?_, ?_⟩ <;> omega) | (refine ⟨?_, ?_, ?_⟩ <;> omega) | omega | skip)) | ((with_reducible apply tl_id); first | ((with_reducible apply tl_nil)) | ((with_reducible apply u_q); exact rfl; exact rfl; exact rfl; exact rfl)) | ((with_reducible apply t_id); first | (apply t_region; kernel_rfl)))
    all_goals exact ⟨rfl, (), trivial, by (repeat (first | exact FrSub.nil | (apply FrSub.cons; exact rfl))), by (repeat (first | exact HpSub.refl _ | (apply HpSub.consE; (repeat (first | exact P0 | apply P1 | apply PA)); exact rfl) | exact HpSub.nil))⟩
  rintro ⟨⟩ -
  refine t_cut (ι := Option (Nat × Nat)) (fun x => [(1, .slice (clA x) n (clC x)), (2, .pointer (some ⟨b2, 0, none⟩)), (5, .slice none 0 0)]) (fun x => clH 101 3 (shB S) x ++ [(b2, [.int .i64 d.most, .int .i64 d.rest, .int .i64 d.win, .int .i64 d.sum], some (74, 4, 1))]) (fun x => (x = none → n = 0) ∧ n ≤ clC x) ?_ ?_
  · repeat' (first | ((with_reducible apply oq_id); first | (apply oq_fn; exact rfl; first | exact trivial | (refine ⟨?_, ?_⟩ <;> omega) | (refine ⟨?_, ?_, ?_⟩ <;> omega) | omega | skip)) | ((with_reducible apply tl_id); first | ((with_reducible apply tl_nil)) | ((with_reducible apply u_s); exact rfl; exact rfl; exact rfl; (with_reducible apply os_callF (PV := ArrP S) (k := 110) (hc := Try.call110)); exact rfl; exact rfl; exact fun D w1 hw1 => (by rw [← hS]; exact arrangedP_T A n c l w1 (hr.ext hw1.ext.ext) hA (by omega)); rintro v H' ⟨x, hx, hcx, rfl, rfl⟩; (try simp only [List.append_nil])) | ((with_reducible apply u_q); exact rfl; exact rfl; exact rfl; exact rfl)) | ((with_reducible apply t_id); first | (apply t_region; kernel_rfl)))
    all_goals (rw [hsl] at hx hcx)
    all_goals exact ⟨by trivial, x, ⟨hx, hcx⟩, by (rw [hsl]; (repeat (first | exact FrSub.nil | (apply FrSub.cons; exact rfl)))), by (repeat (first | exact HpSub.refl _ | (apply HpSub.consE; (repeat (first | exact P0 | apply P1 | apply PA)); exact rfl) | apply HpSub.appC | apply HpSub.skipX | apply HpSub.skip | apply HpSub.skipApp | exact HpSub.nil))⟩
  rintro x ⟨hx, hcx⟩
  rcases x with _ | ⟨g, cp⟩
  · obtain rfl := hx rfl
    simp only [clA, clC, clH, List.nil_append]
    rw [hti]
    repeat' (first | ((with_reducible apply oq_id); first | (apply oq_fn; exact rfl; first | exact trivial | (refine ⟨?_, ?_⟩ <;> omega) | (refine ⟨?_, ?_, ?_⟩ <;> omega) | omega | skip)) | ((with_reducible apply tl_id); first | ((with_reducible apply tl_nil)) | ((with_reducible apply u_q); exact rfl; exact rfl; exact rfl; exact rfl)) | ((with_reducible apply t_id); first | ((with_reducible apply t_seq)) | (apply t_region; kernel_rfl) | ((with_reducible apply t_block))) | with_reducible apply q_thenN)
    apply t_loopK (ι := Unit) [1, 2, 16, 17] (fun _ => [(18, .int .i64 0), (5, .slice none 0 0)]) (fun _ => []) (fun _ => True) (fun _ => 0) (())
    (repeat (first | exact KeepF.nil | (apply KeepF.cons; exact rfl) | apply KeepF.skip))
    (repeat (first | exact FrSub.nil | (apply FrSub.cons; exact rfl)))
    (repeat (first | exact HpSub.refl _ | (apply HpSub.consE; (repeat (first | exact P0 | apply P1 | apply PA)); exact rfl) | exact HpSub.nil))
    · trivial
    rintro ⟨⟩ -
    repeat' (first | ((with_reducible apply oq_id); first | ((with_reducible apply oq_lssF); exact rfl; exact rfl; omega) | (apply oq_fn; exact rfl; first | exact trivial | (refine ⟨?_, ?_⟩ <;> omega) | (refine ⟨?_, ?_, ?_⟩ <;> omega) | omega | skip)) | ((with_reducible apply tl_id); first | ((with_reducible apply tl_nil)) | ((with_reducible apply u_q); exact rfl; exact rfl; exact rfl; exact rfl)) | ((with_reducible apply t_id); first | ((with_reducible apply t_seq)) | (apply t_region; kernel_rfl) | ((with_reducible apply t_condF); exact rfl) | ((with_reducible apply t_ret)) | ((with_reducible apply t_exit))) | with_reducible apply q_thenN | with_reducible apply q_thenE | ((with_reducible apply q_blockE); exact rfl) | ((with_reducible apply end_ret)) | exact rvs_nil | ((with_reducible apply rvs_cons)) | ((with_reducible apply rv_tmp); exact rfl))
    all_goals exact ⟨_, ⟨none, fun _ => rfl, rfl, rfl⟩, HpSub.nil⟩
  simp only [clA, clC, clH, List.cons_append, List.nil_append] at hcx ⊢
  repeat' (first | ((with_reducible apply oq_id); first | (apply oq_fn; exact rfl; first | exact trivial | (refine ⟨?_, ?_⟩ <;> omega) | (refine ⟨?_, ?_, ?_⟩ <;> omega) | omega | skip)) | ((with_reducible apply tl_id); first | ((with_reducible apply tl_nil)) | ((with_reducible apply u_q); exact rfl; exact rfl; exact rfl; exact rfl)) | ((with_reducible apply t_id); first | ((with_reducible apply t_seq)) | (apply t_region; kernel_rfl) | ((with_reducible apply t_block))) | with_reducible apply q_thenN)
  apply t_loopK (GH := []) (ι := Nat × Option (Nat × Nat)) [1, 2, 16, 17] (fun z => [(18, .int .i64 (z.1 : Nat)), (5, .slice (clA z.2) (tiTo d S z.1).length (clC z.2))]) (fun z => clH 99 3 (tiB (tiTo d S z.1)) z.2 ++ [(g, shB S, some (101, 3, cp)), (b2, [.int .i64 d.most, .int .i64 d.rest, .int .i64 d.win, .int .i64 d.sum], some (74, 4, 1))]) (fun z => z.1 ≤ n ∧ (z.2 = none → (tiTo d S z.1).length = 0)) (fun z => n - z.1) ((0, none))
  (repeat (first | exact KeepF.nil | (apply KeepF.cons; exact rfl) | apply KeepF.skip))
  (repeat (first | exact FrSub.nil | (apply FrSub.cons; exact rfl) | (apply FrSub.consE; exact rfl; (congr 1))))
  ((try simp only [List.append_nil]); (repeat (first | exact HpSub.refl _ | (apply HpSub.consE; (repeat (first | exact P0 | apply P1 | apply PA)); exact rfl) | apply HpSub.appC | apply HpSub.skipX | apply HpSub.skip | apply HpSub.skipApp | exact HpSub.nil)))
  · exact ⟨Nat.zero_le _, fun _ => rfl⟩
  rintro ⟨i, o⟩ ⟨hi, ho⟩
  simp only at hi ho
  simp only [List.append_nil]
  have htl := tiTo_len d S i
  by_cases hlt : i < n
  · obtain ⟨x, hx⟩ : ∃ x, S[i]? = some x := ⟨_, List.getElem?_eq_getElem (by omega)⟩
    have hxo := hall x (List.mem_of_getElem? hx)
    have hxo' := hxo
    unfold shOk at hxo'
    obtain ⟨q0, q1, q2⟩ := sh_at hx
    refine t_cut (ι := Unit) (fun _ => [(1, .slice (some ⟨g, 0, none⟩) n cp), (2, .pointer (some ⟨b2, 0, none⟩)), (16, .slice (some ⟨g, 0, none⟩) n cp), (17, .int .i64 (n : Nat)), (18, .int .i64 (i : Nat)), (5, .slice (clA o) (tiTo d S i).length (clC o)), (19, .bool true)]) (fun _ => clH 99 3 (tiB (tiTo d S i)) o ++ [(g, shB S, some (101, 3, cp)), (b2, [.int .i64 d.most, .int .i64 d.rest, .int .i64 d.win, .int .i64 d.sum], some (74, 4, 1))]) (fun _ => True) ?_ ?_
    · repeat' (first | ((with_reducible apply oq_id); first | ((with_reducible apply oq_lssT); exact rfl; exact rfl; omega)) | ((with_reducible apply tl_id); first | ((with_reducible apply tl_nil)) | ((with_reducible apply u_q); exact rfl; exact rfl; exact rfl; exact rfl)) | ((with_reducible apply t_id); first | (apply t_region; kernel_rfl)))
      all_goals exact ⟨rfl, (), trivial, by (repeat (first | exact FrSub.nil | (apply FrSub.cons; exact rfl))), by (repeat (first | exact HpSub.refl _ | (apply HpSub.consE; (repeat (first | exact P0 | apply P1 | apply PA)); exact rfl) | apply HpSub.skipX | apply HpSub.skip | exact HpSub.nil))⟩
    rintro ⟨⟩ -
    refine t_cut (ι := Unit) (fun _ => [(1, .slice (some ⟨g, 0, none⟩) n cp), (2, .pointer (some ⟨b2, 0, none⟩)), (16, .slice (some ⟨g, 0, none⟩) n cp), (17, .int .i64 (n : Nat)), (18, .int .i64 (i : Nat)), (5, .slice (clA o) (tiTo d S i).length (clC o))]) (fun _ => clH 99 3 (tiB (tiTo d S i)) o ++ [(g, shB S, some (101, 3, cp)), (b2, [.int .i64 d.most, .int .i64 d.rest, .int .i64 d.win, .int .i64 d.sum], some (74, 4, 1))]) (fun _ => True) ?_ ?_
    · repeat' (first | ((with_reducible apply t_id); first | ((with_reducible apply t_condT); exact rfl) | ((with_reducible apply t_skip))))
      all_goals exact ⟨rfl, (), trivial, by (repeat (first | exact FrSub.nil | (apply FrSub.cons; exact rfl))), by (repeat (first | exact HpSub.refl _ | (apply HpSub.consE; (repeat (first | exact P0 | apply P1 | apply PA)); exact rfl) | apply HpSub.skipX | apply HpSub.skip | exact HpSub.nil))⟩
    rintro ⟨⟩ -
    refine t_cut (ι := Option (Nat × Nat)) (fun o => [(1, .slice (some ⟨g, 0, none⟩) n cp), (2, .pointer (some ⟨b2, 0, none⟩)), (16, .slice (some ⟨g, 0, none⟩) n cp), (17, .int .i64 (n : Nat)), (18, .int .i64 (i : Nat)), (5, .slice (clA o) (tiTo d S (i + 1)).length (clC o))]) (fun o => clH 99 3 (tiB (tiTo d S (i + 1))) o ++ [(g, shB S, some (101, 3, cp)), (b2, [.int .i64 d.most, .int .i64 d.rest, .int .i64 d.win, .int .i64 d.sum], some (74, 4, 1))]) (fun o => o = none → (tiTo d S (i + 1)).length = 0) ?_ ?_
    · refine t_block ?_
      refine t_cut (ι := Nat) (fun b7 => [(1, .slice (some ⟨g, 0, none⟩) n cp), (2, .pointer (some ⟨b2, 0, none⟩)), (16, .slice (some ⟨g, 0, none⟩) n cp), (17, .int .i64 (n : Nat)), (18, .int .i64 (i : Nat)), (5, .slice (clA o) (tiTo d S i).length (clC o)), (6, .int .i64 (i : Nat)), (7, .pointer (some ⟨b7, 0, none⟩))]) (fun b7 => (b7, [.int .i64 x.who, .int .i64 x.fr, .int .i64 x.to], some (101, 3, 1)) :: (clH 99 3 (tiB (tiTo d S i)) o ++ [(g, shB S, some (101, 3, cp)), (b2, [.int .i64 d.most, .int .i64 d.rest, .int .i64 d.win, .int .i64 d.sum], some (74, 4, 1))])) (fun _ => True) ?_ ?_
      · repeat' (first | ((with_reducible apply oq_id); first | (focus ((with_reducible apply oq_indexAddrN); exact rfl; exact rfl; exact rfl; exact rfl; omega)) | (apply oq_fn; exact rfl; first | exact trivial | (refine ⟨?_, ?_⟩ <;> omega) | (refine ⟨?_, ?_, ?_⟩ <;> omega) | omega | skip) | ((with_reducible apply oq_loadAgg); exact rfl; exact rfl)) | ((with_reducible apply tl_id); first | ((with_reducible apply tl_nil)) | ((with_reducible apply u_q); exact rfl; exact rfl; exact rfl; exact rfl) | ((with_reducible apply u_s0); exact rfl; exact rfl) | ((with_reducible apply u_s); exact rfl; exact rfl; exact rfl)) | ((with_reducible apply os_id); first | ((with_reducible apply os_x); exact rfl) | ((with_reducible apply os_storeAgg); exact rfl; exact rfl; exact rfl; exact rfl; exact rfl)) | ((with_reducible apply ox_id); first | ((with_reducible apply ox_alloc); exact rfl; intro _)) | ((with_reducible apply rd_id); first | (apply Rd.own; (repeat (first | exact P0 | apply P1 | apply PA)); first | exact q0 | exact q1 | exact q2 | exact r0 | exact r1 | exact r2; done)) | ((with_reducible apply t_id); first | (apply t_region; kernel_rfl)) | exact P0 | exact Rdn.zero | apply Rdn.succ | ((with_reducible apply Norm.nil); exact rfl) | ((with_reducible apply Norm.cons); exact rfl) | exact Nat.le_of_ble_eq_true rfl)
        all_goals exact ⟨rfl, _, trivial, by (repeat (first | exact FrSub.nil | (apply FrSub.cons; exact rfl))), by (repeat (first | exact HpSub.refl _ | (apply HpSub.consE; (repeat (first | exact P0 | apply P1 | apply PA)); exact rfl) | apply HpSub.appC | apply HpSub.skipX | apply HpSub.skip | apply HpSub.skipApp | exact HpSub.nil))⟩
      rintro b7 -
      refine t_cut (ι := Unit) (fun _ => [(1, .slice (some ⟨g, 0, none⟩) n cp), (2, .pointer (some ⟨b2, 0, none⟩)), (16, .slice (some ⟨g, 0, none⟩) n cp), (17, .int .i64 (n : Nat)), (18, .int .i64 (i : Nat)), (5, .slice (clA o) (tiTo d S i).length (clC o)), (6, .int .i64 (i : Nat)), (7, .pointer (some ⟨b7, 0, none⟩)), (8, .int .i64 0)]) (fun _ => (b7, [.int .i64 x.who, .int .i64 x.fr, .int .i64 x.to], some (101, 3, 1)) :: (clH 99 3 (tiB (tiTo d S i)) o ++ [(g, shB S, some (101, 3, cp)), (b2, [.int .i64 d.most, .int .i64 d.rest, .int .i64 d.win, .int .i64 d.sum], some (74, 4, 1))])) (fun _ => True) ?_ ?_
      · repeat' (first | ((with_reducible apply oq_id); first | (apply oq_fn; exact rfl; first | exact trivial | (refine ⟨?_, ?_⟩ <;> omega) | (refine ⟨?_, ?_, ?_⟩ <;> omega) | omega | skip)) | ((with_reducible apply tl_id); first | ((with_reducible apply tl_nil)) | ((with_reducible apply u_q); exact rfl; exact rfl; exact rfl; exact rfl)) | ((with_reducible apply t_id); first | (apply t_region; kernel_rfl)))
        all_goals exact ⟨rfl, (), trivial, by (repeat (first | exact FrSub.nil | (apply FrSub.cons; exact rfl))), by (repeat (first | exact HpSub.refl _ | (apply HpSub.consE; (repeat (first | exact P0 | apply P1 | apply PA)); exact rfl) | apply HpSub.skipX | apply HpSub.skip | exact HpSub.nil))⟩
      rintro ⟨⟩ -
      refine t_cut (ι := Unit) (fun _ => [(1, .slice (some ⟨g, 0, none⟩) n cp), (2, .pointer (some ⟨b2, 0, none⟩)), (16, .slice (some ⟨g, 0, none⟩) n cp), (17, .int .i64 (n : Nat)), (18, .int .i64 (i : Nat)), (5, .slice (clA o) (tiTo d S i).length (clC o)), (6, .int .i64 (i : Nat)), (7, .pointer (some ⟨b7, 0, none⟩)), (8, .int .i64 (workT S i x d.win))]) (fun _ => (b7, [.int .i64 x.who, .int .i64 x.fr, .int .i64 x.to], some (101, 3, 1)) :: (clH 99 3 (tiB (tiTo d S i)) o ++ [(g, shB S, some (101, 3, cp)), (b2, [.int .i64 d.most, .int .i64 d.rest, .int .i64 d.win, .int .i64 d.sum], some (74, 4, 1))])) (fun _ => True) ?_ ?_
      · repeat' (first | ((with_reducible apply oq_id); first | (focus ((with_reducible apply oq_sliceL (l := i)); exact rfl; exact rfl; exact rfl; exact rfl; omega; omega; omega)) | (apply oq_fn; exact rfl; first | exact trivial | (refine ⟨?_, ?_⟩ <;> omega) | (refine ⟨?_, ?_, ?_⟩ <;> omega) | omega | skip)) | ((with_reducible apply tl_id); first | ((with_reducible apply tl_nil)) | ((with_reducible apply u_q); exact rfl; exact rfl; exact rfl; exact rfl)) | ((with_reducible apply t_id); first | ((with_reducible apply t_seq)) | (apply t_region; kernel_rfl) | ((with_reducible apply t_block))) | with_reducible apply q_thenN)
        apply t_loopK (GH := []) (ι := Nat) [1, 2, 5, 6, 7, 16, 17, 18, 25, 26] (fun j => [(27, .int .i64 (j : Nat)), (8, .int .i64 (wkJ S i x d.win j))]) (fun _ => (b7, [.int .i64 x.who, .int .i64 x.fr, .int .i64 x.to], some (101, 3, 1)) :: (clH 99 3 (tiB (tiTo d S i)) o ++ [(g, shB S, some (101, 3, cp)), (b2, [.int .i64 d.most, .int .i64 d.rest, .int .i64 d.win, .int .i64 d.sum], some (74, 4, 1))])) (fun j => j ≤ n - i) (fun j => n - i - j) (0)
        (repeat (first | exact KeepF.nil | (apply KeepF.cons; exact rfl) | apply KeepF.skip))
        (repeat (first | exact FrSub.nil | (apply FrSub.cons; exact rfl)))
        ((try simp only [List.append_nil]); (repeat (first | exact HpSub.refl _ | (apply HpSub.consE; (repeat (first | exact P0 | apply P1 | apply PA)); exact rfl) | apply HpSub.appC | apply HpSub.skipX | apply HpSub.skip | apply HpSub.skipApp | exact HpSub.nil)))
        · exact Nat.zero_le _
        rintro j hj
        try simp only [List.cons_append, List.nil_append]
        simp only [List.append_nil]
        have hwin := wkJ_in hall (i := i) (x := x) (win := d.win) (j := j) (by omega)
        by_cases hjl : j < n - i
        · obtain ⟨y, hy⟩ : ∃ y, S[i + j]? = some y := ⟨_, List.getElem?_eq_getElem (by omega)⟩
          have hyo := hall y (List.mem_of_getElem? hy)
          unfold shOk at hyo
          have hsu := wkJ_succ (x := x) (win := d.win) hy
          obtain ⟨r0, r1, r2⟩ := sh_at hy
          rw [show 0 + (i + j) * 3 = 0 + i * 3 + j * 3 by omega] at r0 r1 r2
          unfold minT at hsu
          by_cases hyw : y.who = x.who
          · rw [if_pos hyw] at hsu
            repeat' (first | ((with_reducible apply oq_id); first | (focus ((with_reducible apply oq_indexAddrN); exact rfl; exact rfl; exact rfl; exact rfl; omega)) | ((with_reducible apply oq_addE (k := wkJ S i x d.win (j + 1))); exact rfl; exact rfl; omega) | ((with_reducible apply oq_lssT); exact rfl; exact rfl; omega) | ((with_reducible apply oq_eqlT); exact rfl; exact rfl; omega) | (apply oq_fn; exact rfl; first | exact trivial | (refine ⟨?_, ?_⟩ <;> omega) | (refine ⟨?_, ?_, ?_⟩ <;> omega) | omega | skip) | ((with_reducible apply oq_load); exact rfl; exact rfl) | ((with_reducible apply oq_loadAgg); exact rfl; exact rfl)) | ((with_reducible apply tl_id); first | ((with_reducible apply tl_nil)) | ((with_reducible apply u_q); exact rfl; exact rfl; exact rfl; exact rfl) | ((with_reducible apply u_s0); exact rfl; exact rfl) | ((with_reducible apply u_s); exact rfl; exact rfl; exact rfl)) | ((with_reducible apply os_id); first | ((with_reducible apply os_x); exact rfl) | ((with_reducible apply os_storeAgg); exact rfl; exact rfl; exact rfl; exact rfl; exact rfl)) | ((with_reducible apply ox_id); first | ((with_reducible apply ox_alloc); exact rfl; intro _)) | ((with_reducible apply rd_id); first | (apply Rd.own; (repeat (first | exact P0 | apply P1 | apply PA)); first | exact q0 | exact q1 | exact q2 | exact r0 | exact r1 | exact r2; done) | (apply Rd.own; (repeat (first | exact P0 | apply P1 | apply PA)); exact rfl; done)) | ((with_reducible apply t_id); first | ((with_reducible apply t_seq)) | (apply t_region; kernel_rfl) | ((with_reducible apply t_condT); exact rfl) | ((with_reducible apply t_skip)) | ((with_reducible apply t_block))) | with_reducible apply q_thenN | with_reducible apply q_blockN | exact P0 | exact Rdn.zero | apply Rdn.succ | ((with_reducible apply Norm.nil); exact rfl) | ((with_reducible apply Norm.cons); exact rfl) | exact Nat.le_of_ble_eq_true rfl)
            all_goals (refine ⟨j + 1, (by omega), (by omega), ?_, ?_⟩)
            all_goals first
              | ((try simp only [List.cons_append, List.nil_append]); (repeat (first | exact FrSub.nil | (apply FrSub.cons; exact rfl))); done)
              | ((try simp only [List.cons_append, List.nil_append]); (repeat (first | exact HpSub.refl _ | (apply HpSub.consE; (repeat (first | exact P0 | apply P1 | apply PA)); exact rfl) | apply HpSub.appC | apply HpSub.skipX | apply HpSub.skip | apply HpSub.skipApp | exact HpSub.nil)); done)
          · rw [if_neg hyw, Int.add_zero] at hsu
            rw [← hsu]
            repeat' (first | ((with_reducible apply oq_id); first | (focus ((with_reducible apply oq_indexAddrN); exact rfl; exact rfl; exact rfl; exact rfl; omega)) | ((with_reducible apply oq_lssT); exact rfl; exact rfl; omega) | ((with_reducible apply oq_eqlF); exact rfl; exact rfl; omega) | (apply oq_fn; exact rfl; first | exact trivial | (refine ⟨?_, ?_⟩ <;> omega) | (refine ⟨?_, ?_, ?_⟩ <;> omega) | omega | skip) | ((with_reducible apply oq_load); exact rfl; exact rfl) | ((with_reducible apply oq_loadAgg); exact rfl; exact rfl)) | ((with_reducible apply tl_id); first | ((with_reducible apply tl_nil)) | ((with_reducible apply u_q); exact rfl; exact rfl; exact rfl; exact rfl) | ((with_reducible apply u_s0); exact rfl; exact rfl) | ((with_reducible apply u_s); exact rfl; exact rfl; exact rfl)) | ((with_reducible apply os_id); first | ((with_reducible apply os_x); exact rfl) | ((with_reducible apply os_storeAgg); exact rfl; exact rfl; exact rfl; exact rfl; exact rfl)) | ((with_reducible apply ox_id); first | ((with_reducible apply ox_alloc); exact rfl; intro _)) | ((with_reducible apply rd_id); first | (apply Rd.own; (repeat (first | exact P0 | apply P1 | apply PA)); first | exact q0 | exact q1 | exact q2 | exact r0 | exact r1 | exact r2; done) | (apply Rd.own; (repeat (first | exact P0 | apply P1 | apply PA)); exact rfl; done)) | ((with_reducible apply t_id); first | ((with_reducible apply t_seq)) | (apply t_region; kernel_rfl) | ((with_reducible apply t_condT); exact rfl) | ((with_reducible apply t_condF); exact rfl) | ((with_reducible apply t_skip)) | ((with_reducible apply t_block))) | with_reducible apply q_thenN | with_reducible apply q_blockN | exact P0 | exact Rdn.zero | apply Rdn.succ | ((with_reducible apply Norm.nil); exact rfl) | ((with_reducible apply Norm.cons); exact rfl) | exact Nat.le_of_ble_eq_true rfl)
            all_goals (refine ⟨j + 1, (by omega), (by omega), ?_, ?_⟩)
            all_goals first
              | ((try simp only [List.cons_append, List.nil_append]); (repeat (first | exact FrSub.nil | (apply FrSub.cons; exact rfl))); done)
              | ((try simp only [List.cons_append, List.nil_append]); (repeat (first | exact HpSub.refl _ | (apply HpSub.consE; (repeat (first | exact P0 | apply P1 | apply PA)); exact rfl) | apply HpSub.appC | apply HpSub.skipX | apply HpSub.skip | apply HpSub.skipApp | exact HpSub.nil)); done)
        · have hwa := wkJ_all (S := S) (i := i) (x := x) (win := d.win) (j := j) (by omega)
          rw [hwa]
          repeat' (first | ((with_reducible apply oq_id); first | ((with_reducible apply oq_lssF); exact rfl; exact rfl; omega)) | ((with_reducible apply tl_id); first | ((with_reducible apply tl_nil)) | ((with_reducible apply u_q); exact rfl; exact rfl; exact rfl; exact rfl)) | ((with_reducible apply t_id); first | ((with_reducible apply t_seq)) | (apply t_region; kernel_rfl) | ((with_reducible apply t_condF); exact rfl) | ((with_reducible apply t_exit))) | with_reducible apply q_thenN | with_reducible apply q_thenE | ((with_reducible apply q_blockE); exact rfl))
          all_goals exact ⟨rfl, (), trivial, by (repeat (first | exact FrSub.nil | (apply FrSub.cons; exact rfl))), by (repeat (first | exact HpSub.refl _ | (apply HpSub.consE; (repeat (first | exact P0 | apply P1 | apply PA)); exact rfl) | apply HpSub.appC | apply HpSub.skipX | apply HpSub.skip | apply HpSub.skipApp | exact HpSub.nil))⟩
      rintro ⟨⟩ -
      have hwk := work_eq hsrt hfit hx (w := d.win) (by omega)
      have hwb : 0 ≤ workT S i x d.win ∧ workT S i x d.win ≤ 1000000000 := by
        have h1 := wkJ_all (S := S) (i := i) (x := x) (win := d.win) (j := n - i) (by omega)
        have h2 := wkJ_in hall (i := i) (x := x) (win := d.win) (j := n - i) (by omega)
        rw [h1] at h2
        omega
      obtain ⟨bB, hbB⟩ : ∃ b, restB d S i x = b := ⟨_, rfl⟩
      refine t_cut (ι := Unit) (fun _ => [(1, .slice (some ⟨g, 0, none⟩) n cp), (2, .pointer (some ⟨b2, 0, none⟩)), (16, .slice (some ⟨g, 0, none⟩) n cp), (17, .int .i64 (n : Nat)), (18, .int .i64 (i : Nat)), (5, .slice (clA o) (tiTo d S i).length (clC o)), (6, .int .i64 (i : Nat)), (7, .pointer (some ⟨b7, 0, none⟩)), (8, .int .i64 (workT S i x d.win)), (11, .bool (!bB))]) (fun _ => (b7, [.int .i64 x.who, .int .i64 x.fr, .int .i64 x.to], some (101, 3, 1)) :: (clH 99 3 (tiB (tiTo d S i)) o ++ [(g, shB S, some (101, 3, cp)), (b2, [.int .i64 d.most, .int .i64 d.rest, .int .i64 d.win, .int .i64 d.sum], some (74, 4, 1))])) (fun _ => True) ?_ ?_
      · by_cases h4 : i = 0
        · subst h4
          obtain rfl : bB = false := by rw [← hbB]; rfl
          repeat' (first | ((with_reducible apply oq_id); first | ((with_reducible apply oq_eqlT); exact rfl; exact rfl; omega) | (apply oq_fn; exact rfl; first | exact trivial | (refine ⟨?_, ?_⟩ <;> omega) | (refine ⟨?_, ?_, ?_⟩ <;> omega) | omega | skip)) | ((with_reducible apply gx_id); first | ((with_reducible apply v_nil)) | ((with_reducible apply v_q); exact rfl; exact rfl; exact rfl) | ((with_reducible apply v_skip); exact rfl; exact rfl; exact rfl)) | ((with_reducible apply t_id); first | (apply t_mix (id := 13) [0, 1, 2, 3, 4, 5, 6, 7, 8, 9, 10, 11, 12, 13, 14, 15, 16, 17, 18, 19, 20, 21, 22, 23, 24, 25, 26, 27] 0 #[false, false, false, false, false, false, false, false, false, false, false, false, false, false, false, false, false, false, false, false, false, false, false, false, false, false, false, false]; kernel_rfl; kernel_rfl; exact rfl)) | ((with_reducible apply al_id); first | (apply al_done; decide +kernel)))
          all_goals exact ⟨rfl, (), trivial, by (repeat (first | exact FrSub.nil | (apply FrSub.cons; exact rfl))), by (repeat (first | exact HpSub.refl _ | (apply HpSub.consE; (repeat (first | exact P0 | apply P1 | apply PA)); exact rfl) | apply HpSub.appC | apply HpSub.skipX | apply HpSub.skip | apply HpSub.skipApp | exact HpSub.nil))⟩
        obtain ⟨y, hy⟩ : ∃ y, S[i - 1]? = some y := ⟨_, List.getElem?_eq_getElem (by omega)⟩
        obtain ⟨r0, r1, r2⟩ := sh_at hy
        have hyo := hall y (List.mem_of_getElem? hy)
        unfold shOk at hyo
        unfold restB at hbB
        rw [hy, show decide (0 < i) = true by simp; omega, Bool.true_and] at hbB
        by_cases h5 : y.who = x.who
        · have hyx := (hfit i x hx).2 y (by omega) hy h5
          by_cases h6 : x.fr - y.to < d.rest
          · obtain rfl : bB = true := by rw [← hbB]; simp [h5, h6]
            repeat' (first | ((with_reducible apply oq_id); first | (focus ((with_reducible apply oq_indexAddrN); exact rfl; exact rfl; exact rfl; exact rfl; omega)) | ((with_reducible apply oq_subE (k := ((i - 1 : Nat) : Int))); exact rfl; exact rfl; omega) | ((with_reducible apply oq_eqlF); exact rfl; exact rfl; omega) | ((with_reducible apply oq_neqF); exact rfl; exact rfl; omega) | ((with_reducible apply oq_geqF); exact rfl; exact rfl; omega) | (apply oq_fn; exact rfl; first | exact trivial | (refine ⟨?_, ?_⟩ <;> omega) | (refine ⟨?_, ?_, ?_⟩ <;> omega) | omega | skip) | ((with_reducible apply oq_load); exact rfl; exact rfl)) | ((with_reducible apply gx_id); first | ((with_reducible apply v_nil)) | ((with_reducible apply v_q); exact rfl; exact rfl; exact rfl)) | ((with_reducible apply rd_id); first | (apply Rd.own; (repeat (first | exact P0 | apply P1 | apply PA)); first | exact q0 | exact q1 | exact q2 | exact r0 | exact r1 | exact r2; done) | (apply Rd.own; (repeat (first | exact P0 | apply P1 | apply PA)); exact rfl; done)) | ((with_reducible apply t_id); first | (apply t_mix (id := 13) [0, 1, 2, 3, 4, 5, 6, 7, 8, 9, 10, 11, 12, 13, 14, 15, 16, 17, 18, 19, 20, 21, 22, 23, 24, 25, 26, 27] 0 #[false, false, false, false, false, false, false, false, false, false, false, false, false, false, false, false, false, false, false, false, false, false, false, false, false, false, false, false]; kernel_rfl; kernel_rfl; exact rfl)) | ((with_reducible apply al_id); first | (apply al_done; decide +kernel)))
            all_goals exact ⟨rfl, (), trivial, by (repeat (first | exact FrSub.nil | (apply FrSub.cons; exact rfl))), by (repeat (first | exact HpSub.refl _ | (apply HpSub.consE; (repeat (first | exact P0 | apply P1 | apply PA)); exact rfl) | apply HpSub.appC | apply HpSub.skipX | apply HpSub.skip | apply HpSub.skipApp | exact HpSub.nil))⟩
          · obtain rfl : bB = false := by rw [← hbB]; simp [h5, h6]
            repeat' (first | ((with_reducible apply oq_id); first | (focus ((with_reducible apply oq_indexAddrN); exact rfl; exact rfl; exact rfl; exact rfl; omega)) | ((with_reducible apply oq_subE (k := ((i - 1 : Nat) : Int))); exact rfl; exact rfl; omega) | ((with_reducible apply oq_eqlF); exact rfl; exact rfl; omega) | ((with_reducible apply oq_neqF); exact rfl; exact rfl; omega) | ((with_reducible apply oq_geqT); exact rfl; exact rfl; omega) | (apply oq_fn; exact rfl; first | exact trivial | (refine ⟨?_, ?_⟩ <;> omega) | (refine ⟨?_, ?_, ?_⟩ <;> omega) | omega | skip) | ((with_reducible apply oq_load); exact rfl; exact rfl)) | ((with_reducible apply gx_id); first | ((with_reducible apply v_nil)) | ((with_reducible apply v_q); exact rfl; exact rfl; exact rfl)) | ((with_reducible apply rd_id); first | (apply Rd.own; (repeat (first | exact P0 | apply P1 | apply PA)); first | exact q0 | exact q1 | exact q2 | exact r0 | exact r1 | exact r2; done) | (apply Rd.own; (repeat (first | exact P0 | apply P1 | apply PA)); exact rfl; done)) | ((with_reducible apply t_id); first | (apply t_mix (id := 13) [0, 1, 2, 3, 4, 5, 6, 7, 8, 9, 10, 11, 12, 13, 14, 15, 16, 17, 18, 19, 20, 21, 22, 23, 24, 25, 26, 27] 0 #[false, false, false, false, false, false, false, false, false, false, false, false, false, false, false, false, false, false, false, false, false, false, false, false, false, false, false, false]; kernel_rfl; kernel_rfl; exact rfl)) | ((with_reducible apply al_id); first | (apply al_done; decide +kernel)))
            all_goals exact ⟨rfl, (), trivial, by (repeat (first | exact FrSub.nil | (apply FrSub.cons; exact rfl))), by (repeat (first | exact HpSub.refl _ | (apply HpSub.consE; (repeat (first | exact P0 | apply P1 | apply PA)); exact rfl) | apply HpSub.appC | apply HpSub.skipX | apply HpSub.skip | apply HpSub.skipApp | exact HpSub.nil))⟩
        · obtain rfl : bB = false := by rw [← hbB]; simp [h5]
          repeat' (first | ((with_reducible apply oq_id); first | (focus ((with_reducible apply oq_indexAddrN); exact rfl; exact rfl; exact rfl; exact rfl; omega)) | ((with_reducible apply oq_subE (k := ((i - 1 : Nat) : Int))); exact rfl; exact rfl; omega) | ((with_reducible apply oq_eqlF); exact rfl; exact rfl; omega) | ((with_reducible apply oq_neqT); exact rfl; exact rfl; omega) | (apply oq_fn; exact rfl; first | exact trivial | (refine ⟨?_, ?_⟩ <;> omega) | (refine ⟨?_, ?_, ?_⟩ <;> omega) | omega | skip) | ((with_reducible apply oq_load); exact rfl; exact rfl)) | ((with_reducible apply gx_id); first | ((with_reducible apply v_nil)) | ((with_reducible apply v_q); exact rfl; exact rfl; exact rfl) | ((with_reducible apply v_skip); exact rfl; exact rfl; exact rfl)) | ((with_reducible apply rd_id); first | (apply Rd.own; (repeat (first | exact P0 | apply P1 | apply PA)); first | exact q0 | exact q1 | exact q2 | exact r0 | exact r1 | exact r2; done) | (apply Rd.own; (repeat (first | exact P0 | apply P1 | apply PA)); exact rfl; done)) | ((with_reducible apply t_id); first | (apply t_mix (id := 13) [0, 1, 2, 3, 4, 5, 6, 7, 8, 9, 10, 11, 12, 13, 14, 15, 16, 17, 18, 19, 20, 21, 22, 23, 24, 25, 26, 27] 0 #[false, false, false, false, false, false, false, false, false, false, false, false, false, false, false, false, false, false, false, false, false, false, false, false, false, false, false, false]; kernel_rfl; kernel_rfl; exact rfl)) | ((with_reducible apply al_id); first | (apply al_done; decide +kernel)))
          all_goals exact ⟨rfl, (), trivial, by (repeat (first | exact FrSub.nil | (apply FrSub.cons; exact rfl))), by (repeat (first | exact HpSub.refl _ | (apply HpSub.consE; (repeat (first | exact P0 | apply P1 | apply PA)); exact rfl) | apply HpSub.appC | apply HpSub.skipX | apply HpSub.skip | apply HpSub.skipApp | exact HpSub.nil))⟩
      rintro ⟨⟩ -
      obtain ⟨bA, hbA⟩ : ∃ b, decide (x.to - x.fr > d.most) = b := ⟨_, rfl⟩
      obtain ⟨bC, hbC⟩ : ∃ b, decide (workV S x.who x.fr (x.fr + d.win) > d.sum) = b := ⟨_, rfl⟩
      rw [← hwk] at hbC
      refine t_cut (ι := Unit) (fun _ => [(1, .slice (some ⟨g, 0, none⟩) n cp), (2, .pointer (some ⟨b2, 0, none⟩)), (16, .slice (some ⟨g, 0, none⟩) n cp), (17, .int .i64 (n : Nat)), (18, .int .i64 (i : Nat)), (5, .slice (clA o) (tiTo d S i).length (clC o)), (6, .int .i64 (i : Nat)), (7, .pointer (some ⟨b7, 0, none⟩)), (95, .agg #[.int .i64 1, .bool bA, .int .i64 2, .bool bB, .int .i64 3, .bool bC]), (96, .int .i64 0)]) (fun _ => (b7, [.int .i64 x.who, .int .i64 x.fr, .int .i64 x.to], some (101, 3, 1)) :: (clH 99 3 (tiB (tiTo d S i)) o ++ [(g, shB S, some (101, 3, cp)), (b2, [.int .i64 d.most, .int .i64 d.rest, .int .i64 d.win, .int .i64 d.sum], some (74, 4, 1))])) (fun _ => True) ?_ ?_
      · cases bA <;> cases bB <;> cases bC
        all_goals (simp only [decide_eq_true_eq, decide_eq_false_iff_not, gt_iff_lt] at hbA hbC)
        all_goals (repeat' (first | ((with_reducible apply oq_id); first | ((with_reducible apply oq_gtrT); exact rfl; exact rfl; omega) | ((with_reducible apply oq_gtrF); exact rfl; exact rfl; omega) | (apply oq_fn; exact rfl; first | exact trivial | (refine ⟨?_, ?_⟩ <;> omega) | (refine ⟨?_, ?_, ?_⟩ <;> omega) | omega | skip) | ((with_reducible apply oq_load); exact rfl; exact rfl) | ((with_reducible apply oq_build); exact rfl; exact rfl; exact rfl) | ((with_reducible apply oq_buildA); exact rfl; exact rfl; exact rfl; exact rfl)) | ((with_reducible apply tl_id); first | ((with_reducible apply tl_nil)) | ((with_reducible apply u_q); exact rfl; exact rfl; exact rfl; exact rfl)) | ((with_reducible apply rd_id); first | (apply Rd.own; (repeat (first | exact P0 | apply P1 | apply PA)); exact rfl; done)) | ((with_reducible apply t_id); first | (apply t_region; kernel_rfl)) | ((with_reducible apply Norm.nil); exact rfl) | ((with_reducible apply Norm.cons); exact rfl)))
        all_goals exact ⟨rfl, (), trivial, by (repeat (first | exact FrSub.nil | (apply FrSub.cons; exact rfl))), by (repeat (first | exact HpSub.refl _ | (apply HpSub.consE; (repeat (first | exact P0 | apply P1 | apply PA)); exact rfl) | apply HpSub.appC | apply HpSub.skipX | apply HpSub.skip | apply HpSub.skipApp | exact HpSub.nil))⟩
      rintro ⟨⟩ -
      have hT0 : tiTo d S i ++ casK bA bB bC x 0 = tiTo d S i := List.append_nil _
      have hT3 : tiTo d S i ++ casK bA bB bC x 3 = tiTo d S (i + 1) := by
        rw [tiTo_succ hx, casK_all hbA.symm hbB.symm (by rw [← hwk]; exact hbC.symm)]
      repeat' (first | ((with_reducible apply t_id); first | ((with_reducible apply t_block))))
      apply t_loopK (GH := []) (ι := Nat × Option (Nat × Nat)) [1, 2, 6, 7, 16, 17, 18, 95] (fun z => [(96, .int .i64 (z.1 : Nat)), (5, .slice (clA z.2) (tiTo d S i ++ casK bA bB bC x z.1).length (clC z.2))]) (fun z => (b7, [.int .i64 x.who, .int .i64 x.fr, .int .i64 x.to], some (101, 3, 1)) :: (clH 99 3 (tiB (tiTo d S i ++ casK bA bB bC x z.1)) z.2 ++ [(g, shB S, some (101, 3, cp)), (b2, [.int .i64 d.most, .int .i64 d.rest, .int .i64 d.win, .int .i64 d.sum], some (74, 4, 1))])) (fun z => z.1 ≤ 3 ∧ (z.2 = none → (tiTo d S i ++ casK bA bB bC x z.1).length = 0)) (fun z => 3 - z.1) ((0, o))
      (repeat (first | exact KeepF.nil | (apply KeepF.cons; exact rfl) | apply KeepF.skip))
      (repeat (first | exact FrSub.nil | (apply FrSub.cons; exact rfl) | (apply FrSub.consE; exact rfl; (simp only [hT0]))))
      ((try simp only [List.append_nil, hT0]); (repeat (first | exact HpSub.refl _ | (apply HpSub.consE; (repeat (first | exact P0 | apply P1 | apply PA)); exact rfl) | apply HpSub.appC | apply HpSub.skipX | apply HpSub.skip | apply HpSub.skipApp | exact HpSub.nil)))
      · exact ⟨Nat.zero_le _, by (simp only [hT0]; exact ho)⟩
      rintro ⟨k, o2⟩ ⟨hk, ho2⟩
      simp only at hk ho2
      simp only [List.append_nil]
      have hkl : (tiTo d S i ++ casK bA bB bC x k).length ≤ 3 * i + 3 := by
        rw [List.length_append]
        have := casK_len bA bB bC x k
        omega
      rcases (show k = 0 ∨ k = 1 ∨ k = 2 ∨ k = 3 by omega) with rfl | rfl | rfl | rfl
      · obtain ⟨T0, hT⟩ : ∃ T, tiTo d S i ++ casK bA bB bC x 0 = T := ⟨_, rfl⟩
        rw [hT] at hkl ho2 ⊢
        cases bA with
        | false =>
          have e1 : tiTo d S i ++ casK false bB bC x 1 = T0 := by rw [← hT]; simp [casK]
          repeat' (first | ((with_reducible apply oq_id); first | ((with_reducible apply oq_lssT); exact rfl; exact rfl; omega) | (apply oq_fn; exact rfl; first | exact trivial | (refine ⟨?_, ?_⟩ <;> omega) | (refine ⟨?_, ?_, ?_⟩ <;> omega) | omega | skip) | ((with_reducible apply oq_load); exact rfl; exact rfl) | ((with_reducible apply oq_indexAgg); exact rfl; exact rfl; exact rfl; exact rfl)) | ((with_reducible apply tl_id); first | ((with_reducible apply tl_nil)) | ((with_reducible apply u_q); exact rfl; exact rfl; exact rfl; exact rfl) | ((with_reducible apply u_s0); exact rfl; exact rfl) | ((with_reducible apply u_s); exact rfl; exact rfl; exact rfl)) | ((with_reducible apply os_id); first | ((with_reducible apply os_x); exact rfl) | ((with_reducible apply os_storeAgg); exact rfl; exact rfl; exact rfl; exact rfl; exact rfl)) | ((with_reducible apply ox_id); first | ((with_reducible apply ox_alloc); exact rfl; intro _)) | ((with_reducible apply rd_id); first | (apply Rd.own; (repeat (first | exact P0 | apply P1 | apply PA)); exact rfl; done)) | ((with_reducible apply t_id); first | ((with_reducible apply t_seq)) | (apply t_region; kernel_rfl) | ((with_reducible apply t_condT); exact rfl) | ((with_reducible apply t_condF); exact rfl) | ((with_reducible apply t_skip)) | ((with_reducible apply t_block))) | with_reducible apply q_thenN | with_reducible apply q_blockN | exact P0 | ((with_reducible apply Norm.nil); exact rfl) | ((with_reducible apply Norm.cons); exact rfl) | exact Nat.le_of_ble_eq_true rfl | omega)
          all_goals (refine ⟨(1, o2), ⟨(by simp only; omega), (by simp only [e1]; exact ho2)⟩, (by simp only; omega), ?_, ?_⟩)
          all_goals (simp only [e1])
          all_goals first
            | ((try simp only [List.cons_append, List.nil_append]); (repeat (first | exact FrSub.nil | (apply FrSub.cons; exact rfl))); done)
            | ((try simp only [List.cons_append, List.nil_append]); (repeat (first | exact HpSub.refl _ | (apply HpSub.consE; (repeat (first | exact P0 | apply P1 | apply PA)); exact rfl) | apply HpSub.appC | apply HpSub.skipX | apply HpSub.skip | apply HpSub.skipApp | exact HpSub.nil)); done)
        | true =>
          have e1 : tiTo d S i ++ casK true bB bC x 1 = T0 ++ [⟨1, x.who, x.fr⟩] := by rw [← hT]; simp [casK]
          rcases o2 with _ | ⟨go, co⟩
          · have h0 := ho2 rfl
            obtain rfl := List.length_eq_zero_iff.1 h0
            simp only [clA, clC, clH, List.nil_append, List.length_nil]
            repeat' (first | ((with_reducible apply oq_id); first | ((with_reducible apply oq_lssT); exact rfl; exact rfl; omega) | (apply oq_fn; exact rfl; first | exact trivial | (refine ⟨?_, ?_⟩ <;> omega) | (refine ⟨?_, ?_, ?_⟩ <;> omega) | omega | skip) | ((with_reducible apply oq_load); exact rfl; exact rfl) | ((with_reducible apply oq_build); exact rfl; exact rfl; exact rfl) | ((with_reducible apply oq_indexAgg); exact rfl; exact rfl; exact rfl; exact rfl)) | ((with_reducible apply tl_id); first | ((with_reducible apply tl_nil)) | ((with_reducible apply u_q); exact rfl; exact rfl; exact rfl; exact rfl) | ((with_reducible apply u_s0); exact rfl; exact rfl) | ((with_reducible apply u_s); exact rfl; exact rfl; exact rfl)) | ((with_reducible apply os_id); first | ((with_reducible apply os_x); exact rfl) | ((with_reducible apply os_storeAgg); exact rfl; exact rfl; exact rfl; exact rfl; exact rfl) | ((with_reducible apply os_appendNil (hk := app_ok77)); exact rfl; exact rfl)) | ((with_reducible apply ox_id); first | ((with_reducible apply ox_alloc); exact rfl; intro _) | ((with_reducible apply ox_buildSlice); exact rfl; exact rfl; exact rfl; exact rfl)) | ((with_reducible apply rd_id); first | (apply Rd.own; (repeat (first | exact P0 | apply P1 | apply PA)); exact rfl; done)) | ((with_reducible apply t_id); first | ((with_reducible apply t_seq)) | (apply t_region; kernel_rfl) | ((with_reducible apply t_condT); exact rfl) | ((with_reducible apply t_skip)) | ((with_reducible apply t_block))) | with_reducible apply q_thenN | with_reducible apply q_blockN | exact P0 | exact Rdn.zero | apply Rdn.succ | ((with_reducible apply Norm.nil); exact rfl) | ((with_reducible apply Norm.cons); exact rfl) | (intro gN cN; with_reducible apply tl_id) | exact Nat.le_of_ble_eq_true rfl | exact (rfl : (_ : Bool) = true) | omega | (intro _; with_reducible apply tl_id))
            all_goals (refine ⟨(1, some (gN, cN)), ⟨(by simp only; omega), fun h => by cases h⟩, (by simp only; omega), ?_, ?_⟩)
            all_goals (simp only [e1])
            all_goals first
              | ((try simp only [List.cons_append, List.nil_append]); (repeat (first | exact FrSub.nil | (apply FrSub.cons; exact rfl) | (apply FrSub.consE; exact rfl; (focus (simp; done))))); done)
              | ((try simp only [List.cons_append, List.nil_append]); (repeat (first | exact HpSub.refl _ | (apply HpSub.consE; (repeat (first | exact P0 | apply P1 | apply PA)); first | exact rfl | (focus (simp [tiB_app, tiB, tiCells]; done))) | apply HpSub.appC | apply HpSub.skipX | apply HpSub.skip | apply HpSub.skipApp | exact HpSub.nil)); done)
          · simp only [clA, clC, clH, List.cons_append, List.nil_append]
            repeat' (first | ((with_reducible apply oq_id); first | ((with_reducible apply oq_lssT); exact rfl; exact rfl; omega) | (apply oq_fn; exact rfl; first | exact trivial | (refine ⟨?_, ?_⟩ <;> omega) | (refine ⟨?_, ?_, ?_⟩ <;> omega) | omega | skip) | ((with_reducible apply oq_load); exact rfl; exact rfl) | ((with_reducible apply oq_build); exact rfl; exact rfl; exact rfl) | ((with_reducible apply oq_indexAgg); exact rfl; exact rfl; exact rfl; exact rfl)) | ((with_reducible apply tl_id); first | ((with_reducible apply tl_nil)) | ((with_reducible apply u_q); exact rfl; exact rfl; exact rfl; exact rfl) | ((with_reducible apply u_s0); exact rfl; exact rfl) | ((with_reducible apply u_s); exact rfl; exact rfl; exact rfl)) | ((with_reducible apply os_id); first | ((with_reducible apply os_x); exact rfl) | ((with_reducible apply os_storeAgg); exact rfl; exact rfl; exact rfl; exact rfl; exact rfl) | ((with_reducible apply os_append (hk := app_ok77)); exact rfl; exact rfl; (repeat (first | exact P0 | apply P1 | apply PA)))) | ((with_reducible apply ox_id); first | ((with_reducible apply ox_alloc); exact rfl; intro _) | ((with_reducible apply ox_buildSlice); exact rfl; exact rfl; exact rfl; exact rfl)) | ((with_reducible apply rd_id); first | (apply Rd.own; (repeat (first | exact P0 | apply P1 | apply PA)); exact rfl; done)) | ((with_reducible apply t_id); first | ((with_reducible apply t_seq)) | (apply t_region; kernel_rfl) | ((with_reducible apply t_condT); exact rfl) | ((with_reducible apply t_skip)) | ((with_reducible apply t_block))) | with_reducible apply q_thenN | with_reducible apply q_blockN | exact P0 | exact Rdn.zero | apply Rdn.succ | ((with_reducible apply Norm.nil); exact rfl) | ((with_reducible apply Norm.cons); exact rfl) | exact tiB_len _ | (intro gN cN; with_reducible apply tl_id) | exact Nat.le_of_ble_eq_true rfl | exact (rfl : (_ : Bool) = true) | omega | (intro _; with_reducible apply tl_id))
            all_goals (refine ⟨(1, some (gN, cN)), ⟨(by simp only; omega), fun h => by cases h⟩, (by simp only; omega), ?_, ?_⟩)
            all_goals (simp only [e1])
            all_goals first
              | ((try simp only [List.cons_append, List.nil_append]); (repeat (first | exact FrSub.nil | (apply FrSub.cons; exact rfl) | (apply FrSub.consE; exact rfl; (focus (simp; done))))); done)
              | ((try simp only [List.cons_append, List.nil_append]); (repeat (first | exact HpSub.refl _ | (apply HpSub.consE; (repeat (first | exact P0 | apply P1 | apply PA)); first | exact rfl | (focus (simp [tiB_app, tiB, tiCells]; done))) | apply HpSub.appC | apply HpSub.skipX | apply HpSub.skip | apply HpSub.skipApp | exact HpSub.nil)); done)
      · obtain ⟨T0, hT⟩ : ∃ T, tiTo d S i ++ casK bA bB bC x 1 = T := ⟨_, rfl⟩
        rw [hT] at hkl ho2 ⊢
        cases bB with
        | false =>
          have e1 : tiTo d S i ++ casK bA false bC x 2 = T0 := by rw [← hT]; simp [casK]
          repeat' (first | ((with_reducible apply oq_id); first | ((with_reducible apply oq_lssT); exact rfl; exact rfl; omega) | (apply oq_fn; exact rfl; first | exact trivial | (refine ⟨?_, ?_⟩ <;> omega) | (refine ⟨?_, ?_, ?_⟩ <;> omega) | omega | skip) | ((with_reducible apply oq_load); exact rfl; exact rfl) | ((with_reducible apply oq_indexAgg); exact rfl; exact rfl; exact rfl; exact rfl)) | ((with_reducible apply tl_id); first | ((with_reducible apply tl_nil)) | ((with_reducible apply u_q); exact rfl; exact rfl; exact rfl; exact rfl) | ((with_reducible apply u_s0); exact rfl; exact rfl) | ((with_reducible apply u_s); exact rfl; exact rfl; exact rfl)) | ((with_reducible apply os_id); first | ((with_reducible apply os_x); exact rfl) | ((with_reducible apply os_storeAgg); exact rfl; exact rfl; exact rfl; exact rfl; exact rfl)) | ((with_reducible apply ox_id); first | ((with_reducible apply ox_alloc); exact rfl; intro _)) | ((with_reducible apply rd_id); first | (apply Rd.own; (repeat (first | exact P0 | apply P1 | apply PA)); exact rfl; done)) | ((with_reducible apply t_id); first | ((with_reducible apply t_seq)) | (apply t_region; kernel_rfl) | ((with_reducible apply t_condT); exact rfl) | ((with_reducible apply t_condF); exact rfl) | ((with_reducible apply t_skip)) | ((with_reducible apply t_block))) | with_reducible apply q_thenN | with_reducible apply q_blockN | exact P0 | ((with_reducible apply Norm.nil); exact rfl) | ((with_reducible apply Norm.cons); exact rfl) | exact Nat.le_of_ble_eq_true rfl | omega)
          all_goals (refine ⟨(2, o2), ⟨(by simp only; omega), (by simp only [e1]; exact ho2)⟩, (by simp only; omega), ?_, ?_⟩)
          all_goals (simp only [e1])
          all_goals first
            | ((try simp only [List.cons_append, List.nil_append]); (repeat (first | exact FrSub.nil | (apply FrSub.cons; exact rfl))); done)
            | ((try simp only [List.cons_append, List.nil_append]); (repeat (first | exact HpSub.refl _ | (apply HpSub.consE; (repeat (first | exact P0 | apply P1 | apply PA)); exact rfl) | apply HpSub.appC | apply HpSub.skipX | apply HpSub.skip | apply HpSub.skipApp | exact HpSub.nil)); done)
        | true =>
          have e1 : tiTo d S i ++ casK bA true bC x 2 = T0 ++ [⟨2, x.who, x.fr⟩] := by rw [← hT]; simp [casK]
          rcases o2 with _ | ⟨go, co⟩
          · have h0 := ho2 rfl
            obtain rfl := List.length_eq_zero_iff.1 h0
            simp only [clA, clC, clH, List.nil_append, List.length_nil]
            repeat' (first | ((with_reducible apply oq_id); first | ((with_reducible apply oq_lssT); exact rfl; exact rfl; omega) | (apply oq_fn; exact rfl; first | exact trivial | (refine ⟨?_, ?_⟩ <;> omega) | (refine ⟨?_, ?_, ?_⟩ <;> omega) | omega | skip) | ((with_reducible apply oq_load); exact rfl; exact rfl) | ((with_reducible apply oq_build); exact rfl; exact rfl; exact rfl) | ((with_reducible apply oq_indexAgg); exact rfl; exact rfl; exact rfl; exact rfl)) | ((with_reducible apply tl_id); first | ((with_reducible apply tl_nil)) | ((with_reducible apply u_q); exact rfl; exact rfl; exact rfl; exact rfl) | ((with_reducible apply u_s0); exact rfl; exact rfl) | ((with_reducible apply u_s); exact rfl; exact rfl; exact rfl)) | ((with_reducible apply os_id); first | ((with_reducible apply os_x); exact rfl) | ((with_reducible apply os_storeAgg); exact rfl; exact rfl; exact rfl; exact rfl; exact rfl) | ((with_reducible apply os_appendNil (hk := app_ok77)); exact rfl; exact rfl)) | ((with_reducible apply ox_id); first | ((with_reducible apply ox_alloc); exact rfl; intro _) | ((with_reducible apply ox_buildSlice); exact rfl; exact rfl; exact rfl; exact rfl)) | ((with_reducible apply rd_id); first | (apply Rd.own; (repeat (first | exact P0 | apply P1 | apply PA)); exact rfl; done)) | ((with_reducible apply t_id); first | ((with_reducible apply t_seq)) | (apply t_region; kernel_rfl) | ((with_reducible apply t_condT); exact rfl) | ((with_reducible apply t_skip)) | ((with_reducible apply t_block))) | with_reducible apply q_thenN | with_reducible apply q_blockN | exact P0 | exact Rdn.zero | apply Rdn.succ | ((with_reducible apply Norm.nil); exact rfl) | ((with_reducible apply Norm.cons); exact rfl) | (intro gN cN; with_reducible apply tl_id) | exact Nat.le_of_ble_eq_true rfl | exact (rfl : (_ : Bool) = true) | omega | (intro _; with_reducible apply tl_id))
            all_goals (refine ⟨(2, some (gN, cN)), ⟨(by simp only; omega), fun h => by cases h⟩, (by simp only; omega), ?_, ?_⟩)
            all_goals (simp only [e1])
            all_goals first
              | ((try simp only [List.cons_append, List.nil_append]); (repeat (first | exact FrSub.nil | (apply FrSub.cons; exact rfl) | (apply FrSub.consE; exact rfl; (focus (simp; done))))); done)
              | ((try simp only [List.cons_append, List.nil_append]); (repeat (first | exact HpSub.refl _ | (apply HpSub.consE; (repeat (first | exact P0 | apply P1 | apply PA)); first | exact rfl | (focus (simp [tiB_app, tiB, tiCells]; done))) | apply HpSub.appC | apply HpSub.skipX | apply HpSub.skip | apply HpSub.skipApp | exact HpSub.nil)); done)
          · simp only [clA, clC, clH, List.cons_append, List.nil_append]
            repeat' (first | ((with_reducible apply oq_id); first | ((with_reducible apply oq_lssT); exact rfl; exact rfl; omega) | (apply oq_fn; exact rfl; first | exact trivial | (refine ⟨?_, ?_⟩ <;> omega) | (refine ⟨?_, ?_, ?_⟩ <;> omega) | omega | skip) | ((with_reducible apply oq_load); exact rfl; exact rfl) | ((with_reducible apply oq_build); exact rfl; exact rfl; exact rfl) | ((with_reducible apply oq_indexAgg); exact rfl; exact rfl; exact rfl; exact rfl)) | ((with_reducible apply tl_id); first | ((with_reducible apply tl_nil)) | ((with_reducible apply u_q); exact rfl; exact rfl; exact rfl; exact rfl) | ((with_reducible apply u_s0); exact rfl; exact rfl) | ((with_reducible apply u_s); exact rfl; exact rfl; exact rfl)) | ((with_reducible apply os_id); first | ((with_reducible apply os_x); exact rfl) | ((with_reducible apply os_storeAgg); exact rfl; exact rfl; exact rfl; exact rfl; exact rfl) | ((with_reducible apply os_append (hk := app_ok77)); exact rfl; exact rfl; (repeat (first | exact P0 | apply P1 | apply PA)))) | ((with_reducible apply ox_id); first | ((with_reducible apply ox_alloc); exact rfl; intro _) | ((with_reducible apply ox_buildSlice); exact rfl; exact rfl; exact rfl; exact rfl)) | ((with_reducible apply rd_id); first | (apply Rd.own; (repeat (first | exact P0 | apply P1 | apply PA)); exact rfl; done)) | ((with_reducible apply t_id); first | ((with_reducible apply t_seq)) | (apply t_region; kernel_rfl) | ((with_reducible apply t_condT); exact rfl) | ((with_reducible apply t_skip)) | ((with_reducible apply t_block))) | with_reducible apply q_thenN | with_reducible apply q_blockN | exact P0 | exact Rdn.zero | apply Rdn.succ | ((with_reducible apply Norm.nil); exact rfl) | ((with_reducible apply Norm.cons); exact rfl) | exact tiB_len _ | (intro gN cN; with_reducible apply tl_id) | exact Nat.le_of_ble_eq_true rfl | exact (rfl : (_ : Bool) = true) | omega | (intro _; with_reducible apply tl_id))
            all_goals (refine ⟨(2, some (gN, cN)), ⟨(by simp only; omega), fun h => by cases h⟩, (by simp only; omega), ?_, ?_⟩)
            all_goals (simp only [e1])
            all_goals first
              | ((try simp only [List.cons_append, List.nil_append]); (repeat (first | exact FrSub.nil | (apply FrSub.cons; exact rfl) | (apply FrSub.consE; exact rfl; (focus (simp; done))))); done)
              | ((try simp only [List.cons_append, List.nil_append]); (repeat (first | exact HpSub.refl _ | (apply HpSub.consE; (repeat (first | exact P0 | apply P1 | apply PA)); first | exact rfl | (focus (simp [tiB_app, tiB, tiCells]; done))) | apply HpSub.appC | apply HpSub.skipX | apply HpSub.skip | apply HpSub.skipApp | exact HpSub.nil)); done)
      · obtain ⟨T0, hT⟩ : ∃ T, tiTo d S i ++ casK bA bB bC x 2 = T := ⟨_, rfl⟩
        rw [hT] at hkl ho2 ⊢
        cases bC with
        | false =>
          have e1 : tiTo d S i ++ casK bA bB false x 3 = T0 := by rw [← hT]; simp [casK]
          repeat' (first | ((with_reducible apply oq_id); first | ((with_reducible apply oq_lssT); exact rfl; exact rfl; omega) | (apply oq_fn; exact rfl; first | exact trivial | (refine ⟨?_, ?_⟩ <;> omega) | (refine ⟨?_, ?_, ?_⟩ <;> omega) | omega | skip) | ((with_reducible apply oq_load); exact rfl; exact rfl) | ((with_reducible apply oq_indexAgg); exact rfl; exact rfl; exact rfl; exact rfl)) | ((with_reducible apply tl_id); first | ((with_reducible apply tl_nil)) | ((with_reducible apply u_q); exact rfl; exact rfl; exact rfl; exact rfl) | ((with_reducible apply u_s0); exact rfl; exact rfl) | ((with_reducible apply u_s); exact rfl; exact rfl; exact rfl)) | ((with_reducible apply os_id); first | ((with_reducible apply os_x); exact rfl) | ((with_reducible apply os_storeAgg); exact rfl; exact rfl; exact rfl; exact rfl; exact rfl)) | ((with_reducible apply ox_id); first | ((with_reducible apply ox_alloc); exact rfl; intro _)) | ((with_reducible apply rd_id); first | (apply Rd.own; (repeat (first | exact P0 | apply P1 | apply PA)); exact rfl; done)) | ((with_reducible apply t_id); first | ((with_reducible apply t_seq)) | (apply t_region; kernel_rfl) | ((with_reducible apply t_condT); exact rfl) | ((with_reducible apply t_condF); exact rfl) | ((with_reducible apply t_skip)) | ((with_reducible apply t_block))) | with_reducible apply q_thenN | with_reducible apply q_blockN | exact P0 | ((with_reducible apply Norm.nil); exact rfl) | ((with_reducible apply Norm.cons); exact rfl) | exact Nat.le_of_ble_eq_true rfl | omega)
          all_goals (refine ⟨(3, o2), ⟨(by simp only; omega), (by simp only [e1]; exact ho2)⟩, (by simp only; omega), ?_, ?_⟩)
          all_goals (simp only [e1])
          all_goals first
            | ((try simp only [List.cons_append, List.nil_append]); (repeat (first | exact FrSub.nil | (apply FrSub.cons; exact rfl))); done)
            | ((try simp only [List.cons_append, List.nil_append]); (repeat (first | exact HpSub.refl _ | (apply HpSub.consE; (repeat (first | exact P0 | apply P1 | apply PA)); exact rfl) | apply HpSub.appC | apply HpSub.skipX | apply HpSub.skip | apply HpSub.skipApp | exact HpSub.nil)); done)
        | true =>
          have e1 : tiTo d S i ++ casK bA bB true x 3 = T0 ++ [⟨3, x.who, x.fr⟩] := by rw [← hT]; simp [casK]
          rcases o2 with _ | ⟨go, co⟩
          · have h0 := ho2 rfl
            obtain rfl := List.length_eq_zero_iff.1 h0
            simp only [clA, clC, clH, List.nil_append, List.length_nil]
            repeat' (first | ((with_reducible apply oq_id); first | ((with_reducible apply oq_lssT); exact rfl; exact rfl; omega) | (apply oq_fn; exact rfl; first | exact trivial | (refine ⟨?_, ?_⟩ <;> omega) | (refine ⟨?_, ?_, ?_⟩ <;> omega) | omega | skip) | ((with_reducible apply oq_load); exact rfl; exact rfl) | ((with_reducible apply oq_build); exact rfl; exact rfl; exact rfl) | ((with_reducible apply oq_indexAgg); exact rfl; exact rfl; exact rfl; exact rfl)) | ((with_reducible apply tl_id); first | ((with_reducible apply tl_nil)) | ((with_reducible apply u_q); exact rfl; exact rfl; exact rfl; exact rfl) | ((with_reducible apply u_s0); exact rfl; exact rfl) | ((with_reducible apply u_s); exact rfl; exact rfl; exact rfl)) | ((with_reducible apply os_id); first | ((with_reducible apply os_x); exact rfl) | ((with_reducible apply os_storeAgg); exact rfl; exact rfl; exact rfl; exact rfl; exact rfl) | ((with_reducible apply os_appendNil (hk := app_ok77)); exact rfl; exact rfl)) | ((with_reducible apply ox_id); first | ((with_reducible apply ox_alloc); exact rfl; intro _) | ((with_reducible apply ox_buildSlice); exact rfl; exact rfl; exact rfl; exact rfl)) | ((with_reducible apply rd_id); first | (apply Rd.own; (repeat (first | exact P0 | apply P1 | apply PA)); exact rfl; done)) | ((with_reducible apply t_id); first | ((with_reducible apply t_seq)) | (apply t_region; kernel_rfl) | ((with_reducible apply t_condT); exact rfl) | ((with_reducible apply t_skip)) | ((with_reducible apply t_block))) | with_reducible apply q_thenN | with_reducible apply q_blockN | exact P0 | exact Rdn.zero | apply Rdn.succ | ((with_reducible apply Norm.nil); exact rfl) | ((with_reducible apply Norm.cons); exact rfl) | (intro gN cN; with_reducible apply tl_id) | exact Nat.le_of_ble_eq_true rfl | exact (rfl : (_ : Bool) = true) | omega | (intro _; with_reducible apply tl_id))
            all_goals (refine ⟨(3, some (gN, cN)), ⟨(by simp only; omega), fun h => by cases h⟩, (by simp only; omega), ?_, ?_⟩)
            all_goals (simp only [e1])
            all_goals first
              | ((try simp only [List.cons_append, List.nil_append]); (repeat (first | exact FrSub.nil | (apply FrSub.cons; exact rfl) | (apply FrSub.consE; exact rfl; (focus (simp; done))))); done)
              | ((try simp only [List.cons_append, List.nil_append]); (repeat (first | exact HpSub.refl _ | (apply HpSub.consE; (repeat (first | exact P0 | apply P1 | apply PA)); first | exact rfl | (focus (simp [tiB_app, tiB, tiCells]; done))) | apply HpSub.appC | apply HpSub.skipX | apply HpSub.skip | apply HpSub.skipApp | exact HpSub.nil)); done)
          · simp only [clA, clC, clH, List.cons_append, List.nil_append]
            repeat' (first | ((with_reducible apply oq_id); first | ((with_reducible apply oq_lssT); exact rfl; exact rfl; omega) | (apply oq_fn; exact rfl; first | exact trivial | (refine ⟨?_, ?_⟩ <;> omega) | (refine ⟨?_, ?_, ?_⟩ <;> omega) | omega | skip) | ((with_reducible apply oq_load); exact rfl; exact rfl) | ((with_reducible apply oq_build); exact rfl; exact rfl; exact rfl) | ((with_reducible apply oq_indexAgg); exact rfl; exact rfl; exact rfl; exact rfl)) | ((with_reducible apply tl_id); first | ((with_reducible apply tl_nil)) | ((with_reducible apply u_q); exact rfl; exact rfl; exact rfl; exact rfl) | ((with_reducible apply u_s0); exact rfl; exact rfl) | ((with_reducible apply u_s); exact rfl; exact rfl; exact rfl)) | ((with_reducible apply os_id); first | ((with_reducible apply os_x); exact rfl) | ((with_reducible apply os_storeAgg); exact rfl; exact rfl; exact rfl; exact rfl; exact rfl) | ((with_reducible apply os_append (hk := app_ok77)); exact rfl; exact rfl; (repeat (first | exact P0 | apply P1 | apply PA)))) | ((with_reducible apply ox_id); first | ((with_reducible apply ox_alloc); exact rfl; intro _) | ((with_reducible apply ox_buildSlice); exact rfl; exact rfl; exact rfl; exact rfl)) | ((with_reducible apply rd_id); first | (apply Rd.own; (repeat (first | exact P0 | apply P1 | apply PA)); exact rfl; done)) | ((with_reducible apply t_id); first | ((with_reducible apply t_seq)) | (apply t_region; kernel_rfl) | ((with_reducible apply t_condT); exact rfl) | ((with_reducible apply t_skip)) | ((with_reducible apply t_block))) | with_reducible apply q_thenN | with_reducible apply q_blockN | exact P0 | exact Rdn.zero | apply Rdn.succ | ((with_reducible apply Norm.nil); exact rfl) | ((with_reducible apply Norm.cons); exact rfl) | exact tiB_len _ | (intro gN cN; with_reducible apply tl_id) | exact Nat.le_of_ble_eq_true rfl | exact (rfl : (_ : Bool) = true) | omega | (intro _; with_reducible apply tl_id))
            all_goals (refine ⟨(3, some (gN, cN)), ⟨(by simp only; omega), fun h => by cases h⟩, (by simp only; omega), ?_, ?_⟩)
            all_goals (simp only [e1])
            all_goals first
              | ((try simp only [List.cons_append, List.nil_append]); (repeat (first | exact FrSub.nil | (apply FrSub.cons; exact rfl) | (apply FrSub.consE; exact rfl; (focus (simp; done))))); done)
              | ((try simp only [List.cons_append, List.nil_append]); (repeat (first | exact HpSub.refl _ | (apply HpSub.consE; (repeat (first | exact P0 | apply P1 | apply PA)); first | exact rfl | (focus (simp [tiB_app, tiB, tiCells]; done))) | apply HpSub.appC | apply HpSub.skipX | apply HpSub.skip | apply HpSub.skipApp | exact HpSub.nil)); done)
      · rw [hT3] at ho2 ⊢
        repeat' (first | ((with_reducible apply oq_id); first | ((with_reducible apply oq_lssF); exact rfl; exact rfl; omega)) | ((with_reducible apply tl_id); first | ((with_reducible apply tl_nil)) | ((with_reducible apply u_q); exact rfl; exact rfl; exact rfl; exact rfl)) | ((with_reducible apply t_id); first | ((with_reducible apply t_seq)) | (apply t_region; kernel_rfl) | ((with_reducible apply t_condF); exact rfl) | ((with_reducible apply t_exit))) | with_reducible apply q_thenN | with_reducible apply q_blockN | with_reducible apply q_thenE | ((with_reducible apply q_blockE); exact rfl))
        all_goals exact ⟨rfl, o2, ho2, by (repeat (first | exact FrSub.nil | (apply FrSub.cons; exact rfl))), by (repeat (first | exact HpSub.refl _ | (apply HpSub.consE; (repeat (first | exact P0 | apply P1 | apply PA)); exact rfl) | apply HpSub.appC | apply HpSub.skipX | apply HpSub.skip | apply HpSub.skipApp | exact HpSub.nil))⟩
    · rintro o2 ho2
      repeat' (first | ((with_reducible apply oq_id); first | (apply oq_fn; exact rfl; first | exact trivial | (refine ⟨?_, ?_⟩ <;> omega) | (refine ⟨?_, ?_, ?_⟩ <;> omega) | omega | skip)) | ((with_reducible apply tl_id); first | ((with_reducible apply tl_nil)) | ((with_reducible apply u_q); exact rfl; exact rfl; exact rfl; exact rfl)) | ((with_reducible apply t_id); first | (apply t_region; kernel_rfl)) | with_reducible apply q_thenN)
      all_goals (refine ⟨(i + 1, o2), ⟨(by simp only; omega), ho2⟩, (by simp only; omega), ?_, ?_⟩)
      all_goals first
        | ((try simp only [List.cons_append, List.nil_append]); (repeat (first | exact FrSub.nil | (apply FrSub.cons; exact rfl))); done)
        | ((try simp only [List.cons_append, List.nil_append]); (repeat (first | exact HpSub.refl _ | (apply HpSub.consE; (repeat (first | exact P0 | apply P1 | apply PA)); exact rfl) | apply HpSub.appC | apply HpSub.skipX | apply HpSub.skip | apply HpSub.skipApp | exact HpSub.nil)); done)
  · obtain rfl : i = n := by omega
    rw [hti]
    repeat' (first | ((with_reducible apply oq_id); first | ((with_reducible apply oq_lssF); exact rfl; exact rfl; omega) | (apply oq_fn; exact rfl; first | exact trivial | (refine ⟨?_, ?_⟩ <;> omega) | (refine ⟨?_, ?_, ?_⟩ <;> omega) | omega | skip)) | ((with_reducible apply tl_id); first | ((with_reducible apply tl_nil)) | ((with_reducible apply u_q); exact rfl; exact rfl; exact rfl; exact rfl)) | ((with_reducible apply t_id); first | ((with_reducible apply t_seq)) | (apply t_region; kernel_rfl) | ((with_reducible apply t_condF); exact rfl) | ((with_reducible apply t_ret)) | ((with_reducible apply t_exit))) | with_reducible apply q_thenN | with_reducible apply q_thenE | ((with_reducible apply q_blockE); exact rfl) | ((with_reducible apply end_ret)) | exact rvs_nil | ((with_reducible apply rvs_cons)) | ((with_reducible apply rv_tmp); exact rfl))
    all_goals exact ⟨_, ⟨o, ho, rfl, rfl⟩, hp_left⟩
end Go.Proofs.Ytmlmgipngbndgaa
namespace Go.Proofs.Ytmlmgipngbndgaa
open Go.RowKit
attribute [local irreducible] OQ OS OX Rd T TL GX GL AL AI RV wpG SAny Calls
set_option maxRecDepth 100000
set_option maxHeartbeats 2000000
set_option linter.unusedVariables false
set_option linter.unusedSimpArgs false
theorem dutyR_calls (d : Du) (w : World) : Calls Try.prog 44 #[.agg #[.int .i64 d.most, .int .i64 d.rest, .int .i64 d.win, .int .i64 d.sum]] w fun e w' => e = .returned (.int .i64 (duE d)) ∧ Ext w w' := by
  obtain ⟨q1, hq1⟩ : ∃ q, allFrom 1 100000 [d.most, d.win] = q := ⟨_, rfl⟩
  obtain ⟨q2, hq2⟩ : ∃ q, allFrom 0 100000 [d.rest] = q := ⟨_, rfl⟩
  obtain ⟨q3, hq3⟩ : ∃ q, allFrom 0 d.win [d.sum] = q := ⟨_, rfl⟩
  have e1 : q1 = true ↔ (1 ≤ d.most ∧ d.most ≤ 100000) ∧ 1 ≤ d.win ∧ d.win ≤ 100000 := by rw [← hq1]; unfold allFrom; simp
  have e2 : q2 = true ↔ 0 ≤ d.rest ∧ d.rest ≤ 100000 := by rw [← hq2]; exact allFrom_one
  have e3 : q3 = true ↔ 0 ≤ d.sum ∧ d.sum ≤ d.win := by rw [← hq3]; exact allFrom_one
  have hdu : duB d ↔ q1 = true ∧ q2 = true ∧ q3 = true := by rw [e1, e2, e3]; unfold duB; omega
  unfold duE
  cases q1 with
  | false =>
    rw [if_neg (fun h => by have := (hdu.1 h).1; cases this)]
    refine enterQ (c := cx w 26) Try.func44 rfl rfl rfl rfl ?_
    repeat' (first | ((with_reducible apply oq_id); first | (apply oq_fn; exact rfl; first | exact trivial | (refine ⟨?_, ?_⟩ <;> omega) | (refine ⟨?_, ?_, ?_⟩ <;> omega) | omega | skip) | ((with_reducible apply oq_load); exact rfl; exact rfl) | ((with_reducible apply oq_call (k := 63) (hc := Try.call63)); exact rfl; exact rfl; exact fun D w1 hw1 => fromTwo hq1 hw1 (by (repeat (first | exact P0 | apply P1))))) | ((with_reducible apply tl_id); first | ((with_reducible apply tl_nil)) | ((with_reducible apply u_q); exact rfl; exact rfl; exact rfl; exact rfl) | ((with_reducible apply u_s); exact rfl; exact rfl; exact rfl) | ((with_reducible apply u_skip); exact rfl; exact rfl; exact rfl)) | ((with_reducible apply os_id); first | ((with_reducible apply os_x); exact rfl)) | ((with_reducible apply ox_id); first | ((with_reducible apply ox_boxAgg); exact rfl; intro _) | ((with_reducible apply ox_buildSlice1); exact rfl; exact rfl; exact rfl; exact rfl; exact rfl; exact rfl; intro _)) | ((with_reducible apply rd_id); first | (apply Rd.own; (repeat (first | exact P0 | apply P1)); exact rfl; done)) | ((with_reducible apply t_id); first | ((with_reducible apply t_seq)) | (apply t_region; kernel_rfl) | ((with_reducible apply t_condT); exact rfl) | ((with_reducible apply t_ret))) | with_reducible apply q_thenN | with_reducible apply q_thenR | ((with_reducible apply end_ret)) | exact rvs_nil | ((with_reducible apply rvs_cons)) | ((with_reducible apply rv_tmp); exact rfl))
    all_goals rfl
  | true =>
    cases q2 with
    | false =>
      rw [if_neg (fun h => by have := (hdu.1 h).2.1; cases this)]
      refine enterQ (c := cx w 26) Try.func44 rfl rfl rfl rfl ?_
      repeat' (first | ((with_reducible apply oq_id); first | (apply oq_fn; exact rfl; first | exact trivial | (refine ⟨?_, ?_⟩ <;> omega) | (refine ⟨?_, ?_, ?_⟩ <;> omega) | omega | skip) | ((with_reducible apply oq_load); exact rfl; exact rfl) | ((with_reducible apply oq_call (k := 63) (hc := Try.call63)); exact rfl; exact rfl; exact fun D w1 hw1 => fromTwo hq1 hw1 (by (repeat (first | exact P0 | apply P1)))) | ((with_reducible apply oq_call (k := 63) (hc := Try.call63)); exact rfl; exact rfl; exact fun D w1 hw1 => fromOne hq2 hw1 (by (repeat (first | exact P0 | apply P1))))) | ((with_reducible apply tl_id); first | ((with_reducible apply tl_nil)) | ((with_reducible apply u_q); exact rfl; exact rfl; exact rfl; exact rfl) | ((with_reducible apply u_s); exact rfl; exact rfl; exact rfl) | ((with_reducible apply u_skip); exact rfl; exact rfl; exact rfl)) | ((with_reducible apply os_id); first | ((with_reducible apply os_x); exact rfl)) | ((with_reducible apply ox_id); first | ((with_reducible apply ox_boxAgg); exact rfl; intro _) | ((with_reducible apply ox_buildSlice1); exact rfl; exact rfl; exact rfl; exact rfl; exact rfl; exact rfl; intro _)) | ((with_reducible apply rd_id); first | (apply Rd.own; (repeat (first | exact P0 | apply P1)); exact rfl; done)) | ((with_reducible apply t_id); first | ((with_reducible apply t_seq)) | (apply t_region; kernel_rfl) | ((with_reducible apply t_condT); exact rfl) | ((with_reducible apply t_ret))) | with_reducible apply q_thenN | with_reducible apply q_thenR | ((with_reducible apply end_ret)) | exact rvs_nil | ((with_reducible apply rvs_cons)) | ((with_reducible apply rv_tmp); exact rfl))
      all_goals rfl
    | true =>
      cases q3 with
      | false =>
        rw [if_neg (fun h => by have := (hdu.1 h).2.2; cases this)]
        refine enterQ (c := cx w 26) Try.func44 rfl rfl rfl rfl ?_
        repeat' (first | ((with_reducible apply oq_id); first | (apply oq_fn; exact rfl; first | exact trivial | (refine ⟨?_, ?_⟩ <;> omega) | (refine ⟨?_, ?_, ?_⟩ <;> omega) | omega | skip) | ((with_reducible apply oq_load); exact rfl; exact rfl) | ((with_reducible apply oq_call (k := 63) (hc := Try.call63)); exact rfl; exact rfl; exact fun D w1 hw1 => fromTwo hq1 hw1 (by (repeat (first | exact P0 | apply P1)))) | ((with_reducible apply oq_call (k := 63) (hc := Try.call63)); exact rfl; exact rfl; exact fun D w1 hw1 => fromOne hq2 hw1 (by (repeat (first | exact P0 | apply P1)))) | ((with_reducible apply oq_call (k := 63) (hc := Try.call63)); exact rfl; exact rfl; exact fun D w1 hw1 => fromOne hq3 hw1 (by (repeat (first | exact P0 | apply P1))))) | ((with_reducible apply tl_id); first | ((with_reducible apply tl_nil)) | ((with_reducible apply u_q); exact rfl; exact rfl; exact rfl; exact rfl) | ((with_reducible apply u_s); exact rfl; exact rfl; exact rfl)) | ((with_reducible apply os_id); first | ((with_reducible apply os_x); exact rfl)) | ((with_reducible apply ox_id); first | ((with_reducible apply ox_boxAgg); exact rfl; intro _) | ((with_reducible apply ox_buildSlice1); exact rfl; exact rfl; exact rfl; exact rfl; exact rfl; exact rfl; intro _)) | ((with_reducible apply rd_id); first | (apply Rd.own; (repeat (first | exact P0 | apply P1)); exact rfl; done)) | ((with_reducible apply t_id); first | ((with_reducible apply t_seq)) | (apply t_region; kernel_rfl) | ((with_reducible apply t_condT); exact rfl) | ((with_reducible apply t_ret))) | with_reducible apply q_thenN | with_reducible apply q_thenR | ((with_reducible apply end_ret)) | exact rvs_nil | ((with_reducible apply rvs_cons)) | ((with_reducible apply rv_tmp); exact rfl))
        all_goals rfl
      | true =>
        rw [if_pos (hdu.2 ⟨rfl, rfl, rfl⟩)]
        refine enterQ (c := cx w 26) Try.func44 rfl rfl rfl rfl ?_
        repeat' (first | ((with_reducible apply oq_id); first | (apply oq_fn; exact rfl; first | exact trivial | (refine ⟨?_, ?_⟩ <;> omega) | (refine ⟨?_, ?_, ?_⟩ <;> omega) | omega | skip) | ((with_reducible apply oq_load); exact rfl; exact rfl) | ((with_reducible apply oq_call (k := 63) (hc := Try.call63)); exact rfl; exact rfl; exact fun D w1 hw1 => fromTwo hq1 hw1 (by (repeat (first | exact P0 | apply P1)))) | ((with_reducible apply oq_call (k := 63) (hc := Try.call63)); exact rfl; exact rfl; exact fun D w1 hw1 => fromOne hq2 hw1 (by (repeat (first | exact P0 | apply P1)))) | ((with_reducible apply oq_call (k := 63) (hc := Try.call63)); exact rfl; exact rfl; exact fun D w1 hw1 => fromOne hq3 hw1 (by (repeat (first | exact P0 | apply P1))))) | ((with_reducible apply tl_id); first | ((with_reducible apply tl_nil)) | ((with_reducible apply u_q); exact rfl; exact rfl; exact rfl; exact rfl) | ((with_reducible apply u_s); exact rfl; exact rfl; exact rfl)) | ((with_reducible apply os_id); first | ((with_reducible apply os_x); exact rfl)) | ((with_reducible apply ox_id); first | ((with_reducible apply ox_boxAgg); exact rfl; intro _) | ((with_reducible apply ox_buildSlice1); exact rfl; exact rfl; exact rfl; exact rfl; exact rfl; exact rfl; intro _)) | ((with_reducible apply rd_id); first | (apply Rd.own; (repeat (first | exact P0 | apply P1)); exact rfl; done)) | ((with_reducible apply t_id); first | ((with_reducible apply t_seq)) | (apply t_region; kernel_rfl) | ((with_reducible apply t_condF); exact rfl) | ((with_reducible apply t_ret)) | ((with_reducible apply t_skip))) | with_reducible apply q_thenN | ((with_reducible apply end_ret)) | exact rvs_nil | ((with_reducible apply rvs_cons)) | ((with_reducible apply rv_tmp); exact rfl))
        all_goals rfl
/-- What Tired hands out. -/
def tiL (d : Du) (l : List Sh) : List Ti := if tiE d l = 0 then tiV d l else []
def TiE (E : Int) (T : List Ti) (v : Value) (H : Hp) : Prop := ∃ x, (x = none → T.length = 0) ∧ v = .tuple #[.slice (clA x) T.length (clC x), .int .i64 E] ∧ H = clH 99 3 (tiB T) x
theorem tiE_ok {d : Du} {l : List Sh} (h : tiE d l = 0) : duB d ∧ l.length ≤ 40 ∧ Ros l := by
  unfold tiE duE rosE at h
  by_cases h1 : duB d
  · rw [if_pos h1] at h
    by_cases h2 : 40 < l.length
    · rw [if_pos h2] at h; simp at h
    · rw [if_neg h2] at h
      by_cases h3 : Ros l
      · exact ⟨h1, by omega, h3⟩
      · rw [if_neg h3] at h; simp at h
  · rw [if_neg h1] at h; simp at h
theorem tiE_eq {d : Du} {l : List Sh} : (if duE d = 0 then rosE l else duE d) = tiE d l := rfl
theorem tiredE_T (d : Du) (A : Option Addr) (n c : Nat) (l : List Sh) (w : World) (hr : RdS w 3 A n (l.map shCells)) (hA : A = none → n = 0 ∧ c = 0) (hn : n ≤ 1000000) : Calls Try.prog 42 #[.agg #[.int .i64 d.most, .int .i64 d.rest, .int .i64 d.win, .int .i64 d.sum], .slice A n c] w fun e w' => ∃ v H', e = .returned v ∧ TiE (tiE d l) (tiL d l) v H' ∧ Has w ⟨[], []⟩ H' w' := by
  have hl := hr.len
  simp only [List.length_map] at hl
  have HD := fun w1 => dutyR_calls d w1
  have HR := fun w1 h => rosR_calls A n c l w1 h hA hn
  obtain ⟨E, hE⟩ : ∃ E, tiE d l = E := ⟨_, rfl⟩
  have hEq := tiE_eq (d := d) (l := l)
  rw [hE] at hEq
  obtain ⟨p, hp⟩ : ∃ p, duE d = p := ⟨_, rfl⟩
  obtain ⟨q, hq⟩ : ∃ q, rosE l = q := ⟨_, rfl⟩
  rw [hp, hq] at hEq
  rw [hp] at HD
  rw [hq] at HR
  have HO := fun A cp w c0 c1 => orE_calls p q A cp w c0 c1
  rw [hEq] at HO
  rw [hE]
  by_cases h0 : E = 0
  · subst h0
    obtain ⟨hd, hl40, hRos⟩ := tiE_ok hE
    have hL : tiL d l = tiV d l := by unfold tiL; rw [if_pos hE]
    rw [hL]
    obtain ⟨T, hT⟩ : ∃ T, tiV d l = T := ⟨_, rfl⟩
    rw [hT]
    refine enterF (c := cx w 19) Try.func42 rfl rfl rfl rfl ?_
    repeat' (first | ((with_reducible apply oq_id); first | ((with_reducible apply oq_neqF); exact rfl; exact rfl; omega) | (apply oq_fn; exact rfl; first | exact trivial | (refine ⟨?_, ?_⟩ <;> omega) | (refine ⟨?_, ?_, ?_⟩ <;> omega) | omega | skip) | ((with_reducible apply oq_loadAgg); exact rfl; exact rfl) | ((with_reducible apply oq_call (k := 44) (hc := Try.call44)); exact rfl; exact rfl; exact fun D w1 hw1 => HD w1) | ((with_reducible apply oq_call (k := 46) (hc := Try.call46)); exact rfl; exact rfl; exact fun D w1 hw1 => HR w1 (hr.ext hw1.ext.ext)) | ((with_reducible apply oq_call (k := 81) (hc := Try.call81)); exact rfl; exact rfl; exact fun D w1 hw1 => HO _ _ w1 (hw1.cellAt (by (repeat (first | exact P0 | apply P1))) rfl) (hw1.cellAt (by (repeat (first | exact P0 | apply P1))) rfl))) | ((with_reducible apply tl_id); first | ((with_reducible apply tl_nil)) | ((with_reducible apply u_s); exact rfl; exact rfl; exact rfl; (with_reducible apply os_callF (PV := TiO T) (k := 82) (hc := Try.call82)); exact rfl; exact rfl; exact fun D w1 hw1 => (by rw [← hT]; exact tiredR_T d hd A n c l w1 (hr.ext hw1.ext.ext) hA (by omega) hRos); rintro v H' ⟨x, hx, rfl, rfl⟩; (try simp only [List.append_nil])) | ((with_reducible apply u_q); exact rfl; exact rfl; exact rfl; exact rfl) | ((with_reducible apply u_s); exact rfl; exact rfl; exact rfl)) | ((with_reducible apply os_id); first | ((with_reducible apply os_x); exact rfl)) | ((with_reducible apply ox_id); first | ((with_reducible apply ox_boxAgg); exact rfl; intro _) | ((with_reducible apply ox_buildSlice1); exact rfl; exact rfl; exact rfl; exact rfl; exact rfl; exact rfl; intro _)) | ((with_reducible apply rd_id); first | (apply Rd.own; (repeat (first | exact P0 | apply P1)); exact rfl; done)) | ((with_reducible apply t_id); first | ((with_reducible apply t_seq)) | (apply t_region; kernel_rfl) | ((with_reducible apply t_condF); exact rfl) | ((with_reducible apply t_ret)) | ((with_reducible apply t_skip))) | with_reducible apply q_thenN | exact Rdn.zero | apply Rdn.succ | ((with_reducible apply end_ret)) | exact rvs_nil | ((with_reducible apply rvs_cons)) | ((with_reducible apply rv_tmp); exact rfl))
    all_goals exact ⟨_, ⟨x, hx, rfl, rfl⟩, hp_left⟩
  · have hL : tiL d l = [] := by unfold tiL; rw [if_neg (by rw [hE]; exact h0)]
    rw [hL]
    refine enterF (c := cx w 19) Try.func42 rfl rfl rfl rfl ?_
    repeat' (first | ((with_reducible apply oq_id); first | ((with_reducible apply oq_neqT); exact rfl; exact rfl; omega) | (apply oq_fn; exact rfl; first | exact trivial | (refine ⟨?_, ?_⟩ <;> omega) | (refine ⟨?_, ?_, ?_⟩ <;> omega) | omega | skip) | ((with_reducible apply oq_loadAgg); exact rfl; exact rfl) | ((with_reducible apply oq_call (k := 44) (hc := Try.call44)); exact rfl; exact rfl; exact fun D w1 hw1 => HD w1) | ((with_reducible apply oq_call (k := 46) (hc := Try.call46)); exact rfl; exact rfl; exact fun D w1 hw1 => HR w1 (hr.ext hw1.ext.ext)) | ((with_reducible apply oq_call (k := 81) (hc := Try.call81)); exact rfl; exact rfl; exact fun D w1 hw1 => HO _ _ w1 (hw1.cellAt (by (repeat (first | exact P0 | apply P1))) rfl) (hw1.cellAt (by (repeat (first | exact P0 | apply P1))) rfl))) | ((with_reducible apply tl_id); first | ((with_reducible apply tl_nil)) | ((with_reducible apply u_q); exact rfl; exact rfl; exact rfl; exact rfl) | ((with_reducible apply u_s); exact rfl; exact rfl; exact rfl)) | ((with_reducible apply os_id); first | ((with_reducible apply os_x); exact rfl)) | ((with_reducible apply ox_id); first | ((with_reducible apply ox_boxAgg); exact rfl; intro _) | ((with_reducible apply ox_buildSlice1); exact rfl; exact rfl; exact rfl; exact rfl; exact rfl; exact rfl; intro _)) | ((with_reducible apply rd_id); first | (apply Rd.own; (repeat (first | exact P0 | apply P1)); exact rfl; done)) | ((with_reducible apply t_id); first | ((with_reducible apply t_seq)) | (apply t_region; kernel_rfl) | ((with_reducible apply t_condT); exact rfl) | ((with_reducible apply t_ret))) | with_reducible apply q_thenN | with_reducible apply q_thenR | exact Rdn.zero | apply Rdn.succ | ((with_reducible apply end_ret)) | exact rvs_nil | ((with_reducible apply rvs_cons)) | ((with_reducible apply rv_tmp); exact rfl))
    all_goals exact ⟨_, ⟨none, fun _ => rfl, rfl, rfl⟩, HpSub.nil⟩
end Go.Proofs.Ytmlmgipngbndgaa
namespace Go.Proofs.Ytmlmgipngbndgaa
set_option linter.unusedVariables false
set_option linter.unusedSimpArgs false
open Go.RowKit
section
variable {c : Cx} {F : Fr} {H H' : Hp} {K : Value → Hp → Prop} {d : Option Tmp} {ty : TypeId} {pos : String} {af : Array Edge} {gd : Option (Nat × Bool)} {t t' : TypeId} {x y : Operand} {a0 a1 : Bool} {s0 s1 : Nat} {z0 z1 : List Value} {k1 : TyK} {g : Nat} {tg : Tg} {C : List Value}
theorem os_copy {e od dLen dCap b2 o2 sLen sCap : Nat} {vs : List Value} (ht : tyAt c.tys t = some ⟨a0, s0, z0, .slice e⟩) (he : tyAt c.tys e = some ⟨a1, 1, z1, k1⟩) (hx : ev F x = some (.slice (some ⟨g, od, none⟩) dLen dCap)) (hy : ev F y = some (.slice (some ⟨b2, o2, none⟩) sLen sCap))
    (hp : Pick H g C tg H') (hr : Rds c H b2 o2 vs) (hn : vs.length = Nat.min sLen dLen) (ho : od + vs.length ≤ C.length) (h1 : ∀ v ∈ vs, v.oneCell' = true) (kk : K (.int .i64 (vs.length : Nat)) ((g, setL C od vs, tg) :: H')) : OS c ⟨d, .call ⟨.builtin .copy, #[x, y], #[t, t']⟩, ty, pos, af, gd⟩ F H K := by
  intro D a w ha hw
  have hw' := hw.perm hp.perm
  have hb := (hw'.blk _ (List.mem_cons_self ..)).2
  obtain ⟨w', h2, h3, h4⟩ := run_storeCells c.P g od vs 0 w C tg hb (by omega) h1
  have hk := (c.ty ht).kind w
  have hs := (c.ty he).size w
  have hl := run_loadCells_eq c.P w b2 o2 vs (fun j v hj => Rds.at_ hw vs o2 hr j v hj)
  have hl2 : (loadCells ⟨b2, o2, none⟩ (Nat.min sLen dLen)).run c.P w = .ok vs.toArray w := by rw [← hn]; exact hl
  have : (execOp a.eval ⟨d, .call ⟨.builtin .copy, #[x, y], #[t, t']⟩, ty, pos, af, gd⟩).run c.P w = .ok (.value (.int .i64 (vs.length : Nat))) w' := by
    simp [execOp, resolve, invoke, builtin, ha.ev hx, ha.ev hy, Builtin.copy_, Builtin.lenOf, Builtin.firstCells, Sem.run_bind, Sem.run_pure, Result.andThen, hk, hs, hl2, h2, goInt, hn]
  rw [this]
  exact ⟨_, by simpa using kk, hw'.wrote h4 h3⟩
theorem oq_sliceH {e b o len cap h : Nat} {k : IntKind} {hi : Int} (ht : tyAt c.tys t = some ⟨a0, s0, z0, .slice e⟩) (he : tyAt c.tys e = some ⟨a1, s1, z1, k1⟩)
    (hx : ev F x = some (.slice (some ⟨b, o, none⟩) len cap)) (hy : ev F y = some (.int k hi)) (hl : hi = h) (h1 : h ≤ cap) :
    OQ c ⟨d, .slice t x none (some y) none, ty, pos, af, gd⟩ F H (.slice (some ⟨b, o, none⟩) h cap) := .of fun D a w ha _ => by
  subst hl
  have hk := (c.ty ht).kind w
  have hs := (c.ty he).size w
  simp only [execOp, Option.map, ha.ev hx, ha.ev hy]
  by_cases h2 : cap = 0
  · subst h2
    simp [Instr.sliceAt, Instr.slice, Instr.sliceBounds, Instr.sliceBound, asIntOf, Sem.run_bind, hk, hs, h1, Result.andThen, go_sem, add_eq]
  · simp [Instr.sliceAt, Instr.slice, Instr.sliceBounds, Instr.sliceBound, asIntOf, Sem.run_bind, hk, hs, h1, h2, Result.andThen, go_sem, add_eq]
/-- k times x, then zeros. -/
def fillX (x : Int) (n k : Nat) : List Value := List.replicate k (Value.int .i64 x) ++ List.replicate (n - k) (Value.int .i64 0)
theorem fillX_len {x : Int} {n k : Nat} (h : k ≤ n) : (fillX x n k).length = n := by unfold fillX; simp; omega
theorem fillX_zero {x : Int} {n : Nat} : List.replicate n (Value.int .i64 0) = fillX x n 0 := by unfold fillX; simp
theorem fillX_done {x : Int} {n : Nat} : fillX x n n = (List.replicate n x).map iv := by unfold fillX; simp [iv]
theorem fillX_set {x : Int} {n : Nat} : ∀ (m k : Nat), k + m ≤ n → setL (fillX x n k) k (List.replicate m (Value.int .i64 x)) = fillX x n (k + m)
  | 0, k, _ => rfl
  | m + 1, k, h => by
    rw [List.replicate_succ]
    simp only [setL]
    have e : (fillX x n k).set k (Value.int .i64 x) = fillX x n (k + 1) := by
      unfold fillX
      rw [List.set_append_right _ _ (by simp), show n - k = (n - (k + 1)) + 1 by omega, List.replicate_succ]
      simp [List.replicate_succ']
    rw [e, fillX_set m (k + 1) (by omega), show k + 1 + m = k + (m + 1) by omega]
theorem Rds.own {b : Nat} (hp : Pick H b C tg H') : ∀ (vs : List Value) (o : Nat), (∀ j v, vs[j]? = some v → C[o + j]? = some v) → Rds c H b o vs
  | [], _, _ => trivial
  | v :: vs, o, h => ⟨Rd.own hp (h 0 v rfl), Rds.own hp vs (o + 1) fun j u hj => by have := h (j + 1) u (by simpa using hj); rw [← this]; congr 1; omega⟩
theorem fillX_at {x : Int} {n k m : Nat} (hm : m ≤ k) (j : Nat) (v : Value) (h : (List.replicate m (Value.int .i64 x))[j]? = some v) : (fillX x n k)[0 + j]? = some v := by
  have hj := (List.getElem?_eq_some_iff.1 h).1
  simp only [List.length_replicate] at hj
  unfold fillX
  rw [Nat.zero_add, List.getElem?_append_left (by simp; omega)]
  rw [List.getElem?_replicate] at h ⊢
  rw [if_pos hj] at h
  rw [if_pos (by omega)]
  exact h
/-- A list's front is copied onto what is behind it. -/
theorem os_copyX {e n k cap cap2 : Nat} {z : Int} (h1 : k ≤ n) (ht : tyAt c.tys t = some ⟨a0, s0, z0, .slice e⟩) (he : tyAt c.tys e = some ⟨a1, 1, z1, k1⟩) (hx : ev F x = some (.slice (some ⟨g, 0 + k * 1, none⟩) (n - k) cap)) (hy : ev F y = some (.slice (some ⟨g, 0, none⟩) k cap2))
    (hp : Pick H g (fillX z n k) tg H') (kk : K (.int .i64 (min k (n - k) : Nat)) ((g, fillX z n (k + min k (n - k)), tg) :: H')) : OS c ⟨d, .call ⟨.builtin .copy, #[x, y], #[t, t']⟩, ty, pos, af, gd⟩ F H K := by
  rw [Nat.zero_add, Nat.mul_one] at hx
  refine os_copy (vs := List.replicate (min k (n - k)) (Value.int .i64 z)) ht he hx hy hp (Rds.own hp _ _ fun j v hj => fillX_at (by omega) j v hj) (by simp) (by rw [fillX_len h1]; simp; omega) (by intro v hv; obtain rfl := (List.mem_replicate.1 hv).2; rfl) ?_
  rw [fillX_set _ _ (by omega)]
  simpa using kk
theorem os_copy1 {e n b2 o2 cap cap2 : Nat} {z : Int} (h1 : 1 ≤ n) (ht : tyAt c.tys t = some ⟨a0, s0, z0, .slice e⟩) (he : tyAt c.tys e = some ⟨a1, 1, z1, k1⟩) (hx : ev F x = some (.slice (some ⟨g, 0, none⟩) n cap)) (hy : ev F y = some (.slice (some ⟨b2, o2, none⟩) 1 cap2))
    (hp : Pick H g (List.replicate n (Value.int .i64 0)) tg H') (hr : Rd c H ⟨b2, o2, none⟩ (.int .i64 z)) (kk : K (.int .i64 (1 : Nat)) ((g, fillX z n 1, tg) :: H')) : OS c ⟨d, .call ⟨.builtin .copy, #[x, y], #[t, t']⟩, ty, pos, af, gd⟩ F H K := by
  refine os_copy (vs := [Value.int .i64 z]) ht he hx hy hp ⟨hr, trivial⟩ (by show 1 = min 1 n; omega) (by simp; omega) (by intro v hv; simp only [List.mem_singleton] at hv; rw [hv]; rfl) ?_
  have := fillX_set (x := z) (n := n) 1 0 (by omega)
  rw [fillX_zero (x := z)]
  rw [show ([Value.int .i64 z] : List Value) = List.replicate 1 (Value.int .i64 z) from rfl, this]
  exact kk
end
end Go.Proofs.Ytmlmgipngbndgaa
namespace Go.Proofs.Ytmlmgipngbndgaa
set_option linter.unusedVariables false
set_option linter.unusedSimpArgs false
def never : Int := 1099511627776
/-- What has to be left before a flight, after the inspection, if there is one; r: what is needed behind it. -/
def befV (gr f r : Int) : Int := max (f - gr) (r + f)
/-- What has to be left at least, with k inspections from there on. -/
def ndL (ev gr : Int) : List Int → Nat → Int
  | [], k => if k = 0 then -never else never
  | f :: t, 0 => befV gr f (ndL ev gr t 0)
  | f :: t, k + 1 => if befV gr f (ndL ev gr t k) ≤ ev then min (befV gr f (ndL ev gr t (k + 1))) (befV gr f (ndL ev gr t k) - ev) else befV gr f (ndL ev gr t (k + 1))
theorem nd_zero (ev gr f : Int) (t : List Int) : ndL ev gr (f :: t) 0 = befV gr f (ndL ev gr t 0) := rfl
theorem nd_succ (ev gr f : Int) (t : List Int) (k : Nat) : ndL ev gr (f :: t) (k + 1) = if befV gr f (ndL ev gr t k) ≤ ev then min (befV gr f (ndL ev gr t (k + 1))) (befV gr f (ndL ev gr t k) - ev) else befV gr f (ndL ev gr t (k + 1)) := rfl
theorem nd_nil (ev gr : Int) (k : Nat) : ndL ev gr [] k = if k = 0 then -never else never := rfl
def FsOk (fs : List Int) : Prop := ∀ f ∈ fs, 1 ≤ f ∧ f ≤ 10000
theorem nd_in {ev gr : Int} (he : 1 ≤ ev ∧ ev ≤ 100000) (hg : 0 ≤ gr ∧ gr ≤ 100000) : ∀ {fs : List Int}, FsOk fs → ∀ k, -never ≤ ndL ev gr fs k ∧ ndL ev gr fs k ≤ never + 10000 * (fs.length : Int)
  | [], _, k => by rw [nd_nil]; unfold never; split <;> simp
  | f :: t, h, k => by
    have hf := h f (List.mem_cons_self ..)
    have ih := fun k => nd_in he hg (fs := t) (fun x hx => h x (List.mem_cons_of_mem _ hx)) k
    have hn : never = 1099511627776 := rfl
    rw [List.length_cons]
    cases k with
    | zero =>
      have i0 := ih 0
      rw [nd_zero]
      unfold befV
      omega
    | succ k =>
      have i0 := ih k
      have i1 := ih (k + 1)
      rw [nd_succ]
      unfold befV
      split <;> omega
theorem nd_iff {ev gr f L : Int} {t : List Int} {k : Nat} : ndL ev gr (f :: t) k ≤ L ↔ befV gr f (ndL ev gr t k) ≤ L ∨ ∃ j, k = j + 1 ∧ befV gr f (ndL ev gr t j) ≤ min L 0 + ev := by
  cases k with
  | zero =>
    rw [nd_zero]
    refine ⟨.inl, ?_⟩
    rintro (h | ⟨j, h, _⟩)
    · exact h
    · omega
  | succ k =>
    rw [nd_succ]
    obtain ⟨p, hp⟩ : ∃ p, befV gr f (ndL ev gr t k) = p := ⟨_, rfl⟩
    obtain ⟨q, hq⟩ : ∃ q, befV gr f (ndL ev gr t (k + 1)) = q := ⟨_, rfl⟩
    rw [hp, hq]
    constructor
    · intro h
      by_cases h2 : q ≤ L
      · exact .inl h2
      · refine .inr ⟨k, rfl, ?_⟩
        rw [hp]
        split at h <;> omega
    · rintro (h | ⟨j, hj, h⟩)
      · split <;> omega
      · obtain rfl : k = j := by omega
        rw [hp] at h
        rw [if_pos (by omega)]
        omega
/-! From the front -/
/-! The plan -/
/-- The fewest inspections; below zero: there is no plan. -/
def fewV (ev gr du : Int) (fs : List Int) : Int := idxV (fun x => decide (x ≤ du)) ((List.range (fs.length + 1)).map (ndL ev gr fs))
def insG (ev gr : Int) : List Int → Nat → Nat → Int → List Int
  | [], _, _, _ => []
  | f :: t, i, k, L => if befV gr f (ndL ev gr t k) ≤ L then insG ev gr t (i + 1) k (L - f) else (i : Int) :: insG ev gr t (i + 1) (k - 1) (min L 0 + ev - f)
/-- What Inspect returns: the plan, and the error. -/
def insE (ev gr du : Int) (fs : List Int) : Int := if caredE ev gr du fs = 0 then (if fewV ev gr du fs < 0 then 6 else 0) else caredE ev gr du fs
def insV (ev gr du : Int) (fs : List Int) : List Int := insG ev gr fs 0 (fewV ev gr du fs).toNat du
end Go.Proofs.Ytmlmgipngbndgaa
namespace Go.Proofs.Ytmlmgipngbndgaa
open Go.RowKit
attribute [local irreducible] OQ OS OX Rd T TL GX GL AL AI RV wpG SAny Calls
set_option maxRecDepth 100000
set_option maxHeartbeats 2000000
set_option linter.unusedVariables false
set_option linter.unusedSimpArgs false
theorem info3 : (Try.prog.info? 3).map (fun i => i.zero) = some (some (.int .i64 0)) := by kernel_rfl
/-- A list that is filled, from the front. -/
def fillV (nx : Nat → Int) (m k : Nat) : List Value := ((List.range k).map nx).map iv ++ List.replicate (m - k) (Value.int .i64 0)
theorem fill_open {nx : Nat → Int} {m k : Nat} (h : k < m) : fillV nx m k = ((List.range k).map nx).map iv ++ Value.int .i64 0 :: List.replicate (m - (k + 1)) (Value.int .i64 0) := by
  unfold fillV
  rw [show m - k = (m - (k + 1)) + 1 by omega, List.replicate_succ]
theorem fill_close {nx : Nat → Int} {m k : Nat} {v : Int} (h : nx k = v) : ((List.range k).map nx).map iv ++ Value.int .i64 v :: List.replicate (m - (k + 1)) (Value.int .i64 0) = fillV nx m (k + 1) := by
  unfold fillV
  rw [List.range_succ]
  simp [h, iv]
theorem fill_done {nx : Nat → Int} {m : Nat} : fillV nx m m = ((List.range m).map nx).map iv := by unfold fillV; simp
end Go.Proofs.Ytmlmgipngbndgaa
namespace Go.Proofs.Ytmlmgipngbndgaa
open Go.RowKit
attribute [local irreducible] OQ OS OX Rd T TL GX GL AL AI RV wpG SAny Calls
set_option maxRecDepth 100000
set_option maxHeartbeats 2000000
set_option linter.unusedVariables false
set_option linter.unusedSimpArgs false
theorem mul64_calls (x y : Int) (h0 : 0 ≤ x) (h1 : x < 4294967296) (h2 : 0 ≤ y) (h3 : y < 4294967296) (w : World) : Calls Try.prog 122 #[.int .u64 x, .int .u64 y] w fun e w' => e = .returned (.tuple #[.int .u64 0, .int .u64 (x * y)]) ∧ Ext w w' := by
  have hp : 0 ≤ x * y ∧ x * y ≤ 4294967295 * 4294967295 := ⟨Int.mul_nonneg h0 h2, Int.mul_le_mul (by omega) (by omega) h2 (by omega)⟩
  have hxy : InU (x * y) := ⟨by omega, by omega⟩
  refine enterQ (c := cx w 51) Try.func122 rfl rfl rfl rfl ?_
  repeat' (first | ((with_reducible apply oq_id); first | (apply oq_fn; exact rfl; first | exact trivial | (refine ⟨?_, ?_⟩ <;> omega) | (refine ⟨?_, ?_, ?_⟩ <;> omega) | omega | skip) | (focus ((with_reducible apply oq_shrLow); exact rfl; exact rfl; (refine ⟨?_, ?_⟩ <;> omega))) | (focus ((with_reducible apply oq_andLow); exact rfl; exact rfl; (refine ⟨?_, ?_⟩ <;> omega))) | (focus ((with_reducible apply oq_shr32); exact rfl; exact rfl; omega)) | (focus ((with_reducible apply oq_addU); exact rfl; exact rfl; (first | exact hxy | (refine ⟨?_, ?_⟩ <;> omega)))) | (focus ((with_reducible apply oq_mulU); exact rfl; exact rfl; (first | exact hxy | (refine ⟨?_, ?_⟩ <;> omega))))) | ((with_reducible apply tl_id); first | ((with_reducible apply tl_nil)) | ((with_reducible apply u_q); exact rfl; exact rfl; exact rfl; exact rfl)) | ((with_reducible apply t_id); first | ((with_reducible apply t_seq)) | (apply t_region; kernel_rfl) | ((with_reducible apply t_ret))) | with_reducible apply q_thenN | ((with_reducible apply end_ret)) | exact rvs_nil | ((with_reducible apply rvs_cons)) | ((with_reducible apply rv_tmp); exact rfl))
  all_goals rfl
theorem mul_calls (y : Int) (h2 : 0 ≤ y) (h3 : y < 4294967296) (w : World) : Calls Try.prog 103 #[.int .u64 1, .int .u64 y] w fun e w' => e = .returned (.tuple #[.int .u64 0, .int .u64 y]) ∧ Ext w w' := by
  have HM := fun w1 => mul64_calls 1 y (by omega) (by omega) h2 h3 w1
  rw [Int.one_mul] at HM
  refine enterQ (c := cx w 30) Try.func103 rfl rfl rfl rfl ?_
  repeat' (first | ((with_reducible apply oq_id); first | (apply oq_fn; exact rfl; first | exact trivial | (refine ⟨?_, ?_⟩ <;> omega) | (refine ⟨?_, ?_, ?_⟩ <;> omega) | omega | skip) | ((with_reducible apply oq_call (k := 122) (hc := Try.call122)); exact rfl; exact rfl; exact fun D w1 hw1 => HM w1)) | ((with_reducible apply tl_id); first | ((with_reducible apply tl_nil)) | ((with_reducible apply u_q); exact rfl; exact rfl; exact rfl; exact rfl)) | ((with_reducible apply t_id); first | ((with_reducible apply t_seq)) | (apply t_region; kernel_rfl) | ((with_reducible apply t_condF); exact rfl) | ((with_reducible apply t_ret)) | ((with_reducible apply t_skip))) | with_reducible apply q_thenN | ((with_reducible apply end_ret)) | exact rvs_nil | ((with_reducible apply rvs_cons)) | ((with_reducible apply rv_tmp); exact rfl))
  all_goals rfl
def RepV (x : Int) (n : Nat) (V : Value) (H : Hp) : Prop := ∃ g, V = .slice (some ⟨g, 0, none⟩) n n ∧ H = [(g, (List.replicate n x).map iv, some (3, 1, n))]
theorem repeat_T (x : Int) (A : Option Addr) (n c : Nat) (w : World) (hr : RdS w 1 A 1 ([x].map inCells)) (hn0 : 1 ≤ n) (hn : n ≤ 1000) :
    Calls Try.prog 74 #[.slice A 1 c, .int .i64 (n : Int)] w fun e w' => ∃ V H', e = .returned V ∧ RepV x n V H' ∧ Has w ⟨[], []⟩ H' w' := by
  have HM := fun w1 => mul_calls (n : Int) (by omega) (by omega) w1
  obtain ⟨b1, o1, x', rfl, _, hx, c0⟩ := in_read hr (show 0 < 1 by omega)
  obtain rfl : x = x' := by simpa using hx
  refine enterF (c := cx w 48) Try.func74 rfl rfl rfl rfl ?_
  repeat' (first | ((with_reducible apply oq_id); first | (apply oq_fn; exact rfl; first | exact trivial | (refine ⟨?_, ?_⟩ <;> omega) | (refine ⟨?_, ?_, ?_⟩ <;> omega) | omega | skip) | (focus ((with_reducible apply oq_convU); exact rfl; exact rfl; exact rfl; (refine ⟨?_, ?_⟩ <;> omega))) | ((with_reducible apply oq_call (k := 103) (hc := Try.call103)); exact rfl; exact rfl; exact fun D w1 hw1 => HM w1)) | ((with_reducible apply tl_id); first | ((with_reducible apply tl_nil)) | ((with_reducible apply u_s); exact rfl; exact rfl; exact rfl; ((with_reducible apply os_copy1); omega; exact rfl; exact rfl; exact rfl; exact rfl; (repeat (first | exact P0 | apply P1)))) | ((with_reducible apply u_q); exact rfl; exact rfl; exact rfl; exact rfl) | ((with_reducible apply u_s); exact rfl; exact rfl; exact rfl)) | ((with_reducible apply rd_id); first | (apply Rd.old; (first | (with_reducible assumption) | exact c0 | exact c1 | exact c2 | exact c3 | exact c4 | exact c5 | exact c6 | exact c7 | exact c8 | exact d0 | exact d1 | exact d2 | exact d3 | exact d4 | exact d5); first | exact List.not_mem_nil | exact m0 | exact m1 | exact m2 | exact m3 | exact m4 | exact m5 | exact m6 | exact m7 | exact m8 | exact m9)) | ((with_reducible apply t_id); first | ((with_reducible apply t_seq)) | (apply t_region; kernel_rfl) | ((with_reducible apply t_condF); exact rfl) | ((with_reducible apply t_condD); exact rfl; all_goals first | (intro hp; try (exfalso; omega)) | skip) | ((with_reducible apply t_skip)) | ((with_reducible apply t_block))) | with_reducible apply q_thenN | ((with_reducible apply os_makeI (hk := app_ok41) (hz := info3)); exact rfl; exact rfl; omega; (unfold maxLen; omega); intro _))
  rename_i gN
  apply t_loopK (ι := Nat) [4, 7, 47] (fun k => [(8, .int .i64 (k : Nat))]) (fun k => [(gN, fillX x n k, some (3, 1, n))]) (fun k => 1 ≤ k ∧ k ≤ n) (fun k => n - k) (1)
  (repeat (first | exact KeepF.nil | (apply KeepF.cons; exact rfl) | apply KeepF.skip))
  (repeat (first | exact FrSub.nil | (apply FrSub.cons; exact rfl)))
  (repeat (first | exact HpSub.refl _ | (apply HpSub.consE; (repeat (first | exact P0 | apply P1)); exact rfl) | exact HpSub.nil))
  · exact ⟨by omega, hn0⟩
  rintro k ⟨hk0, hk⟩
  try simp only [List.cons_append, List.nil_append]
  by_cases hlt : k < n
  · have hm : k + min k (n - k) ≤ n := by omega
    repeat' (first | ((with_reducible apply oq_id); first | (focus ((with_reducible apply oq_sliceH (h := k)); exact rfl; exact rfl; exact rfl; exact rfl; exact rfl; omega)) | (focus ((with_reducible apply oq_sliceL (l := k)); exact rfl; exact rfl; exact rfl; exact rfl; exact rfl; omega; omega)) | ((with_reducible apply oq_addE (k := ((k + min k (n - k) : Nat) : Int))); exact rfl; exact rfl; omega) | (apply oq_fn; exact rfl; first | exact trivial | (refine ⟨?_, ?_⟩ <;> omega) | (refine ⟨?_, ?_, ?_⟩ <;> omega) | omega | skip)) | ((with_reducible apply tl_id); first | ((with_reducible apply tl_nil)) | ((with_reducible apply u_q); exact rfl; exact rfl; exact rfl; exact rfl)) | ((with_reducible apply gx_id); first | ((with_reducible apply v_nil)) | ((with_reducible apply v_q); exact rfl; exact rfl; exact rfl)) | ((with_reducible apply ai_id); first | ((with_reducible apply ai_s); exact rfl; exact rfl; exact rfl; exact rfl; exact rfl; ((with_reducible apply os_copyX (n := n) (k := k)); omega; exact rfl; exact rfl; exact rfl; exact rfl; (repeat (first | exact P0 | apply P1)))) | ((with_reducible apply ai_q); exact rfl; exact rfl; exact rfl; exact rfl; exact rfl)) | ((with_reducible apply t_id); first | (apply t_mix (id := 9) [1, 2, 3, 4, 5, 6] 4 #[false, false, false, false, false, false, false, true, false, false]; kernel_rfl; kernel_rfl; exact rfl) | ((with_reducible apply t_seq)) | (apply t_region; kernel_rfl) | ((with_reducible apply t_condD); exact rfl; all_goals first | (intro hp; try (exfalso; omega)) | skip) | ((with_reducible apply t_skip)) | ((with_reducible apply t_block))) | with_reducible apply q_thenN | with_reducible apply q_blockN | ((with_reducible apply al_id); first | (apply al_done; decide +kernel) | (apply al_one 0; decide +kernel) | (apply al_one 7; decide +kernel) | (apply al_one 8; decide +kernel) | (apply al_one 9; decide +kernel) | (apply al_two 0 7; decide +kernel)))
    all_goals (refine ⟨k + min k (n - k), ⟨by omega, hm⟩, by omega, ?_, ?_⟩)
    all_goals ((try simp only [List.cons_append, List.nil_append]); (repeat' (first | exact FrSub.nil | (apply FrSub.cons; exact rfl) | exact HpSub.refl _)))
  · obtain rfl : k = n := by omega
    repeat' (first | ((with_reducible apply oq_id); first | (apply oq_fn; exact rfl; first | exact trivial | (refine ⟨?_, ?_⟩ <;> omega) | (refine ⟨?_, ?_, ?_⟩ <;> omega) | omega | skip)) | ((with_reducible apply tl_id); first | ((with_reducible apply tl_nil)) | ((with_reducible apply u_q); exact rfl; exact rfl; exact rfl; exact rfl)) | ((with_reducible apply t_id); first | ((with_reducible apply t_seq)) | (apply t_region; kernel_rfl) | ((with_reducible apply t_condD); exact rfl; all_goals first | (intro hp; try (exfalso; omega)) | skip) | ((with_reducible apply t_ret)) | ((with_reducible apply t_exit))) | with_reducible apply q_thenN | with_reducible apply q_thenE | ((with_reducible apply q_blockE); exact rfl) | ((with_reducible apply end_ret)) | exact rvs_nil | ((with_reducible apply rvs_cons)) | ((with_reducible apply rv_tmp); exact rfl))
    all_goals exact ⟨_, ⟨gN, rfl, by rw [← fillX_done]⟩, by (repeat (first | exact HpSub.refl _ | (apply HpSub.consE; (repeat (first | exact P0 | apply P1)); exact rfl) | exact HpSub.nil))⟩
end Go.Proofs.Ytmlmgipngbndgaa
namespace Go.Proofs.Ytmlmgipngbndgaa
set_option linter.unusedVariables false
set_option linter.unusedSimpArgs false
theorem FsOk.drop {fs : List Int} (h : FsOk fs) (i : Nat) : FsOk (fs.drop i) := fun x hx => h x (List.mem_of_mem_drop hx)
theorem insG_skip {ev gr x : Int} {t : List Int} {i k : Nat} {L : Int} (h : befV gr x (ndL ev gr t k) ≤ L) : insG ev gr (x :: t) i k L = insG ev gr t (i + 1) k (L - x) := by
  rw [insG, if_pos h]
theorem insG_ins {ev gr x : Int} {t : List Int} {i k : Nat} {L : Int} (h : ¬ befV gr x (ndL ev gr t k) ≤ L) : insG ev gr (x :: t) i k L = (i : Int) :: insG ev gr t (i + 1) (k - 1) (min L 0 + ev - x) := by
  rw [insG, if_neg h]
/-- What is needed behind a flight, where there is an inspection before it or not. -/
theorem nd_skip {ev gr x : Int} {t : List Int} {k : Nat} {L : Int} (h : befV gr x (ndL ev gr t k) ≤ L) : ndL ev gr t k ≤ L - x := by unfold befV at h; omega
theorem nd_ins {ev gr x : Int} {t : List Int} {k : Nat} {L : Int} (h0 : ndL ev gr (x :: t) k ≤ L) (h : ¬ befV gr x (ndL ev gr t k) ≤ L) : 1 ≤ k ∧ ndL ev gr t (k - 1) ≤ min L 0 + ev - x ∧ x - gr ≤ min L 0 + ev := by
  rcases nd_iff.1 h0 with h1 | ⟨j, rfl, h1⟩
  · exact absurd h1 h
  · unfold befV at h1
    rw [Nat.add_sub_cancel]
    exact ⟨by omega, by omega, by omega⟩
end Go.Proofs.Ytmlmgipngbndgaa
namespace Go.Proofs.Ytmlmgipngbndgaa
open Go.RowKit
attribute [local irreducible] OQ OS OX Rd T TL GX GL AL AI RV wpG SAny Calls
set_option maxRecDepth 100000
set_option maxHeartbeats 2000000
set_option linter.unusedVariables false
set_option linter.unusedSimpArgs false
section
variable {c : Cx} {F : Fr} {H : Hp} {d : Option Tmp} {ty t : TypeId} {pos : String} {af : Array Edge} {g : Option (Nat × Bool)} {x y : Operand}
end
/-- A list that is nil, or a block of the call's own. -/
def planS (pre : List Int) : Option (Nat × Nat) → Value
  | none => .slice none 0 0
  | some (g, cap) => .slice (some ⟨g, 0, none⟩) pre.length cap
def planH (pre : List Int) : Option (Nat × Nat) → Hp
  | none => []
  | some (g, cap) => [(g, pre.map iv, some (3, 1, cap))]
theorem planS_none (pre : List Int) : planS pre none = .slice none 0 0 := rfl
theorem planS_some (pre : List Int) (g cap : Nat) : planS pre (some (g, cap)) = .slice (some ⟨g, 0, none⟩) pre.length cap := rfl
theorem planH_none (pre : List Int) : planH pre none = [] := rfl
theorem planH_some (pre : List Int) (g cap : Nat) : planH pre (some (g, cap)) = [(g, pre.map iv, some (3, 1, cap))] := rfl
/-- What Inspect returns. -/
def InsO (E : Int) (pl : List Int) (V : Value) (H : Hp) : Prop :=
  (E ≠ 0 ∧ V = .tuple #[.slice none 0 0, .int .i64 E] ∧ H = []) ∨ (E = 0 ∧ ∃ o, (o = none → pl = []) ∧ V = .tuple #[planS pl o, .int .i64 0] ∧ H = planH pl o)
end Go.Proofs.Ytmlmgipngbndgaa
namespace Go.Proofs.Ytmlmgipngbndgaa
open Go.RowKit
attribute [local irreducible] OQ OS OX Rd T TL GX GL AL AI RV wpG SAny Calls
set_option maxRecDepth 100000
set_option maxHeartbeats 2000000
set_option linter.unusedVariables false
set_option linter.unusedSimpArgs false
/-- What 'before' tells. -/
theorem bef_calls (b3 b2 b8 bN gR i k n : Nat) (A : Option Addr) (c cN cR : Nat) (fs : List Int) (gr x r : Int) (w : World) (hr : RdS w 1 A n (fs.map inCells)) (hx : fs[i]? = some x) (k0 : w.cell? ⟨b3, 0, none⟩ = some (.slice A n c)) (k1 : w.cell? ⟨b2, 0 + 1, none⟩ = some (.int .i64 gr)) (k2 : w.cell? ⟨b8, 0, none⟩ = some (.slice (some ⟨bN, 0, none⟩) (n + 1) cN))
    (k3 : w.cell? ⟨bN, 0 + (i + 1) * 1, none⟩ = some (.slice (some ⟨gR, 0, none⟩) (n + 1) cR)) (k4 : w.cell? ⟨gR, 0 + k * 1, none⟩ = some (.int .i64 r)) (hk : k ≤ n) (hn : n ≤ 1000) (hxx : 1 ≤ x ∧ x ≤ 10000) (hg : 0 ≤ gr ∧ gr ≤ 100000) (hrr : -1099511627776 ≤ r ∧ r ≤ 2199023255552) :
    Calls Try.prog 75 #[.int .i64 (i : Int), .int .i64 (k : Int), .pointer (some ⟨b3, 0, none⟩), .pointer (some ⟨b2, 0, none⟩), .pointer (some ⟨b8, 0, none⟩)] w fun e w' => e = .returned (.int .i64 (befV gr x r)) ∧ Ext w w' := by
  have hl := hr.len
  simp only [List.length_map] at hl
  have hi := (List.getElem?_eq_some_iff.1 hx).1
  obtain ⟨b1, o1, x', rfl, _, hx', c0⟩ := in_read hr (show i < n by omega)
  obtain rfl : x = x' := by rw [hx] at hx'; exact Option.some.inj hx'
  refine enterQ (c := cx w 29) Try.func75 rfl rfl rfl rfl ?_
  repeat' (first | ((with_reducible apply oq_id); first | (focus ((with_reducible apply oq_indexAddrN); exact rfl; exact rfl; exact rfl; exact rfl; omega)) | ((with_reducible apply oq_addE (k := ((i + 1 : Nat) : Int))); exact rfl; exact rfl; omega) | (apply oq_fn; exact rfl; first | exact trivial | (refine ⟨?_, ?_⟩ <;> omega) | (refine ⟨?_, ?_, ?_⟩ <;> omega) | omega | skip) | ((with_reducible apply oq_load); exact rfl; exact rfl)) | ((with_reducible apply tl_id); first | ((with_reducible apply tl_nil)) | ((with_reducible apply u_q); exact rfl; exact rfl; exact rfl; exact rfl)) | ((with_reducible apply gx_id); first | ((with_reducible apply v_nil)) | ((with_reducible apply v_q); exact rfl; exact rfl; exact rfl)) | ((with_reducible apply rd_id); first | (apply Rd.old; (first | exact k0 | exact k1 | exact k2 | exact k3 | exact k4); exact List.not_mem_nil) | (apply Rd.old; (first | (with_reducible assumption) | exact c0 | exact c1 | exact c2 | exact c3 | exact c4 | exact c5 | exact c6 | exact c7 | exact c8 | exact d0 | exact d1 | exact d2 | exact d3 | exact d4 | exact d5); first | exact List.not_mem_nil | exact m0 | exact m1 | exact m2 | exact m3 | exact m4 | exact m5 | exact m6 | exact m7 | exact m8 | exact m9)) | ((with_reducible apply t_id); first | ((with_reducible apply t_seq)) | (apply t_region; kernel_rfl) | (apply t_drawn; kernel_rfl; decide +kernel; try simp only [List.append_eq, List.cons_append, List.nil_append]) | ((with_reducible apply t_ret))) | with_reducible apply q_thenN | ((with_reducible apply end_ret)) | exact rvs_nil | ((with_reducible apply rvs_cons)) | ((with_reducible apply rv_tmp); exact rfl))
  all_goals rfl
theorem most_calls (b2 : Nat) (du z : Int) (w : World) (c0 : w.cell? ⟨b2, 0 + 2, none⟩ = some (.int .i64 du)) : Calls Try.prog 77 #[.int .i64 z, .pointer (some ⟨b2, 0, none⟩)] w fun e w' => e = .returned (.bool (decide (z ≤ du))) ∧ Ext w w' := by
  refine enterQ (c := cx w 8) Try.func77 rfl rfl rfl rfl ?_
  repeat' (first | ((with_reducible apply oq_id); first | (apply oq_fn; exact rfl; first | exact trivial | (refine ⟨?_, ?_⟩ <;> omega) | (refine ⟨?_, ?_, ?_⟩ <;> omega) | omega | skip) | ((with_reducible apply oq_load); exact rfl; exact rfl)) | ((with_reducible apply tl_id); first | ((with_reducible apply tl_nil)) | ((with_reducible apply u_q); exact rfl; exact rfl; exact rfl; exact rfl)) | ((with_reducible apply rd_id); first | (apply Rd.old; (first | (with_reducible assumption) | exact c0 | exact c1 | exact c2 | exact c3 | exact c4 | exact c5 | exact c6 | exact c7 | exact c8 | exact d0 | exact d1 | exact d2 | exact d3 | exact d4 | exact d5); first | exact List.not_mem_nil | exact m0 | exact m1 | exact m2 | exact m3 | exact m4 | exact m5 | exact m6 | exact m7 | exact m8 | exact m9)) | ((with_reducible apply t_id); first | ((with_reducible apply t_seq)) | (apply t_region; kernel_rfl) | ((with_reducible apply t_ret))) | with_reducible apply q_thenN | ((with_reducible apply end_ret)) | exact rvs_nil | ((with_reducible apply rvs_cons)) | ((with_reducible apply rv_tmp); exact rfl))
  all_goals rfl
theorem HpSub.skip {x : Nat × List Value × Tg} {H G : Hp} (h : HpSub H G) : HpSub (x :: H) G := by
  induction h with
  | nil => exact .nil
  | cons p _ ih => exact .cons (.tail p) ih
/-- The rows that are there, by the number of flights behind them: the table's tail, and the blocks. -/
def tailV (n : Nat) (gs : Nat → Nat) : Nat → List Value
  | 0 => []
  | m + 1 => .slice (some ⟨gs m, 0, none⟩) (n + 1) (n + 1) :: tailV n gs m
def rowV (ev gr : Int) (fs : List Int) (m : Nat) : List Value := ((List.range (fs.length + 1)).map (ndL ev gr (fs.drop (fs.length - m)))).map iv
def rowsH (n : Nat) (ev gr : Int) (fs : List Int) (gs : Nat → Nat) : Nat → Hp
  | 0 => []
  | m + 1 => (gs m, rowV ev gr fs m, some (3, 1, n + 1)) :: rowsH n ev gr fs gs m
theorem tailV_congr {n : Nat} {gs gs' : Nat → Nat} : ∀ {m : Nat}, (∀ j, j < m → gs j = gs' j) → tailV n gs m = tailV n gs' m
  | 0, _ => rfl
  | m + 1, h => by
    unfold tailV
    rw [h m (by omega), tailV_congr fun j hj => h j (by omega)]
theorem rowsH_congr {n : Nat} {ev gr : Int} {fs : List Int} {gs gs' : Nat → Nat} : ∀ {m : Nat}, (∀ j, j < m → gs j = gs' j) → rowsH n ev gr fs gs m = rowsH n ev gr fs gs' m
  | 0, _ => rfl
  | m + 1, h => by
    unfold rowsH
    rw [h m (by omega), rowsH_congr fun j hj => h j (by omega)]
theorem tailV_at {n : Nat} {gs : Nat → Nat} : ∀ {m j : Nat}, j < m → (tailV n gs m)[m - 1 - j]? = some (.slice (some ⟨gs j, 0, none⟩) (n + 1) (n + 1))
  | 0, _, h => by omega
  | m + 1, j, h => by
    unfold tailV
    rcases (by omega : j = m ∨ j < m) with rfl | hlt
    · rw [show j + 1 - 1 - j = 0 by omega]; rfl
    · rw [show m + 1 - 1 - j = (m - 1 - j) + 1 by omega, List.getElem?_cons_succ]
      exact tailV_at hlt
theorem rowsH_mem {n : Nat} {ev gr : Int} {fs : List Int} {gs : Nat → Nat} : ∀ {m j : Nat}, j < m → (gs j, rowV ev gr fs j, some (3, 1, n + 1)) ∈ rowsH n ev gr fs gs m
  | 0, _, h => by omega
  | m + 1, j, h => by
    unfold rowsH
    rcases (by omega : j = m ∨ j < m) with rfl | hlt
    · exact List.mem_cons_self ..
    · exact List.mem_cons_of_mem _ (rowsH_mem hlt)
theorem rowV_at {ev gr : Int} {fs : List Int} {m k : Nat} (hk : k ≤ fs.length) : (rowV ev gr fs m)[0 + k * 1]? = some (.int .i64 (ndL ev gr (fs.drop (fs.length - m)) k)) := by
  unfold rowV
  rw [Nat.zero_add, Nat.mul_one, List.getElem?_map, List.getElem?_map, List.getElem?_range (by omega)]
  rfl
section
variable {c : Cx} {F : Fr} {H H' : Hp} {K : Value → Hp → Prop} {d : Option Tmp} {ty : TypeId} {pos : String} {af : Array Edge} {gd : Option (Nat × Bool)} {t : TypeId} {x y : Operand} {a0 : Bool} {z0 : List Value} {k0 : TyK} {g k : Nat} {tg : Tg} {A B : List Value} {z u : Value}
theorem rdG (h : A.length = k) (p : Pick H g (A ++ z :: B) tg H') : Rd c H ⟨g, 0 + k * 1, none⟩ z := Rd.own p (by rw [Nat.zero_add, Nat.mul_one, ← h]; simp)
theorem os_storeG (h : A.length = k) (ht : tyAt c.tys t = some ⟨a0, 1, z0, k0⟩) (hx : ev F x = some (.pointer (some ⟨g, 0 + k * 1, none⟩))) (hy : ev F y = some u) (hu : u.oneCell' = true) (hp : Pick H g (A ++ z :: B) tg H')
    (kk : K undef ((g, A ++ u :: B, tg) :: H')) : OS c ⟨d, .store t x y, ty, pos, af, gd⟩ F H K :=
  store_gen (vs := [u]) ht hx hy (by cases u <;> first | rfl | (simp [Value.oneCell'] at hu)) rfl (by simpa using hu) hp (by simp; omega) (by
    have e : setL (A ++ z :: B) (0 + k * 1) [u] = A ++ u :: B := by
      simp only [setL]
      rw [Nat.zero_add, Nat.mul_one, ← h, List.set_append_right _ _ (by simp)]
      simp
    rw [e]; exact kk)
end
end Go.Proofs.Ytmlmgipngbndgaa
