/- A part of the proof: rules for walks, and contracts of functions (4). -/
import Derived.Test.YtmlmgipngbndgaaX18C
import Derived.Test.YtmlmgipngbndgaaX18B
set_option linter.unusedVariables false
set_option linter.unusedSimpArgs false
set_option maxRecDepth 100000
set_option maxHeartbeats 2000000
namespace Go.Proofs.Ytmlmgipngbndgaa
open Go.RowKit
attribute [local irreducible] TR OQ OS OX Rd T TL GX GL AL AI RV wpG SAny Calls
theorem byP1 (w : World) : Calls Try.prog 111 #[.agg #[.int .i64 0, .int .i64 1000, .int .i64 1500], .agg #[.int .i64 0, .int .i64 0, .int .i64 600]] w fun e w' => e = .returned (.int .i64 1) ∧ Ext w w' := byPerson_calls 0 1000 1500 0 0 600 w
theorem byP2 (w : World) : Calls Try.prog 111 #[.agg #[.int .i64 0, .int .i64 2100, .int .i64 2200], .agg #[.int .i64 0, .int .i64 1000, .int .i64 1500]] w fun e w' => e = .returned (.int .i64 1) ∧ Ext w w' := byPerson_calls 0 2100 2200 0 1000 1500 w
theorem ins_calls (b cp : Nat) (w : World) (c0 : w.cell? ⟨b, 0, none⟩ = some (.int .i64 0)) (c1 : w.cell? ⟨b, 1, none⟩ = some (.int .i64 0)) (c2 : w.cell? ⟨b, 2, none⟩ = some (.int .i64 600)) (c3 : w.cell? ⟨b, 3, none⟩ = some (.int .i64 0)) (c4 : w.cell? ⟨b, 4, none⟩ = some (.int .i64 1000)) (c5 : w.cell? ⟨b, 5, none⟩ = some (.int .i64 1500)) (c6 : w.cell? ⟨b, 6, none⟩ = some (.int .i64 0)) (c7 : w.cell? ⟨b, 7, none⟩ = some (.int .i64 2100)) (c8 : w.cell? ⟨b, 8, none⟩ = some (.int .i64 2200)) : Calls Try.prog 138 #[.slice (some ⟨b, 0, none⟩) 3 cp, .int .i64 0, .int .i64 3, .func (.func 111) #[] #[]] w fun e w' => e = .returned (.tuple #[]) ∧ Ext w w' := by
 refine enterQ (c := cx w 53) Try.func138 rfl rfl rfl rfl ?_
 repeat' (first | ((with_reducible apply oq_lssT); exact rfl; exact rfl; omega) | ((with_reducible apply oq_lssF); exact rfl; exact rfl; omega) | ((with_reducible apply oq_gtrT); exact rfl; exact rfl; omega) | (apply oq_fn; exact rfl; try first | exact trivial | (and_intros <;> omega)) | ((with_reducible apply oq_loadAgg); exact rfl; exact rfl) | ((with_reducible apply oq_call (k := 111) (hc := Try.call111)); exact rfl; exact rfl; exact fun D w1 hw1 => byP1 w1) | ((with_reducible apply oq_call (k := 111) (hc := Try.call111)); exact rfl; exact rfl; exact fun D w1 hw1 => byP2 w1) | (with_reducible apply tl_nil) | ((with_reducible apply u_q); (iterate 4 exact rfl)) | (with_reducible apply v_nil) | ((with_reducible apply v_q); (iterate 3 exact rfl)) | (apply Rd.old; (first | (with_reducible assumption) | exact c0 | exact c1 | exact c2 | exact c3 | exact c4 | exact c5 | exact c6 | exact c7 | exact c8 | exact d0 | exact d1 | exact d2 | exact d3 | exact d4 | exact d5); first | exact List.not_mem_nil | exact m0 | exact m1 | exact m2 | exact m3 | exact m4 | exact m5 | exact m6 | exact m7 | exact m8 | exact m9) | (with_reducible apply t_seq) | (apply t_region; kernel_rfl) | (apply t_drawn; kernel_rfl; decide +kernel; try simp only [List.append_eq, List.cons_append, List.nil_append]) | ((with_reducible apply t_condT); exact rfl) | ((with_reducible apply t_condF); exact rfl) | (with_reducible apply t_skip) | (with_reducible apply t_exit) | (with_reducible apply t_block) | (apply t_rounds 8) | with_reducible apply q_thenN | with_reducible apply q_blockN | with_reducible apply q_thenE | ((with_reducible apply q_blockE); exact rfl) | exact Rdn.zero | apply Rdn.succ | (with_reducible apply end_normal) | exact rvs_nil | ((with_reducible apply tr_id); apply tr_succ))
 all_goals rfl
theorem stab_calls (b cp : Nat) (w : World) (c0 : w.cell? ⟨b, 0, none⟩ = some (.int .i64 0)) (c1 : w.cell? ⟨b, 1, none⟩ = some (.int .i64 0)) (c2 : w.cell? ⟨b, 2, none⟩ = some (.int .i64 600)) (c3 : w.cell? ⟨b, 3, none⟩ = some (.int .i64 0)) (c4 : w.cell? ⟨b, 4, none⟩ = some (.int .i64 1000)) (c5 : w.cell? ⟨b, 5, none⟩ = some (.int .i64 1500)) (c6 : w.cell? ⟨b, 6, none⟩ = some (.int .i64 0)) (c7 : w.cell? ⟨b, 7, none⟩ = some (.int .i64 2100)) (c8 : w.cell? ⟨b, 8, none⟩ = some (.int .i64 2200)) : Calls Try.prog 136 #[.slice (some ⟨b, 0, none⟩) 3 cp, .int .i64 3, .func (.func 111) #[] #[]] w fun e w' => e = .returned (.tuple #[]) ∧ Ext w w' := by
 refine enterQ (c := cx w 63) Try.func136 rfl rfl rfl rfl ?_
 repeat' (first | ((with_reducible apply oq_leqF); exact rfl; exact rfl; omega) | ((with_reducible apply oq_lssF); exact rfl; exact rfl; omega) | (apply oq_fn; exact rfl; try first | exact trivial | (and_intros <;> omega)) | ((with_reducible apply oq_call (k := 138) (hc := Try.call138)); exact rfl; exact rfl; exact fun D w1 hw1 => ins_calls b cp w1 (hw1.ext.ext.cell c0) (hw1.ext.ext.cell c1) (hw1.ext.ext.cell c2) (hw1.ext.ext.cell c3) (hw1.ext.ext.cell c4) (hw1.ext.ext.cell c5) (hw1.ext.ext.cell c6) (hw1.ext.ext.cell c7) (hw1.ext.ext.cell c8)) | (with_reducible apply tl_nil) | ((with_reducible apply u_q); (iterate 4 exact rfl)) | (with_reducible apply t_seq) | (apply t_region; kernel_rfl) | ((with_reducible apply t_condF); exact rfl) | (with_reducible apply t_exit) | (with_reducible apply t_block) | (apply t_rounds 8) | with_reducible apply q_thenN | with_reducible apply q_thenE | ((with_reducible apply q_blockE); exact rfl) | (with_reducible apply end_normal) | exact rvs_nil | ((with_reducible apply tr_id); apply tr_succ))
 all_goals rfl
theorem sort_calls (b cp : Nat) (w : World) (c0 : w.cell? ⟨b, 0, none⟩ = some (.int .i64 0)) (c1 : w.cell? ⟨b, 1, none⟩ = some (.int .i64 0)) (c2 : w.cell? ⟨b, 2, none⟩ = some (.int .i64 600)) (c3 : w.cell? ⟨b, 3, none⟩ = some (.int .i64 0)) (c4 : w.cell? ⟨b, 4, none⟩ = some (.int .i64 1000)) (c5 : w.cell? ⟨b, 5, none⟩ = some (.int .i64 1500)) (c6 : w.cell? ⟨b, 6, none⟩ = some (.int .i64 0)) (c7 : w.cell? ⟨b, 7, none⟩ = some (.int .i64 2100)) (c8 : w.cell? ⟨b, 8, none⟩ = some (.int .i64 2200)) : Calls Try.prog 130 #[.slice (some ⟨b, 0, none⟩) 3 cp, .func (.func 111) #[] #[]] w fun e w' => e = .returned (.tuple #[]) ∧ Ext w w' := by
 refine enterQ (c := cx w 9) Try.func130 rfl rfl rfl rfl ?_
 repeat' (first | (apply oq_fn; exact rfl; try first | exact trivial | (and_intros <;> omega)) | ((with_reducible apply oq_call (k := 136) (hc := Try.call136)); exact rfl; exact rfl; exact fun D w1 hw1 => stab_calls b cp w1 (hw1.ext.ext.cell c0) (hw1.ext.ext.cell c1) (hw1.ext.ext.cell c2) (hw1.ext.ext.cell c3) (hw1.ext.ext.cell c4) (hw1.ext.ext.cell c5) (hw1.ext.ext.cell c6) (hw1.ext.ext.cell c7) (hw1.ext.ext.cell c8)) | (with_reducible apply tl_nil) | ((with_reducible apply u_q); (iterate 4 exact rfl)) | (apply t_region; kernel_rfl) | (with_reducible apply end_normal) | exact rvs_nil)
 all_goals rfl
structure Sh where
 who : Int
 fr : Int
 to : Int
def shCells (x : Sh) : List Value := [.int .i64 x.who, .int .i64 x.fr, .int .i64 x.to]
theorem sh_len (l : List Sh) : ∀ r ∈ l.map shCells, r.length = 3 := by simp only [List.mem_map]; rintro r ⟨x, _, rfl⟩; rfl
theorem sh_one (l : List Sh) : ∀ r ∈ l.map shCells, ∀ u ∈ r, u.oneCell' = true := by
 simp only [List.mem_map]
 rintro r ⟨x, _, rfl⟩ u hu
 simp [shCells] at hu
 rcases hu with rfl | rfl | rfl <;> rfl
theorem cloneS_T (A : Option Addr) (n c : Nat) (l : List Sh) (w : World) (hr : RdS w 3 A n (l.map shCells)) (hnil : A = none → n = 0 ∧ c = 0) (hn : n ≤ 1000000) :
  Calls Try.prog 89 #[.slice A n c] w fun e w' => ∃ v H', e = .returned v ∧ CloneV 101 3 (l.map shCells).flatten n v H' ∧ Has w ⟨[], []⟩ H' w' := by
 cases A with
 | none =>
  obtain ⟨rfl, rfl⟩ := hnil rfl
  refine enterF (c := cx w 8) Try.func89 rfl rfl rfl rfl ?_
  repeat' (first | ((with_reducible apply oq_eqNilT); (iterate 3 exact rfl)) | (apply oq_fn; exact rfl; try first | exact trivial | (and_intros <;> omega)) | (with_reducible apply tl_nil) | ((with_reducible apply u_q); (iterate 4 exact rfl)) | (with_reducible apply t_seq) | (apply t_region; kernel_rfl) | ((with_reducible apply t_condT); exact rfl) | (with_reducible apply t_ret) | with_reducible apply q_thenN | with_reducible apply q_thenR | (with_reducible apply end_ret) | exact rvs_nil | (with_reducible apply rvs_cons) | ((with_reducible apply rv_tmp); exact rfl))
  exact ⟨_, ⟨none, fun _ => rfl, rfl, rfl⟩, HpSub.nil⟩
 | some p =>
  refine enterF (c := cx w 8) Try.func89 rfl rfl rfl rfl ?_
  repeat' (first | ((with_reducible apply oq_eqNil); (iterate 3 exact rfl)) | (apply oq_fn; exact rfl; try first | exact trivial | (and_intros <;> omega)) | (with_reducible apply tl_nil) | ((with_reducible apply u_s); (iterate 3 exact rfl); (with_reducible apply os_appendRows (hk := app_ok75) (rows := l.map shCells) (hr := fun D w1 hw1 => hr.ext hw1.ext.ext)); exact rfl; exact rfl; exact P0; exact sh_len l; exact rfl; exact sh_one l; exact Nat.le_refl _; omega; omega; intro b cap'; simp only [Nat.zero_add, List.nil_append]) | ((with_reducible apply u_q); (iterate 4 exact rfl)) | ((with_reducible apply u_s); (iterate 3 exact rfl)) | ((with_reducible apply os_x); exact rfl) | ((with_reducible apply ox_buildSlice); (iterate 4 exact rfl)) | (with_reducible apply t_seq) | (apply t_region; kernel_rfl) | ((with_reducible apply t_condF); exact rfl) | (with_reducible apply t_ret) | (with_reducible apply t_skip) | with_reducible apply q_thenN | ((with_reducible apply Norm.nil); exact rfl) | (with_reducible apply end_ret) | exact rvs_nil | (with_reducible apply rvs_cons) | ((with_reducible apply rv_tmp); exact rfl) | exact (rfl : (_ : Bool) = true) | (intro _; with_reducible apply tl_id))
  exact ⟨_, ⟨some (b, cap'), fun h => (by cases h), rfl, rfl⟩, HpSub.refl _⟩
def roV : List Sh := [⟨0, 0, 600⟩, ⟨0, 1000, 1500⟩, ⟨0, 2100, 2200⟩]
def roC : List Value := [.int .i64 0, .int .i64 0, .int .i64 600, .int .i64 0, .int .i64 1000, .int .i64 1500, .int .i64 0, .int .i64 2100, .int .i64 2200]
def ArrV (v : Value) (H : Hp) : Prop := ∃ b cp, v = .slice (some ⟨b, 0, none⟩) 3 cp ∧ H = [(b, roC, some (101, 3, cp))]
theorem arr_T (A : Option Addr) (c : Nat) (w : World) (hr : RdS w 3 A 3 (roV.map shCells)) (hA : A = none → (3 : Nat) = 0 ∧ c = 0) : Calls Try.prog 110 #[.slice A 3 c, .func (.func 111) #[] #[]] w fun e w' => ∃ v H', e = .returned v ∧ ArrV v H' ∧ Has w ⟨[], []⟩ H' w' := by
 refine enterF (c := cx w 11) Try.func110 rfl rfl rfl rfl ?_
 refine t_cut (ι := Unit) (fun _ => [(0, .slice A 3 c), (1, .func (.func 111) #[] #[])]) (fun _ => []) (fun _ => True) ?_ ?_
 ·repeat' (first | (apply oq_fn; exact rfl; try first | exact trivial | (and_intros <;> omega)) | (with_reducible apply tl_nil) | ((with_reducible apply u_q); (iterate 4 exact rfl)) | (apply t_region; kernel_rfl))
  all_goals exact ⟨rfl, (), trivial, by (repeat (first | exact FrSub.nil | (apply FrSub.cons; exact rfl))), by (repeat (first | exact HpSub.refl _ | (apply HpSub.consE; (repeat (first | exact P0 | apply P1)); exact rfl) | exact HpSub.nil))⟩
 rintro ⟨⟩ -
 refine t_cut (ι := Nat × Nat) (fun z => [(0, .slice (some ⟨z.1, 0, none⟩) 3 z.2), (1, .func (.func 111) #[] #[])]) (fun z => [(z.1, roC, some (101, 3, z.2))]) (fun _ => True) ?_ ?_
 ·repeat' (first | (apply oq_fn; exact rfl; try first | exact trivial | (and_intros <;> omega)) | (with_reducible apply tl_nil) | ((with_reducible apply u_s); (iterate 3 exact rfl); (with_reducible apply os_callF (PV := CloneV 101 3 (roV.map shCells).flatten 3) (k := 89) (hc := Try.call89)); exact rfl; exact rfl; exact fun D w1 hw1 => cloneS_T A 3 c roV w1 (hr.ext hw1.ext.ext) hA (by decide); rintro v H' ⟨x, hx, rfl, rfl⟩; (rcases x with _ | ⟨g, cp⟩); (exact absurd (hx rfl) (by decide)); (simp only [clH, clA, clC, List.cons_append, List.nil_append])) | ((with_reducible apply u_q); (iterate 4 exact rfl)) | (apply t_region; kernel_rfl))
  all_goals exact ⟨by trivial, (_, _), trivial, by (repeat (first | exact FrSub.nil | (apply FrSub.cons; exact rfl))), by (repeat (first | exact HpSub.refl _ | (apply HpSub.consE; (repeat (first | exact P0 | apply P1)); exact rfl) | exact HpSub.nil))⟩
 rintro ⟨b, cp⟩ -
 simp only
 unfold roC
 repeat' (first | (apply oq_fn; exact rfl; try first | exact trivial | (and_intros <;> omega)) | ((with_reducible apply oq_call (k := 130) (hc := Try.call130)); exact rfl; exact rfl; exact fun D w1 hw1 => sort_calls b cp w1 (hw1.cellAt (by (repeat (first | exact P0 | apply P1))) rfl) (hw1.cellAt (by (repeat (first | exact P0 | apply P1))) rfl) (hw1.cellAt (by (repeat (first | exact P0 | apply P1))) rfl) (hw1.cellAt (by (repeat (first | exact P0 | apply P1))) rfl) (hw1.cellAt (by (repeat (first | exact P0 | apply P1))) rfl) (hw1.cellAt (by (repeat (first | exact P0 | apply P1))) rfl) (hw1.cellAt (by (repeat (first | exact P0 | apply P1))) rfl) (hw1.cellAt (by (repeat (first | exact P0 | apply P1))) rfl) (hw1.cellAt (by (repeat (first | exact P0 | apply P1))) rfl)) | (with_reducible apply tl_nil) | ((with_reducible apply u_q); (iterate 4 exact rfl)) | (with_reducible apply t_seq) | (apply t_region; kernel_rfl) | (with_reducible apply t_ret) | with_reducible apply q_thenN | (with_reducible apply end_ret) | exact rvs_nil | (with_reducible apply rvs_cons) | ((with_reducible apply rv_tmp); exact rfl))
 all_goals exact ⟨_, ⟨b, cp, rfl, rfl⟩, HpSub.refl _⟩
end Go.Proofs.Ytmlmgipngbndgaa
namespace Go.Proofs.Ytmlmgipngbndgaa
/-- The order of shifts. -/
def ltS (x y : Sh) : Bool := decide (byP x.who x.fr y.who y.fr < 0)
theorem ordV_neg {a b : Int} : ordV a b < 0 ↔ a < b := by unfold ordV; split <;> (try split) <;> omega
theorem ordV_zero {a b : Int} : ordV a b = 0 ↔ a = b := by unfold ordV; split <;> (try split) <;> omega
theorem ltS_iff {x y : Sh} : ltS x y = true ↔ x.who < y.who ∨ (x.who = y.who ∧ x.fr < y.fr) := by
 unfold ltS byP
 rw [decide_eq_true_iff]
 by_cases h : ordV x.who y.who = 0
 ·rw [if_pos h, ordV_neg]; rw [ordV_zero] at h; omega
 ·rw [if_neg h, ordV_neg]; rw [ordV_zero] at h; omega
theorem ltS_no {x y : Sh} : ltS x y = false ↔ y.who < x.who ∨ (x.who = y.who ∧ y.fr ≤ x.fr) := by
 cases h : ltS x y with
 | true => have := ltS_iff.1 h; simp; omega
 | false =>
  have : ¬ (ltS x y = true) := by rw [h]; decide
  rw [ltS_iff] at this
  simp; omega
theorem woS : Wo ltS := ⟨fun a b h => by have := ltS_iff.1 h; exact ltS_no.2 (by omega), fun a b c h1 h2 => by have := ltS_no.1 h1; have := ltS_no.1 h2; exact ltS_no.2 (by omega)⟩
abbrev srtS (l : List Sh) : List Sh := srt ltS l
/-- A shift that is valid. -/
def shOk (x : Sh) : Prop := (0 ≤ x.who ∧ x.who ≤ 5) ∧ 0 ≤ x.fr ∧ x.fr < x.to ∧ x.to ≤ 1000000
instance (x : Sh) : Decidable (shOk x) := by unfold shOk; infer_instance
/-- Shifts of one person at one time. -/
def lap (x y : Sh) : Prop := x.who = y.who ∧ x.fr < y.to ∧ y.fr < x.to
instance (x y : Sh) : Decidable (lap x y) := by unfold lap; infer_instance
theorem lap_symm {x y : Sh} (h : lap x y) : lap y x := ⟨h.1.symm, h.2.2, h.2.1⟩
/-- A roster that is valid, but for its number. -/
def Ros (l : List Sh) : Prop := (∀ x ∈ l, shOk x) ∧ l.Pairwise fun x y => ¬ lap x y
instance (l : List Sh) : Decidable (Ros l) := by unfold Ros; infer_instance
/-- The same, told of the sorted list. -/
def Fit (S : List Sh) : Prop := ∀ i x, S[i]? = some x → shOk x ∧ ∀ p, 0 < i → S[i - 1]? = some p → p.who = x.who → p.to ≤ x.fr
theorem Fit.before {S : List Sh} (hs : Srt ltS S) (h : Fit S) : ∀ {i j : Nat} {x y : Sh}, i < j → S[i]? = some x → S[j]? = some y → x.who = y.who → x.to ≤ y.fr
 | i, 0, x, y, hij, _, _, _ => by omega
 | i, j + 1, x, y, hij, hx, hy, hw => by
  obtain ⟨hj1, rfl⟩ := List.getElem?_eq_some_iff.1 hy
  obtain ⟨hi1, rfl⟩ := List.getElem?_eq_some_iff.1 hx
  have hz : S[j]? = some S[j] := List.getElem?_eq_getElem (by omega)
  have s1 := ltS_no.1 (List.pairwise_iff_getElem.1 hs j (j + 1) (by omega) hj1 (by omega))
  by_cases hji : i = j
  ·subst hji
   exact (h (i + 1) _ hy).2 _ (by omega) hz hw
  ·have s2 := ltS_no.1 (List.pairwise_iff_getElem.1 hs i j hi1 (by omega) (by omega))
   have ih := Fit.before hs h (show i < j by omega) hx hz (by omega)
   have hp := (h (j + 1) _ hy).2 _ (by omega) hz (by omega)
   have ho := (h j _ hz).1
   unfold shOk at ho
   omega
theorem fit_iff {S l : List Sh} (hs : Srt ltS S) (hp : S.Perm l) : Fit S ↔ Ros l := by
 constructor
 ·intro h
  refine ⟨fun x hx => ?_, ?_⟩
  ·obtain ⟨i, hi, rfl⟩ := List.getElem_of_mem (hp.mem_iff.2 hx)
   exact (h i _ (List.getElem?_eq_getElem hi)).1
  ·refine (hp.pairwise_iff (R := fun x y => ¬ lap x y) (fun {x y} h1 h2 => h1 (lap_symm h2))).1 ?_
   refine List.pairwise_iff_getElem.2 fun i j hi hj hij hl => ?_
   have := h.before hs hij (List.getElem?_eq_getElem hi) (List.getElem?_eq_getElem hj) hl.1
   have := hl.2.2
   omega
 ·rintro ⟨h1, h2⟩ i x hx
  have hxl := hp.mem_iff.1 (List.mem_of_getElem? hx)
  refine ⟨h1 x hxl, fun p hi hpx hw => ?_⟩
  have h3 := (hp.pairwise_iff (R := fun x y => ¬ lap x y) (fun {x y} h1 h2 => h1 (lap_symm h2))).2 h2
  obtain ⟨hi1, rfl⟩ := List.getElem?_eq_some_iff.1 hx
  obtain ⟨hi2, rfl⟩ := List.getElem?_eq_some_iff.1 hpx
  have h4 := List.pairwise_iff_getElem.1 h3 (i - 1) i hi2 hi1 (by omega)
  have h5 := ltS_no.1 (List.pairwise_iff_getElem.1 hs (i - 1) i hi2 hi1 (by omega))
  have h6 := (h1 _ hxl)
  unfold shOk at h6
  unfold lap at h4
  omega
theorem fitS_iff (l : List Sh) : Fit (srtS l) ↔ Ros l := fit_iff (srt_srt woS l) (srt_perm l)
/-! Who is tired -/
structure Du where
 most : Int
 rest : Int
 win : Int
 sum : Int
structure Ti where
 kind : Int
 who : Int
 at_ : Int
deriving DecidableEq
def tiCells (x : Ti) : List Value := [.int .i64 x.kind, .int .i64 x.who, .int .i64 x.at_]
/-- The minutes of a shift between two times. -/
def minS (who fr to : Int) (y : Sh) : Int := if y.who = who then max (min y.to to - max y.fr fr) 0 else 0
def workV (l : List Sh) (who fr to : Int) : Int := (l.map (minS who fr to)).sum
/-- As the program has it. -/
def minT (x : Sh) (w : Int) (y : Sh) : Int := if y.who = x.who then max 0 (min y.to (x.fr + w) - y.fr) else 0
def workT (S : List Sh) (i : Nat) (x : Sh) (w : Int) : Int := ((S.drop i).map (minT x w)).sum
theorem sum_zero {α : Type} {f : α → Int} : ∀ {l : List α}, (∀ x ∈ l, f x = 0) → (l.map f).sum = 0
 | [], _ => rfl
 | a :: l, h => by
  rw [List.map_cons, List.sum_cons, h a List.mem_cons_self, sum_zero fun x hx => h x (List.mem_cons_of_mem _ hx)]; rfl
theorem sum_congr {α : Type} {f g : α → Int} : ∀ {l : List α}, (∀ x ∈ l, f x = g x) → (l.map f).sum = (l.map g).sum
 | [], _ => rfl
 | a :: l, h => by
  rw [List.map_cons, List.sum_cons, List.map_cons, List.sum_cons, h a List.mem_cons_self, sum_congr fun x hx => h x (List.mem_cons_of_mem _ hx)]
theorem work_eq {S : List Sh} (hs : Srt ltS S) (hf : Fit S) {i : Nat} {x : Sh} (hx : S[i]? = some x) {w : Int} (hw : 0 ≤ w) : workT S i x w = workV S x.who x.fr (x.fr + w) := by
 obtain ⟨hi, he⟩ := List.getElem?_eq_some_iff.1 hx
 have e1 : workV S x.who x.fr (x.fr + w) = ((S.take i).map (minS x.who x.fr (x.fr + w))).sum + ((S.drop i).map (minS x.who x.fr (x.fr + w))).sum := by
  unfold workV
  rw [← List.sum_append, ← List.map_append, List.take_append_drop]
 have e2 : ((S.take i).map (minS x.who x.fr (x.fr + w))).sum = 0 := sum_zero fun y hy => by
  obtain ⟨j, hj, rfl⟩ := List.getElem_of_mem hy
  rw [List.getElem_take]
  simp only [List.length_take] at hj
  unfold minS
  by_cases hwh : S[j].who = x.who
  ·rw [if_pos hwh]
   have := hf.before hs (show j < i by omega) (List.getElem?_eq_getElem (by omega)) hx hwh
   omega
  ·rw [if_neg hwh]
 have e3 : workT S i x w = ((S.drop i).map (minS x.who x.fr (x.fr + w))).sum := sum_congr fun y hy => by
  obtain ⟨j, hj, rfl⟩ := List.getElem_of_mem hy
  rw [List.getElem_drop]
  simp only [List.length_drop] at hj
  unfold minT minS
  by_cases hwh : S[i + j].who = x.who
  ·rw [if_pos hwh, if_pos hwh]
   have : x.fr ≤ S[i + j].fr := by
    by_cases h0 : j = 0
    ·subst h0; rw [← he]; exact Int.le_refl _
    ·have := ltS_no.1 (List.pairwise_iff_getElem.1 hs i (i + j) hi (by omega) (by omega)); rw [he] at this; omega
   omega
  ·rw [if_neg hwh, if_neg hwh]
 rw [e1, e2, e3, Int.zero_add]
/-- The cases of one shift. -/
def restB (d : Du) (S : List Sh) (i : Nat) (x : Sh) : Bool := decide (0 < i) && match S[i - 1]? with | some p => decide (p.who = x.who) && decide (x.fr - p.to < d.rest) | none => false
def casV (d : Du) (S : List Sh) (i : Nat) (x : Sh) : List Ti :=
 (if x.to - x.fr > d.most then [⟨1, x.who, x.fr⟩] else []) ++ ((if restB d S i x = true then [⟨2, x.who, x.fr⟩] else []) ++ (if workV S x.who x.fr (x.fr + d.win) > d.sum then [⟨3, x.who, x.fr⟩] else []))
def casAt (d : Du) (S : List Sh) (i : Nat) : List Ti := match S[i]? with | some x => casV d S i x | none => []
def tiTo (d : Du) (S : List Sh) : Nat → List Ti
 | 0 => []
 | k + 1 => tiTo d S k ++ casAt d S k
def tiV (d : Du) (l : List Sh) : List Ti := tiTo d (srtS l) l.length
theorem tiTo_succ {d : Du} {S : List Sh} {k : Nat} {x : Sh} (h : S[k]? = some x) : tiTo d S (k + 1) = tiTo d S k ++ casV d S k x := by
 show tiTo d S k ++ casAt d S k = _
 unfold casAt; rw [h]
/-- Are the limits valid? -/
def duB (d : Du) : Prop := (1 ≤ d.most ∧ d.most ≤ 100000) ∧ (0 ≤ d.rest ∧ d.rest ≤ 100000) ∧ (1 ≤ d.win ∧ d.win ≤ 100000) ∧ 0 ≤ d.sum ∧ d.sum ≤ d.win
instance (d : Du) : Decidable (duB d) := by unfold duB; infer_instance
def duE (d : Du) : Int := if duB d then 0 else 80
def rosE (l : List Sh) : Int := if 40 < l.length then 4 else if Ros l then 0 else 81
def tiE (d : Du) (l : List Sh) : Int := if duE d = 0 then rosE l else duE d
structure Deal where
 kind : Int
 n : Int
 seats : Int
 price : Int
 leaves : Int
def dealCells (d : Deal) : List Value := [.int .u8 d.kind, .int .i64 d.n, .int .i64 d.seats, .int .i64 d.price, .int .i64 d.leaves]
/-- The first bookings of a departure that wait get a seat, as many as are free. -/
def giveL (f : Int) : Int → List Bk → List Bk
 | _, [] => []
 | free, x :: l => if isB f 2 x = true ∧ 0 < free then ⟨x.flight, 1, x.kept⟩ :: giveL f (free - 1) l else x :: giveL f free l
def freeV (o : Off) (i : Nat) : Int := match o.fl[i]? with | some d => d.seats - manyV o.bk i 1 | none => 0
def givenV (o : Off) (i : Nat) : Off := { o with bk := giveL i (freeV o i) o.bk }
/-- A departure is closed: those who have a seat get a state, or are paid back; those who wait are paid back. -/
def shutB (f to : Int) (x : Bk) : Bk := if isB f 1 x then ⟨x.flight, to, x.kept⟩ else if isB f 2 x then ⟨x.flight, 4, x.kept⟩ else x
def backB (f to : Int) (x : Bk) : Bool := (isB f 1 x && decide (to = 4)) || isB f 2 x
def paidV (bk : List Bk) (f to : Int) (price : Int) : Int := ((bk.filter (backB f to)).length : Nat) * price
def closedV (o : Off) (i : Nat) (d : Dep) (st to : Int) : Off :=
 { o with fl := o.fl.set i ⟨d.seats, d.price, d.leaves, st⟩, bk := o.bk.map (shutB i to), out := o.out + paidV o.bk i to d.price }
/-- Why a departure cannot be taken; 0: it is open. -/
def openE (o : Off) (n : Int) : Int := if 0 ≤ n ∧ n < (o.fl.length : Int) then (match o.fl[n.toNat]? with | some d => if d.state = 0 then 0 else 85 | none => 2) else 2
def keptV (o : Off) (d : Dep) (x : Bk) : Int := if x.state = 1 ∧ d.leaves - o.now < o.notice then feeV d.price o.fee else 0
def depAt (o : Off) (n : Int) : Dep := match o.fl[n.toNat]? with | some d => d | none => ⟨0, 0, 0, 0⟩
def bkAt (o : Off) (n : Int) : Bk := match o.bk[n.toNat]? with | some d => d | none => ⟨0, 0, 0⟩
def addV (o : Off) (d : Deal) : Off := { o with fl := o.fl ++ [⟨d.seats, d.price, d.leaves, 0⟩] }
def sellV (o : Off) (n : Int) : Off := givenV { o with bk := o.bk ++ [⟨n, 2, 0⟩], inn := o.inn + (depAt o n).price } n.toNat
def paidB (o : Off) (n : Int) : Off :=
 let x := bkAt o n
 let d := depAt o x.flight
 { o with bk := o.bk.set n.toNat ⟨x.flight, 4, keptV o d x⟩, out := o.out + (d.price - keptV o d x) }
def cancelV (o : Off) (n : Int) : Off := givenV (paidB o n) (bkAt o n).flight.toNat
def seatsV (o : Off) (d : Deal) : Off :=
 let x := depAt o d.n
 givenV { o with fl := o.fl.set d.n.toNat ⟨d.seats, x.price, x.leaves, x.state⟩ } d.n.toNat
/-- Why a deal is refused; 0: it is not. -/
def doneE (o : Off) (d : Deal) : Int :=
 if d.kind = 1 then (if depOk ⟨d.seats, d.price, d.leaves, 0⟩ = true ∧ o.now ≤ d.leaves then (if o.fl.length < 10 then 0 else 9) else 2)
 else if d.kind = 2 then (if openE o d.n = 0 then (if o.bk.length < 120 then 0 else 9) else openE o d.n)
 else if d.kind = 3 then (if 0 ≤ d.n ∧ d.n < (o.bk.length : Int) then (if (bkAt o d.n).state = 1 ∨ (bkAt o d.n).state = 2 then 0 else 85) else 2)
 else if d.kind = 4 then (if openE o d.n = 0 then (if (depAt o d.n).leaves ≤ o.now then 0 else 86) else openE o d.n)
 else if d.kind = 5 then openE o d.n
 else if d.kind = 6 then (if 1 ≤ d.n ∧ d.n ≤ 1000000 ∧ o.now + d.n ≤ 1000000 then 0 else 2)
 else if d.kind = 7 then (if openE o d.n = 0 then (if 0 ≤ d.seats ∧ d.seats ≤ 50 then (if manyV o.bk d.n 1 ≤ d.seats then 0 else 9) else 2) else openE o d.n)
 else 2
/-- The office after a deal that is not refused. -/
def doneO (o : Off) (d : Deal) : Off :=
 if d.kind = 1 then addV o d
 else if d.kind = 2 then sellV o d.n
 else if d.kind = 3 then cancelV o d.n
 else if d.kind = 4 then closedV o d.n.toNat (depAt o d.n) 1 3
 else if d.kind = 5 then closedV o d.n.toNat (depAt o d.n) 2 4
 else if d.kind = 6 then { o with now := o.now + d.n }
 else seatsV o d
end Go.Proofs.Ytmlmgipngbndgaa
namespace Go.Proofs.Ytmlmgipngbndgaa
open Go.RowKit
theorem flat_len {α : Type} {f : α → List Value} {s : Nat} (hf : ∀ x, (f x).length = s) : ∀ (l : List α), ((l.map f).flatten).length = l.length * s
 | [] => by simp
 | x :: l => by
  simp only [List.map_cons, List.flatten_cons, List.length_append, hf, flat_len hf l, List.length_cons, Nat.add_mul]
  omega
theorem flat_set {α : Type} {f : α → List Value} {s : Nat} (hf : ∀ x, (f x).length = s) : ∀ {l : List α} {i : Nat} {x y : α}, l[i]? = some x → ∀ {k : Nat} {v : Value}, k < s → f y = (f x).set k v → ((l.map f).flatten).set (i * s + k) v = ((l.set i y).map f).flatten
 | [], i, x, y, h, k, v, hk, hy => by simp at h
 | a :: l, 0, x, y, h, k, v, hk, hy => by
  obtain rfl : a = x := by simpa using h
  simp only [List.map_cons, List.flatten_cons, List.set_cons_zero, Nat.zero_mul, Nat.zero_add]
  rw [List.set_append_left _ _ (by rw [hf]; exact hk), hy]
 | a :: l, i + 1, x, y, h, k, v, hk, hy => by
  have h' : l[i]? = some x := by simpa using h
  simp only [List.map_cons, List.flatten_cons, List.set_cons_succ]
  rw [List.set_append_right _ _ (by rw [hf, Nat.add_mul]; omega), hf, show (i + 1) * s + k - s = i * s + k by rw [Nat.add_mul]; omega, flat_set hf h' hk hy]
theorem bk_set1 {l : List Bk} {i : Nat} {x : Bk} (h : l[i]? = some x) (s : Int) : ((l.map bkCells).flatten).set (0 + i * 3 + 1) (.int .u8 s) = ((l.set i ⟨x.flight, s, x.kept⟩).map bkCells).flatten := by
 rw [Nat.zero_add]; exact flat_set (s := 3) (k := 1) (fun _ => rfl) h (by omega) rfl
theorem bk_set2 {l : List Bk} {i : Nat} {x : Bk} (h : l[i]? = some x) (s : Int) : ((l.map bkCells).flatten).set (0 + i * 3 + 2) (.int .i64 s) = ((l.set i ⟨x.flight, x.state, s⟩).map bkCells).flatten := by
 rw [Nat.zero_add]; exact flat_set (s := 3) (k := 2) (fun _ => rfl) h (by omega) rfl
theorem dep_set0 {l : List Dep} {i : Nat} {x : Dep} (h : l[i]? = some x) (s : Int) : ((l.map depCells).flatten).set (0 + i * 4) (.int .i64 s) = ((l.set i ⟨s, x.price, x.leaves, x.state⟩).map depCells).flatten := by
 rw [Nat.zero_add]; exact flat_set (s := 4) (k := 0) (fun _ => rfl) h (by omega) rfl
theorem dep_set3 {l : List Dep} {i : Nat} {x : Dep} (h : l[i]? = some x) (s : Int) : ((l.map depCells).flatten).set (0 + i * 4 + 3) (.int .u8 s) = ((l.set i ⟨x.seats, x.price, x.leaves, s⟩).map depCells).flatten := by
 rw [Nat.zero_add]; exact flat_set (s := 4) (k := 3) (fun _ => rfl) h (by omega) rfl
theorem bk_room {l : List Bk} {i : Nat} {x : Bk} (h : l[i]? = some x) : 0 + i * 3 + 2 + 1 ≤ ((l.map bkCells).flatten).length := by
 rw [flat_len (s := 3) (fun _ => rfl)]
 have := (List.getElem?_eq_some_iff.1 h).1
 omega
theorem dep_room {l : List Dep} {i : Nat} {x : Dep} (h : l[i]? = some x) : 0 + i * 4 + 3 + 1 ≤ ((l.map depCells).flatten).length := by
 rw [flat_len (s := 4) (fun _ => rfl)]
 have := (List.getElem?_eq_some_iff.1 h).1
 omega
section
variable {c : Cx} {F : Fr} {H H' : Hp} {K : Value → Hp → Prop} {d : Option Tmp} {ty t : TypeId} {pos : String} {af : Array Edge} {g : Option (Nat × Bool)} {x y : Operand} {v : Value} {a0 : Bool} {z0 : List Value} {k0 : TyK} {b o : Nat} {C C' : List Value} {tg : Tg}
theorem os_storeB (ht : tyAt c.tys t = some ⟨a0, 1, z0, k0⟩) (hx : ev F x = some (.pointer (some ⟨b, o, none⟩))) (hy : ev F y = some v) (hv : v.oneCell' = true)
  (hp : Pick H b C tg H') (hC : C.set o v = C') (ho : o + 1 ≤ C.length) (k : K undef ((b, C', tg) :: H')) : OS c ⟨d, .store t x y, ty, pos, af, g⟩ F H K :=
 os_store ht hx hy hv hp ho (hC ▸ Norm.self _) k
end
/-- The cells of a desk. -/
theorem desk_out (o : Off) (A : Option Addr) (cf : Nat) (B : Option Addr) (cb : Nat) (z : Int) : (offCells o A cf B cb).set 6 (.int .i64 z) = offCells { o with out := z } A cf B cb := rfl
theorem desk_now (o : Off) (A : Option Addr) (cf : Nat) (B : Option Addr) (cb : Nat) (z : Int) : (offCells o A cf B cb).set 0 (.int .i64 z) = offCells { o with now := z } A cf B cb := rfl
abbrev shB (l : List Sh) : List Value := (l.map shCells).flatten
theorem sh_flat_len (l : List Sh) : (shB l).length = l.length * 3 := flat_len (s := 3) (fun _ => rfl) l
theorem sh_at {l : List Sh} {i : Nat} {x : Sh} (h : l[i]? = some x) : (shB l)[0 + i * 3]? = some (.int .i64 x.who) ∧ (shB l)[0 + i * 3 + 1]? = some (.int .i64 x.fr) ∧ (shB l)[0 + i * 3 + 1 + 1]? = some (.int .i64 x.to) := by
 rw [Nat.zero_add]
 exact ⟨flat_at (f := shCells) (s := 3) (fun _ => rfl) h (j := 0) rfl, flat_at (f := shCells) (s := 3) (fun _ => rfl) h (j := 1) rfl, flat_at (f := shCells) (s := 3) (fun _ => rfl) h (j := 2) rfl⟩
theorem sh_set {l : List Sh} {i : Nat} {x y : Sh} (h : l[i]? = some x) : setL (shB l) (0 + i * 3) [.int .i64 y.who, .int .i64 y.fr, .int .i64 y.to] = shB (l.set i y) := by
 simp only [setL, Nat.zero_add]
 have e1 := flat_set (f := shCells) (s := 3) (fun _ => rfl) (l := l) (i := i) (x := x) (y := ⟨y.who, x.fr, x.to⟩) h (k := 0) (v := .int .i64 y.who) (by omega) rfl
 have h2 : (l.set i ⟨y.who, x.fr, x.to⟩)[i]? = some ⟨y.who, x.fr, x.to⟩ := by
  rw [List.getElem?_set, if_pos rfl, if_pos (List.getElem?_eq_some_iff.1 h).1]
 have e2 := flat_set (f := shCells) (s := 3) (fun _ => rfl) (l := l.set i ⟨y.who, x.fr, x.to⟩) (i := i) (y := ⟨y.who, y.fr, x.to⟩) h2 (k := 1) (v := .int .i64 y.fr) (by omega) rfl
 have h3 : (l.set i ⟨y.who, y.fr, x.to⟩)[i]? = some ⟨y.who, y.fr, x.to⟩ := by
  rw [List.getElem?_set, if_pos rfl, if_pos (List.getElem?_eq_some_iff.1 h).1]
 have e3 := flat_set (f := shCells) (s := 3) (fun _ => rfl) (l := l.set i ⟨y.who, y.fr, x.to⟩) (i := i) (y := y) h3 (k := 2) (v := .int .i64 y.to) (by omega) rfl
 simp only [List.set_set, Nat.add_zero] at e1 e2 e3
 rw [Nat.add_assoc]
 rw [e1, e2, e3]
section
variable {c : Cx} {F : Fr} {H H' : Hp} {K : Value → Hp → Prop} {d : Option Tmp} {ty t : TypeId} {pos : String} {af : Array Edge} {gd : Option (Nat × Bool)} {x y : Operand} {a0 : Bool} {z0 : List Value} {k0 : TyK} {g i : Nat} {tg : Tg} {l l' : List Sh} {z : Sh}
theorem os_storeSh (u : Sh) (hz : l[i]? = some z) (hl : l.set i u = l') (ht : tyAt c.tys t = some ⟨a0, 3, z0, k0⟩) (hx : ev F x = some (.pointer (some ⟨g, 0 + i * 3, none⟩))) (hy : ev F y = some (.agg #[.int .i64 u.who, .int .i64 u.fr, .int .i64 u.to])) (hp : Pick H g (shB l) tg H')
  (kk : K undef ((g, shB l', tg) :: H')) : OS c ⟨d, .store t x y, ty, pos, af, gd⟩ F H K :=
 store_gen (vs := [.int .i64 u.who, .int .i64 u.fr, .int .i64 u.to]) ht hx hy rfl rfl (by simp [Value.oneCell']) hp (by rw [sh_flat_len]; have := (List.getElem?_eq_some_iff.1 hz).1; omega) (by rw [sh_set hz, hl]; exact kk)
end
theorem SAnyI_lexE {P : Program} {ops : Array Oper} {cov : Array Bool} {Q : Act → World → Prop} {I : World → Prop} (hU : Up I) (hs : Region.noSelect ops = true) (n : Nat) : ∀ (l : List Nat) (listed : Array Bool) (a : Act) (w0 : World), I w0 → lexOk ops cov l listed = true → Down ops listed →
  wpGI P ops I (fun a' => ∀ w, Ext w0 w → SAnyI P ops cov I Q n (listedBy l listed) a' w) l a → ∀ w, Ext w0 w → SAnyI P ops cov I Q (n + l.length) listed a w
 | [], _, _, _, _, _, _, h => h
 | i :: l, listed, a, w0, hw0, hB, hd, h => by
  simp only [lexOk, Bool.and_eq_true] at hB
  obtain ⟨⟨⟨hr, hf⟩, hc⟩, hB'⟩ := hB
  have hr' : i ∈ Region.ready .any ops listed := by simpa using hr
  unfold wpGI at h
  cases ho : ops[i]? with
  | none => simp only [ho] at h
  | some o =>
   simp only [ho] at h
   by_cases hw : Region.wanted o (yielded ops a.tmps) = true
   ·simp only [hw, if_true] at h
    obtain ⟨v, hv, hK⟩ := h
    exact SAnyI_first hU ho (Region.noSelect_spec hs) hc (n + l.length) listed a w0 hw0 hd (Region.free_spec ho hf) hr' (.inl ⟨hw, hv⟩) (SAnyI_lexE hU hs n l _ _ w0 hw0 hB' (hd.set hr') hK)
   ·simp only [hw] at h
    exact SAnyI_first hU ho (Region.noSelect_spec hs) hc (n + l.length) listed a w0 hw0 hd (Region.free_spec ho hf) hr' (.inr ⟨by simpa using hw, rfl⟩) (SAnyI_lexE hU hs n l _ _ w0 hw0 hB' (hd.set hr') h)
theorem t_mixZ {c : Cx} {Q : QS} {F : Fr} {H : Hp} {id : Nat} {l ql : List Oper} (q : List Nat) (n : Nat) (hm : c.P.follows .mixedOrders = true) (hB : (Region.noSelect ⟨l⟩ && (n + q.length == (Array.mk l).size) && lexOk ⟨l⟩ #[] q (Array.replicate (Array.mk l).size false)) = true) (hq : pickOps l q = some ql)
  (h : GX c ⟨l⟩ ql (fun F' => AL c ⟨l⟩ #[] [] n (listedBy q (Array.replicate (Array.mk l).size false)) (fun F H => Q .normal F H) F' H) F []) : T c (WS.own c.P) (.region id ⟨l⟩ true) Q F H := fun D a w ha hw => by
 show (Code.region id ⟨l⟩ true).wp c.P (cv c Q) a w
 simp only [Bool.and_eq_true, beq_iff_eq] at hB
 obtain ⟨⟨hs, hn⟩, hl⟩ := hB
 have hI : Has c.w0 ⟨c.M, D⟩ [] w := hw.sub HpSub.nil
 refine wp_region_any hm (wpAny_of_SAnyI (Q := fun a w => ∃ D F H, Q .normal F H ∧ Frm D c.N F a ∧ Has c.w0 ⟨c.M, D⟩ H w) (I := Has c.w0 ⟨c.M, D⟩ []) (cov := #[]) (fun _ _ h => h) _ _ _ _ ?_)
 rw [← hn]
 have key := SAnyI_lexE (P := c.P) (cov := #[]) (Q := fun a w => ∃ D F H, Q .normal F H ∧ Frm D c.N F a ∧ Has c.w0 ⟨c.M, D⟩ H w) (Has.up (M := ⟨c.M, D⟩)) hs n q (Array.replicate (Array.mk l).size false) a w hI hl (Down.none _)
  (wpGI_mono (fun a' ⟨F', h1, h2⟩ w' hw' => h1 D a' w' h2 (hw.grow hw')) q a (h q (pickOps_spec hq) D a ha)) w.drew (Ext.refl w).drew
 exact hn.symm ▸ key
end Go.Proofs.Ytmlmgipngbndgaa
namespace Go.Proofs.Ytmlmgipngbndgaa
open Go.RowKit
attribute [local irreducible] OQ OS OX Rd T TL GX GL AL AI RV wpG SAny Calls
theorem swapR_W (g cp n a b k : Nat) (P X M Y Q : List Sh) (w : World) (hB : Blk w g (shB (P ++ (X ++ (M ++ (Y ++ Q))))) (some (101, 3, cp))) (hX : X.length = k) (hY : Y.length = k) (ha : P.length = a) (hb : P.length + k + M.length = b) (hn : (P ++ (X ++ (M ++ (Y ++ Q)))).length = n) (hn1 : n ≤ 1000000) :
  Calls Try.prog 141 #[.slice (some ⟨g, 0, none⟩) n cp, .int .i64 (a : Nat), .int .i64 (b : Nat), .int .i64 (k : Nat), .func (.func 111) #[] #[]] w fun e w' => e = .returned (.tuple #[]) ∧ ExtM [g] w w' ∧ Blk w' g (shB (P ++ (Y ++ (M ++ (X ++ Q))))) (some (101, 3, cp)) := by
 simp only [List.length_append, hX, hY] at hn
 rw [← swr_zero] at hB
 rw [← swr_all (P := P) (M := M) (Q := Q) hX hY]
 have HS := fun i (h : i < k) => swr_step (P := P) (M := M) (Q := Q) hX hY h
 rw [hb] at HS
 rw [ha] at HS
 generalize swr P X M Y Q = S at HS hB ⊢
 refine enterW (c := cxM [g] w 38) Try.func141 rfl rfl rfl rfl hB ?_
 repeat' (first | (apply oq_fn; exact rfl; try first | exact trivial | (and_intros <;> omega)) | (with_reducible apply tl_nil) | ((with_reducible apply u_q); (iterate 4 exact rfl)) | (with_reducible apply t_seq) | (apply t_region; kernel_rfl) | (with_reducible apply t_block) | with_reducible apply q_thenN)
 apply t_loopK (ι := Nat) [0, 1, 2, 3] (fun i => [(10, .int .i64 (i : Nat))]) (fun i => [(g, shB (S i), some (101, 3, cp))]) (fun i => i ≤ k) (fun i => k - i) (0)
 (repeat (first | exact KeepF.nil | (apply KeepF.cons; exact rfl) | apply KeepF.skip))
 (repeat (first | exact FrSub.nil | (apply FrSub.cons; exact rfl)))
 (repeat (first | exact HpSub.refl _ | (apply HpSub.consE; (repeat (first | exact P0 | apply P1)); exact rfl) | exact HpSub.nil))
 ·exact Nat.zero_le _
 rintro i hi
 try simp only [List.cons_append, List.nil_append]
 by_cases hlt : i < k
 ·obtain ⟨x, y, hx, hy, hs⟩ := HS i hlt
  have hy2 : ((S i).set (a + i) y)[b + i]? = some y := by rw [List.getElem?_set_ne (by omega)]; exact hy
  obtain ⟨q0, q1, q2⟩ := sh_at hx
  obtain ⟨r0, r1, r2⟩ := sh_at hy
  repeat' (first | ((with_reducible apply oq_addE (k := ((a + i : Nat) : Int))); exact rfl; exact rfl; omega) | ((with_reducible apply oq_addE (k := ((b + i : Nat) : Int))); exact rfl; exact rfl; omega) | (focus ((with_reducible apply oq_indexAddrN); (iterate 4 exact rfl); omega)) | ((with_reducible apply oq_lssT); exact rfl; exact rfl; omega) | (apply oq_fn; exact rfl; try first | exact trivial | (and_intros <;> omega)) | ((with_reducible apply oq_loadAgg); exact rfl; exact rfl) | (with_reducible apply tl_nil) | ((with_reducible apply u_q); (iterate 4 exact rfl)) | (with_reducible apply v_nil) | ((with_reducible apply v_q); (iterate 3 exact rfl)) | ((with_reducible apply (os_storeSh y hx rfl)); (iterate 3 exact rfl); (repeat (first | exact P0 | apply P1))) | ((with_reducible apply (os_storeSh x hy2 hs)); (iterate 3 exact rfl); (repeat (first | exact P0 | apply P1))) | ((with_reducible apply ai_q); (iterate 5 exact rfl)) | ((with_reducible apply ai_n0); (iterate 3 exact rfl)) | ((with_reducible apply al_keep); focus (repeat (first | exact HpSub.refl _ | (apply HpSub.cons; (repeat (first | exact P0 | apply P1))) | apply HpSub.skipX | exact HpSub.nil))) | (apply Rd.own; (repeat (first | exact P0 | apply P1)); with_reducible (first | exact q0 | exact q1 | exact q2 | exact r0 | exact r1 | exact r2); done) | (apply t_mixZ (id := 3) [0, 1, 2, 3, 4, 5, 6, 7, 8, 9, 10, 11, 12, 14, 15, 16, 17, 18] 6; kernel_rfl; kernel_rfl; exact rfl) | (with_reducible apply t_seq) | (apply t_region; kernel_rfl) | ((with_reducible apply t_condT); exact rfl) | (with_reducible apply t_skip) | (with_reducible apply t_block) | with_reducible apply q_thenN | with_reducible apply q_blockN | exact Rdn.zero | apply Rdn.succ | (apply al_done; decide +kernel) | (apply al_one 13; decide +kernel) | (apply al_one 19; decide +kernel) | (apply al_one 20; decide +kernel) | (apply al_one 21; decide +kernel) | (apply al_one 22; decide +kernel) | (apply al_one 23; decide +kernel) | (apply al_two 13 19; decide +kernel))
  all_goals (refine ⟨(i + 1), (by omega), (by omega), ?_, ?_⟩ <;> (try simp only [List.cons_append, List.nil_append]) <;> (repeat' (first | exact FrSub.nil | (apply FrSub.cons; exact rfl) | exact HpSub.refl _)))
 ·obtain rfl : i = k := by omega
  repeat' (first | ((with_reducible apply oq_lssF); exact rfl; exact rfl; omega) | (apply oq_fn; exact rfl; try first | exact trivial | (and_intros <;> omega)) | (with_reducible apply tl_nil) | ((with_reducible apply u_q); (iterate 4 exact rfl)) | (with_reducible apply t_seq) | (apply t_region; kernel_rfl) | ((with_reducible apply t_condF); exact rfl) | (with_reducible apply t_exit) | with_reducible apply q_thenN | with_reducible apply q_thenE | ((with_reducible apply q_blockE); exact rfl) | (with_reducible apply end_normal) | exact rvs_nil)
  all_goals exact ⟨rfl, by (repeat (first | exact HpSub.refl _ | (apply HpSub.consE; (repeat (first | exact P0 | apply P1)); exact rfl) | exact HpSub.nil))⟩
theorem Has.blkP {w0 : World} {M : Ms} {H H' : Hp} {w : World} {b : Nat} {C : List Value} {tg : Tg} (h : Has w0 M H w) (p : Pick H b C tg H') : Blk w b C tg := (h.blk _ p.mem).2
theorem rot_W (g cp n a m b : Nat) (P X Y Q : List Sh) (w : World) (hB : Blk w g (shB (P ++ (X ++ (Y ++ Q)))) (some (101, 3, cp))) (hX : 0 < X.length) (hY : 0 < Y.length) (ha : P.length = a) (hm : a + X.length = m) (hb : m + Y.length = b) (hn : (P ++ (X ++ (Y ++ Q))).length = n) (hn1 : n ≤ 1000000) :
  Calls Try.prog 140 #[.slice (some ⟨g, 0, none⟩) n cp, .int .i64 (a : Nat), .int .i64 (m : Nat), .int .i64 (b : Nat), .func (.func 111) #[] #[]] w fun e w' => e = .returned (.tuple #[]) ∧ ExtM [g] w w' ∧ Blk w' g (shB (P ++ (Y ++ (X ++ Q)))) (some (101, 3, cp)) := by
 have hn0 := hn
 simp only [List.length_append] at hn
 refine enterW (c := cxM [g] w 58) Try.func140 rfl rfl rfl rfl hB ?_
 repeat' (first | ((with_reducible apply oq_subE (k := ((X.length : Nat) : Int))); exact rfl; exact rfl; omega) | ((with_reducible apply oq_subE (k := ((Y.length : Nat) : Int))); exact rfl; exact rfl; omega) | (apply oq_fn; exact rfl; try first | exact trivial | (and_intros <;> omega)) | (with_reducible apply tl_nil) | ((with_reducible apply u_q); (iterate 4 exact rfl)) | (with_reducible apply t_seq) | (apply t_region; kernel_rfl) | (with_reducible apply t_block) | with_reducible apply q_thenN)
 apply t_loopK (ι := Nat × Nat × List Sh × List Sh × List Sh × List Sh) [0, 2, 4, 50, 51, 52, 53, 54, 55, 56] (fun z => [(10, .int .i64 (z.1 : Nat)), (11, .int .i64 (z.2.1 : Nat))]) (fun z => [(g, shB (z.2.2.1 ++ (z.2.2.2.1 ++ (z.2.2.2.2.1 ++ z.2.2.2.2.2))), some (101, 3, cp))]) (fun z => z.2.2.2.1.length = z.1 ∧ z.2.2.2.2.1.length = z.2.1 ∧ 0 < z.1 ∧ 0 < z.2.1 ∧ z.2.2.1.length + z.1 = m ∧ m + z.2.1 ≤ n ∧ (z.2.2.1 ++ (z.2.2.2.1 ++ (z.2.2.2.2.1 ++ z.2.2.2.2.2))).length = n ∧ z.2.2.1 ++ (z.2.2.2.2.1 ++ (z.2.2.2.1 ++ z.2.2.2.2.2)) = P ++ (Y ++ (X ++ Q))) (fun z => z.1 + z.2.1) ((X.length, Y.length, P, X, Y, Q))
 (repeat (first | exact KeepF.nil | (apply KeepF.cons; exact rfl) | apply KeepF.skip))
 (repeat (first | exact FrSub.nil | (apply FrSub.cons; exact rfl)))
 (repeat (first | exact HpSub.refl _ | (apply HpSub.consE; (repeat (first | exact P0 | apply P1)); exact rfl) | exact HpSub.nil))
 ·exact ⟨rfl, rfl, hX, hY, (by simp only; omega), (by simp only; omega), hn0, rfl⟩
 rintro ⟨i, j, P1, X1, Y1, Q1⟩ ⟨h1, h2, h3, h4, h5, h6, h7, h8⟩
 simp only at h1 h2 h3 h4 h5 h6 h7 h8
 dsimp only
 try simp only [List.cons_append, List.nil_append]
 have h7' := h7
 simp only [List.length_append] at h7'
 rcases Nat.lt_trichotomy i j with hij | hij | hij
 ·obtain ⟨A, B, rfl, hB2⟩ : ∃ A B, Y1 = A ++ B ∧ B.length = i := ⟨Y1.take (j - i), Y1.drop (j - i), (List.take_append_drop _ _).symm, by simp; omega⟩
  simp only [List.length_append] at h2
  rw [List.append_assoc A B Q1] at h7 ⊢
  repeat' (first | ((with_reducible apply oq_subE (k := ((m - i : Nat) : Int))); exact rfl; exact rfl; omega) | ((with_reducible apply oq_addE (k := ((m + j : Nat) : Int))); exact rfl; exact rfl; omega) | ((with_reducible apply oq_subE (k := ((m + j - i : Nat) : Int))); exact rfl; exact rfl; omega) | ((with_reducible apply oq_subE (k := ((j - i : Nat) : Int))); exact rfl; exact rfl; omega) | ((with_reducible apply oq_neqT); exact rfl; exact rfl; omega) | ((with_reducible apply oq_gtrF); exact rfl; exact rfl; omega) | (apply oq_fn; exact rfl; try first | exact trivial | (and_intros <;> omega)) | (with_reducible apply tl_nil) | ((with_reducible apply u_s); (iterate 3 exact rfl); (with_reducible apply os_callW (b := g) (k := 141) (hc := Try.call141)); exact rfl; exact rfl; (repeat (first | exact P0 | apply P1)); exact fun D w1 hw1 => swapR_W g cp n (m - i) (m + j - i) i P1 X1 A B Q1 w1 (hw1.blkP (by (repeat (first | exact P0 | apply P1)))) h1 hB2 (by omega) (by omega) h7 hn1) | ((with_reducible apply u_q); (iterate 4 exact rfl)) | (with_reducible apply t_seq) | (apply t_region; kernel_rfl) | ((with_reducible apply t_condT); exact rfl) | ((with_reducible apply t_condF); exact rfl) | (with_reducible apply t_skip) | (with_reducible apply t_block) | with_reducible apply q_thenN | with_reducible apply q_blockN)
  all_goals (refine ⟨(i, j - i, P1, B, A, X1 ++ Q1), ⟨hB2, (by simp only; omega), h3, (by simp only; omega), h5, (by simp only; omega), (by simp only [List.length_append] at h7 ⊢; omega), ?_⟩, (by simp only; omega), ?_, ?_⟩)
  all_goals first
   | (rw [← h8]; simp only [List.append_assoc]; done)
   | ((try simp only [List.cons_append, List.nil_append]); (repeat (first | exact FrSub.nil | (apply FrSub.cons; exact rfl))); done)
   | ((try simp only [List.cons_append, List.nil_append]); (repeat (first | exact HpSub.refl _ | (apply HpSub.consE; (repeat (first | exact P0 | apply P1)); exact rfl) | exact HpSub.nil)); done)
 ·subst hij
  repeat' (first | ((with_reducible apply oq_subE (k := ((m - i : Nat) : Int))); exact rfl; exact rfl; omega) | ((with_reducible apply oq_neqF); exact rfl; exact rfl; omega) | (apply oq_fn; exact rfl; try first | exact trivial | (and_intros <;> omega)) | (with_reducible apply tl_nil) | ((with_reducible apply u_s); (iterate 3 exact rfl); (with_reducible apply os_callW (b := g) (k := 141) (hc := Try.call141)); exact rfl; exact rfl; (repeat (first | exact P0 | apply P1)); exact fun D w1 hw1 => swapR_W g cp n (m - i) m i P1 X1 [] Y1 Q1 w1 (hw1.blkP (by (repeat (first | exact P0 | apply P1)))) h1 h2 (by omega) (by simp only [List.length_nil]; omega) h7 hn1) | ((with_reducible apply u_q); (iterate 4 exact rfl)) | (with_reducible apply t_seq) | (apply t_region; kernel_rfl) | ((with_reducible apply t_condF); exact rfl) | (with_reducible apply t_exit) | with_reducible apply q_thenN | with_reducible apply q_thenE | ((with_reducible apply q_blockE); exact rfl) | (with_reducible apply end_normal) | exact rvs_nil)
  all_goals (refine ⟨rfl, ?_⟩; rw [← h8]; exact HpSub.refl _)
 ·obtain ⟨A, B, rfl, hA2⟩ : ∃ A B, X1 = A ++ B ∧ A.length = j := ⟨X1.take j, X1.drop j, (List.take_append_drop _ _).symm, by simp; omega⟩
  simp only [List.length_append] at h1
  rw [List.append_assoc A B (Y1 ++ Q1)] at h7 ⊢
  repeat' (first | ((with_reducible apply oq_subE (k := ((m - i : Nat) : Int))); exact rfl; exact rfl; omega) | ((with_reducible apply oq_subE (k := ((i - j : Nat) : Int))); exact rfl; exact rfl; omega) | ((with_reducible apply oq_neqT); exact rfl; exact rfl; omega) | ((with_reducible apply oq_gtrT); exact rfl; exact rfl; omega) | (apply oq_fn; exact rfl; try first | exact trivial | (and_intros <;> omega)) | (with_reducible apply tl_nil) | ((with_reducible apply u_s); (iterate 3 exact rfl); (with_reducible apply os_callW (b := g) (k := 141) (hc := Try.call141)); exact rfl; exact rfl; (repeat (first | exact P0 | apply P1)); exact fun D w1 hw1 => swapR_W g cp n (m - i) m j P1 A B Y1 Q1 w1 (hw1.blkP (by (repeat (first | exact P0 | apply P1)))) hA2 h2 (by omega) (by omega) h7 hn1) | ((with_reducible apply u_q); (iterate 4 exact rfl)) | (with_reducible apply t_seq) | (apply t_region; kernel_rfl) | ((with_reducible apply t_condT); exact rfl) | (with_reducible apply t_skip) | (with_reducible apply t_block) | with_reducible apply q_thenN | with_reducible apply q_blockN)
  all_goals (refine ⟨(i - j, j, P1 ++ Y1, B, A, Q1), ⟨(by simp only; omega), hA2, (by simp only; omega), h4, (by simp only [List.length_append]; omega), (by simp only; omega), (by simp only [List.length_append] at h7 ⊢; omega), ?_⟩, (by simp only; omega), ?_, ?_⟩)
  all_goals first
   | (rw [← h8]; simp only [List.append_assoc]; done)
   | ((try simp only [List.cons_append, List.nil_append]); (repeat (first | exact FrSub.nil | (apply FrSub.cons; exact rfl))); done)
   | (simp only [List.append_assoc]; (try simp only [List.cons_append, List.nil_append]); (repeat (first | exact HpSub.refl _ | (apply HpSub.consE; (repeat (first | exact P0 | apply P1)); exact rfl) | exact HpSub.nil)); done)
theorem byP_neg {x y : Sh} : (byP x.who x.fr y.who y.fr < 0) ↔ ltS x y = true := by unfold ltS; rw [decide_eq_true_iff]
theorem srt_take {X : List Sh} {k : Nat} {x : Sh} (h : X[k]? = some x) : srtS (X.take (k + 1)) = mrg ltS (srtS (X.take k)) [x] := by
 rw [List.take_add_one, h]; exact srt_snoc _ _
theorem split_last {α : Type} {l : List α} (h : l ≠ []) : ∃ S z, l = S ++ [z] := ⟨l.dropLast, l.getLast h, (List.dropLast_concat_getLast h).symm⟩
theorem ins_W (g cp n a b : Nat) (P X Q : List Sh) (w : World) (hB : Blk w g (shB (P ++ (X ++ Q))) (some (101, 3, cp))) (ha : P.length = a) (hb : a + X.length = b) (hn : (P ++ (X ++ Q)).length = n) (hn1 : n ≤ 1000000) :
  Calls Try.prog 138 #[.slice (some ⟨g, 0, none⟩) n cp, .int .i64 (a : Nat), .int .i64 (b : Nat), .func (.func 111) #[] #[]] w fun e w' => e = .returned (.tuple #[]) ∧ ExtM [g] w w' ∧ Blk w' g (shB (P ++ (srtS X ++ Q))) (some (101, 3, cp)) := by
 simp only [List.length_append] at hn
 have h1 : srtS (X.take (0 + 1)) ++ (X.drop (0 + 1) ++ Q) = X ++ Q := by
  cases X with
  | nil => rfl
  | cons x X => simp [srtS, srt, mrg_nil]
 rw [← h1] at hB
 refine enterW (c := cxM [g] w 53) Try.func138 rfl rfl rfl rfl hB ?_
 repeat' (first | ((with_reducible apply oq_addE (k := ((a + 1 + 0 : Nat) : Int))); exact rfl; exact rfl; omega) | (apply oq_fn; exact rfl; try first | exact trivial | (and_intros <;> omega)) | (with_reducible apply tl_nil) | ((with_reducible apply u_q); (iterate 4 exact rfl)) | (with_reducible apply t_seq) | (apply t_region; kernel_rfl) | (with_reducible apply t_block) | with_reducible apply q_thenN)
 apply t_loopK (ι := Nat) [0, 1, 2, 3] (fun k => [(8, .int .i64 ((a + 1 + k : Nat) : Int))]) (fun k => [(g, shB (P ++ (srtS (X.take (k + 1)) ++ (X.drop (k + 1) ++ Q))), some (101, 3, cp))]) (fun k => k = 0 ∨ k + 1 ≤ X.length) (fun k => b - k) (0)
 (repeat (first | exact KeepF.nil | (apply KeepF.cons; exact rfl) | apply KeepF.skip))
 (repeat (first | exact FrSub.nil | (apply FrSub.cons; exact rfl)))
 (repeat (first | exact HpSub.refl _ | (apply HpSub.consE; (repeat (first | exact P0 | apply P1)); exact rfl) | exact HpSub.nil))
 ·exact .inl rfl
 rintro k hk
 dsimp only
 by_cases hlt : k + 1 < X.length
 ·obtain ⟨x, hx⟩ : ∃ x, X[k + 1]? = some x := ⟨_, List.getElem?_eq_getElem hlt⟩
  have hxs := srt_take hx
  have hsl : (srtS (X.take (k + 1))).length = k + 1 := by rw [srtS, srt_len]; simp; omega
  have hso : Srt ltS (srtS (X.take (k + 1))) := srt_srt woS _
  obtain ⟨R, hR⟩ : ∃ R, X.drop (k + 1 + 1) = R := ⟨_, rfl⟩
  have hRl : R.length = X.length - (k + 1 + 1) := by rw [← hR]; simp
  have hdr : X.drop (k + 1) = x :: R := by
   obtain ⟨h2, h3⟩ := List.getElem?_eq_some_iff.1 hx
   rw [List.drop_eq_getElem_cons h2, h3, hR]
  have e0 : P ++ (srtS (X.take (k + 1)) ++ (X.drop (k + 1) ++ Q)) = (P ++ srtS (X.take (k + 1))) ++ x :: ([] ++ (R ++ Q)) := by
   rw [hdr]; simp only [List.append_assoc, List.cons_append, List.nil_append]
  rw [e0]
  refine t_cut (ι := Unit) (fun _ => [(0, .slice (some ⟨g, 0, none⟩) n cp), (1, .int .i64 (a : Nat)), (2, .int .i64 (b : Nat)), (3, .func (.func 111) #[] #[]), (8, .int .i64 (a + 1 + k : Nat))]) (fun _ => [(g, shB ((P ++ srtS (X.take (k + 1))) ++ x :: ([] ++ (R ++ Q))), some (101, 3, cp))]) (fun _ => True) ?_ ?_
  ·repeat' (first | ((with_reducible apply oq_lssT); exact rfl; exact rfl; omega) | (apply oq_fn; exact rfl; try first | exact trivial | (and_intros <;> omega)) | (with_reducible apply tl_nil) | ((with_reducible apply u_q); (iterate 4 exact rfl)) | (with_reducible apply t_seq) | (apply t_region; kernel_rfl) | ((with_reducible apply t_condT); exact rfl) | (with_reducible apply t_skip) | with_reducible apply q_thenN)
   all_goals exact ⟨rfl, (), trivial, by (repeat (first | exact FrSub.nil | (apply FrSub.cons; exact rfl))), by (repeat (first | exact HpSub.refl _ | (apply HpSub.consE; (repeat (first | exact P0 | apply P1)); exact rfl) | exact HpSub.nil))⟩
  rintro ⟨⟩ -
  refine t_cut (ι := Unit) (fun _ => [(0, .slice (some ⟨g, 0, none⟩) n cp), (1, .int .i64 (a : Nat)), (2, .int .i64 (b : Nat)), (3, .func (.func 111) #[] #[]), (8, .int .i64 (a + 1 + k : Nat))]) (fun _ => [(g, shB (P ++ (srtS (X.take (k + 1 + 1)) ++ (X.drop (k + 1 + 1) ++ Q))), some (101, 3, cp))]) (fun _ => True) ?_ ?_
  ·repeat' (first | (apply oq_fn; exact rfl; try first | exact trivial | (and_intros <;> omega)) | (with_reducible apply tl_nil) | ((with_reducible apply u_q); (iterate 4 exact rfl)) | (with_reducible apply t_seq) | (apply t_region; kernel_rfl) | (with_reducible apply t_block) | with_reducible apply q_thenN)
   apply t_loopK (ι := List Sh × List Sh) [0, 1, 2, 3, 8, 12, 13, 14, 15, 16, 17] (fun z => [(9, .int .i64 ((a + z.1.length : Nat) : Int)), (8, .int .i64 ((a + 1 + k : Nat) : Int))]) (fun z => [(g, shB ((P ++ z.1) ++ x :: (z.2 ++ (R ++ Q))), some (101, 3, cp))]) (fun z => z.1 ++ z.2 = srtS (X.take (k + 1)) ∧ ∀ y ∈ z.2, ltS x y = true) (fun z => z.1.length) ((srtS (X.take (k + 1)), []))
   (repeat (first | exact KeepF.nil | (apply KeepF.cons; exact rfl) | apply KeepF.skip))
   (repeat (first | exact FrSub.nil | (apply FrSub.cons; exact rfl) | (apply FrSub.consE; exact rfl; (simp only [hsl]; congr 2; omega))))
   (repeat (first | exact HpSub.refl _ | (apply HpSub.consE; (repeat (first | exact P0 | apply P1)); exact rfl) | exact HpSub.nil))
   ·exact ⟨List.append_nil _, fun y hy => by cases hy⟩
   rintro ⟨S1, S2⟩ ⟨hs, hgt⟩
   simp only at hs hgt
   dsimp only
   have hl12 : S1.length + S2.length = k + 1 := by rw [← hsl, ← hs, List.length_append]
   rw [← hs] at hso
   by_cases h0 : S1 = []
   ·subst h0
    have he : P ++ (srtS (X.take (k + 1 + 1)) ++ (X.drop (k + 1 + 1) ++ Q)) = (P ++ []) ++ x :: (S2 ++ (R ++ Q)) := by
     rw [hxs, ← hs, ins_done woS hso (.inl rfl) hgt, hR]
     simp only [List.append_assoc, List.cons_append, List.nil_append, List.append_nil]
    simp only [List.length_nil, Nat.add_zero]
    repeat' (first | ((with_reducible apply oq_gtrF); exact rfl; exact rfl; omega) | (apply oq_fn; exact rfl; try first | exact trivial | (and_intros <;> omega)) | (with_reducible apply v_nil) | ((with_reducible apply v_q); (iterate 3 exact rfl)) | ((with_reducible apply v_skip); (iterate 3 exact rfl)) | (with_reducible apply t_seq) | (apply t_drawn; kernel_rfl; decide +kernel; try simp only [List.append_eq, List.cons_append, List.nil_append]) | ((with_reducible apply t_condF); exact rfl) | (with_reducible apply t_exit) | with_reducible apply q_thenN | with_reducible apply q_blockN | with_reducible apply q_thenE | ((with_reducible apply q_blockE); exact rfl))
    all_goals exact ⟨rfl, (), trivial, by (repeat (first | exact FrSub.nil | (apply FrSub.cons; exact rfl))), by (rw [he]; (repeat (first | exact HpSub.refl _ | (apply HpSub.consE; (repeat (first | exact P0 | apply P1)); exact rfl) | exact HpSub.nil)))⟩
   ·obtain ⟨S, z, rfl⟩ := split_last h0
    simp only [List.length_append, List.length_cons, List.length_nil, Nat.zero_add] at hl12 ⊢
    have hst := ins_step (P := P) (S := S) (S2 := S2) (Q := R ++ Q) (z := z) (x := x)
    rw [ha] at hst
    have hdx : ((P ++ (S ++ [z])) ++ x :: (S2 ++ (R ++ Q)))[a + (S.length + 1)]? = some x := get_at (by simp; omega)
    have hdz : ((P ++ (S ++ [z])) ++ x :: (S2 ++ (R ++ Q)))[a + S.length]? = some z := by
     rw [show (P ++ (S ++ [z])) ++ x :: (S2 ++ (R ++ Q)) = (P ++ S) ++ z :: (x :: (S2 ++ (R ++ Q))) by simp only [List.append_assoc, List.cons_append, List.nil_append]]
     exact get_at (by simp; omega)
    obtain ⟨D, hD⟩ : ∃ D, (P ++ (S ++ [z])) ++ x :: (S2 ++ (R ++ Q)) = D := ⟨_, rfl⟩
    rw [hD] at hdx hdz hst ⊢
    have hdx2 : (D.set (a + S.length + 1) z)[a + S.length]? = some z := by rw [List.getElem?_set_ne (by omega)]; exact hdz
    rw [show a + (S.length + 1) = a + S.length + 1 by omega] at hdx ⊢
    obtain ⟨q0, q1, q2⟩ := sh_at hdx
    obtain ⟨r0, r1, r2⟩ := sh_at hdz
    have HC := fun w1 => byPerson_calls x.who x.fr x.to z.who z.fr z.to w1
    obtain ⟨o, ho⟩ : ∃ o, byP x.who x.fr z.who z.fr = o := ⟨_, rfl⟩
    rw [ho] at HC
    cases hc : ltS x z with
    | true =>
     have HN : o < 0 := by rw [← ho]; exact byP_neg.2 hc
     repeat' (first | ((with_reducible apply oq_subE (k := ((a + S.length : Nat) : Int))); exact rfl; exact rfl; omega) | (focus ((with_reducible apply oq_indexAddrN); (iterate 4 exact rfl); omega)) | ((with_reducible apply oq_gtrT); exact rfl; exact rfl; omega) | ((with_reducible apply oq_lssT); exact rfl; exact rfl; omega) | (apply oq_fn; exact rfl; try first | exact trivial | (and_intros <;> omega)) | ((with_reducible apply oq_loadAgg); exact rfl; exact rfl) | ((with_reducible apply oq_call (k := 111) (hc := Try.call111)); exact rfl; exact rfl; exact fun D w1 hw1 => HC w1) | (with_reducible apply tl_nil) | ((with_reducible apply u_q); (iterate 4 exact rfl)) | (with_reducible apply v_nil) | ((with_reducible apply v_q); (iterate 3 exact rfl)) | ((with_reducible apply (os_storeSh z hdx rfl)); (iterate 3 exact rfl); (repeat (first | exact P0 | apply P1))) | ((with_reducible apply (os_storeSh x hdx2 hst)); (iterate 3 exact rfl); (repeat (first | exact P0 | apply P1))) | ((with_reducible apply ai_q); (iterate 5 exact rfl)) | ((with_reducible apply ai_n0); (iterate 3 exact rfl)) | ((with_reducible apply al_keep); focus (repeat (first | exact HpSub.refl _ | (apply HpSub.cons; (repeat (first | exact P0 | apply P1))) | apply HpSub.skipX | exact HpSub.nil))) | (apply Rd.own; (repeat (first | exact P0 | apply P1)); with_reducible (first | exact q0 | exact q1 | exact q2 | exact r0 | exact r1 | exact r2); done) | (apply t_mixZ (id := 6) [0, 1, 2, 3, 4, 5, 6, 7, 8, 10, 11, 12] 6; kernel_rfl; kernel_rfl; exact rfl) | (with_reducible apply t_seq) | (apply t_region; kernel_rfl) | (apply t_drawn; kernel_rfl; decide +kernel; try simp only [List.append_eq, List.cons_append, List.nil_append]) | ((with_reducible apply t_condT); exact rfl) | (with_reducible apply t_skip) | (with_reducible apply t_block) | with_reducible apply q_thenN | with_reducible apply q_blockN | exact Rdn.zero | apply Rdn.succ | (apply al_done; decide +kernel) | (apply al_one 9; decide +kernel) | (apply al_one 13; decide +kernel) | (apply al_one 14; decide +kernel) | (apply al_one 15; decide +kernel) | (apply al_one 16; decide +kernel) | (apply al_one 17; decide +kernel) | (apply al_two 9 13; decide +kernel))
     all_goals (refine ⟨(S, z :: S2), ⟨(by rw [← hs]; simp only [List.append_assoc, List.cons_append, List.nil_append]), fun y hy => ?_⟩, (by simp only [List.length_append, List.length_cons, List.length_nil]; omega), ?_, ?_⟩)
     all_goals first
      | ((try simp only [List.cons_append, List.nil_append]); (repeat (first | exact FrSub.nil | (apply FrSub.cons; exact rfl))); done)
      | ((try simp only [List.cons_append, List.nil_append]); (repeat (first | exact HpSub.refl _ | (apply HpSub.consE; (repeat (first | exact P0 | apply P1)); exact rfl) | exact HpSub.nil)); done)
      | (rcases List.mem_cons.1 hy with rfl | hy; exact hc; exact hgt y hy)
    | false =>
     have he : P ++ (srtS (X.take (k + 1 + 1)) ++ (X.drop (k + 1 + 1) ++ Q)) = (P ++ (S ++ [z])) ++ x :: (S2 ++ (R ++ Q)) := by
      rw [hxs, ← hs, ins_done woS hso (.inr ⟨S, z, rfl, hc⟩) hgt, hR]
      simp only [List.append_assoc, List.cons_append, List.nil_append]
     have HN : ¬ o < 0 := by rw [← ho]; intro h; rw [byP_neg, hc] at h; cases h
     repeat' (first | ((with_reducible apply oq_subE (k := ((a + S.length : Nat) : Int))); exact rfl; exact rfl; omega) | (focus ((with_reducible apply oq_indexAddrN); (iterate 4 exact rfl); omega)) | ((with_reducible apply oq_gtrT); exact rfl; exact rfl; omega) | ((with_reducible apply oq_lssF); exact rfl; exact rfl; omega) | (apply oq_fn; exact rfl; try first | exact trivial | (and_intros <;> omega)) | ((with_reducible apply oq_loadAgg); exact rfl; exact rfl) | ((with_reducible apply oq_call (k := 111) (hc := Try.call111)); exact rfl; exact rfl; exact fun D w1 hw1 => HC w1) | (with_reducible apply v_nil) | ((with_reducible apply v_q); (iterate 3 exact rfl)) | (apply Rd.own; (repeat (first | exact P0 | apply P1)); with_reducible (first | exact q0 | exact q1 | exact q2 | exact r0 | exact r1 | exact r2); done) | (with_reducible apply t_seq) | (apply t_drawn; kernel_rfl; decide +kernel; try simp only [List.append_eq, List.cons_append, List.nil_append]) | ((with_reducible apply t_condF); exact rfl) | (with_reducible apply t_exit) | with_reducible apply q_thenN | with_reducible apply q_blockN | with_reducible apply q_thenE | ((with_reducible apply q_blockE); exact rfl) | exact Rdn.zero | apply Rdn.succ)
     all_goals exact ⟨rfl, (), trivial, by (repeat (first | exact FrSub.nil | (apply FrSub.cons; exact rfl))), by (rw [he, hD]; (repeat (first | exact HpSub.refl _ | (apply HpSub.consE; (repeat (first | exact P0 | apply P1)); exact rfl) | exact HpSub.nil)))⟩
  ·rintro ⟨⟩ -
   repeat' (first | ((with_reducible apply oq_addE (k := ((a + 1 + (k + 1) : Nat) : Int))); exact rfl; exact rfl; omega) | (apply oq_fn; exact rfl; try first | exact trivial | (and_intros <;> omega)) | (with_reducible apply tl_nil) | ((with_reducible apply u_q); (iterate 4 exact rfl)) | (apply t_region; kernel_rfl) | with_reducible apply q_thenN)
   all_goals (refine ⟨(k + 1), (by omega), (by omega), ?_, ?_⟩ <;> (try simp only [List.cons_append, List.nil_append]) <;> (repeat' (first | exact FrSub.nil | (apply FrSub.cons; exact rfl) | exact HpSub.refl _)))
 ·have hkx : srtS (X.take (k + 1)) ++ (X.drop (k + 1) ++ Q) = srtS X ++ Q := by
   rw [List.take_of_length_le (by omega), List.drop_of_length_le (by omega)]; rfl
  rw [hkx]
  repeat' (first | ((with_reducible apply oq_lssF); exact rfl; exact rfl; omega) | (apply oq_fn; exact rfl; try first | exact trivial | (and_intros <;> omega)) | (with_reducible apply tl_nil) | ((with_reducible apply u_q); (iterate 4 exact rfl)) | (with_reducible apply t_seq) | (apply t_region; kernel_rfl) | ((with_reducible apply t_condF); exact rfl) | (with_reducible apply t_exit) | with_reducible apply q_thenN | with_reducible apply q_thenE | ((with_reducible apply q_blockE); exact rfl) | (with_reducible apply end_normal) | exact rvs_nil)
  all_goals exact ⟨rfl, by (repeat (first | exact HpSub.refl _ | (apply HpSub.consE; (repeat (first | exact P0 | apply P1)); exact rfl) | exact HpSub.nil))⟩
end Go.Proofs.Ytmlmgipngbndgaa
namespace Go.Proofs.Ytmlmgipngbndgaa
section
variable {α : Type} {lt : α → α → Bool}
theorem get_seg {P U R : List α} {a q : Nat} {x : α} (ha : P.length = a) (h : U[q]? = some x) : (P ++ (U ++ R))[a + q]? = some x := by
 subst ha
 have := (List.getElem?_eq_some_iff.1 h).1
 rw [List.getElem?_append_right (by omega), show P.length + q - P.length = q by omega, List.getElem?_append_left this, h]
theorem get_seg2 {P U V R : List α} {m q : Nat} {x : α} (ha : P.length + U.length = m) (h : V[q]? = some x) : (P ++ (U ++ (V ++ R)))[m + q]? = some x := by
 rw [← List.append_assoc]
 exact get_seg (by simp; omega) h
theorem srt_le (hw : Wo lt) {V : List α} (hV : Srt lt V) {i j : Nat} {x y : α} (hij : i ≤ j) (hx : V[i]? = some x) (hy : V[j]? = some y) : lt y x = false := by
 obtain ⟨h1, rfl⟩ := List.getElem?_eq_some_iff.1 hx
 obtain ⟨h2, rfl⟩ := List.getElem?_eq_some_iff.1 hy
 by_cases h : i = j
 ·subst h; exact hw.irr _
 ·exact List.pairwise_iff_getElem.1 hV i j h1 h2 (by omega)
theorem mrg_one (hw : Wo lt) {V : List α} {x : α} {i : Nat} (hV : Srt lt V) (h1 : i = 0 ∨ ∃ y, V[i - 1]? = some y ∧ lt y x = true) (h2 : i = V.length ∨ ∃ y, V[i]? = some y ∧ lt y x = false) : mrg lt [x] V = V.take i ++ x :: V.drop i := by
 have a1 : ∀ y ∈ V.take i, lt y x = true := fun y hy => by
  obtain ⟨k, hk, rfl⟩ := List.getElem_of_mem hy
  rw [List.getElem_take]
  simp only [List.length_take] at hk
  rcases h1 with h1 | ⟨z, hz, hzx⟩
  ·omega
  ·have := srt_le hw hV (show k ≤ i - 1 by omega) (List.getElem?_eq_getElem (by omega)) hz
   cases hc : lt V[k] x with
   | true => rfl
   | false =>
    have := hw.tr _ _ _ hc this
    rw [hzx] at this; cases this
 have a2 : ∀ y ∈ V.drop i, lt y x = false := fun y hy => by
  obtain ⟨k, hk, rfl⟩ := List.getElem_of_mem hy
  rw [List.getElem_drop]
  simp only [List.length_drop] at hk
  rcases h2 with h2 | ⟨z, hz, hzx⟩
  ·omega
  ·exact hw.tr _ _ _ hzx (srt_le hw hV (show i ≤ i + k by omega) hz (List.getElem?_eq_getElem (by omega)))
 have key := mrg_split (lt := lt) [] (V.take i) [x] (V.drop i) (by simp) (fun y hy z hz => by rw [List.mem_singleton.1 hz]; exact a1 y hy)
 have h3 : mrg lt [x] (V.drop i) = [x] ++ V.drop i := mrg_app (fun y hy z hz => by rw [List.mem_singleton.1 hy]; exact a2 z hz)
 rw [List.nil_append, List.take_append_drop, mrg_nil, h3] at key
 exact key
theorem mrg_last (hw : Wo lt) {U : List α} {y : α} {i : Nat} (hi : i ≤ U.length) (hU : Srt lt U) (h1 : i = 0 ∨ ∃ x, U[i - 1]? = some x ∧ lt y x = false) (h2 : i = U.length ∨ ∃ x, U[i]? = some x ∧ lt y x = true) : mrg lt U [y] = U.take i ++ y :: U.drop i := by
 have key := ins_done hw (S1 := U.take i) (S2 := U.drop i) (x := y) (by rw [List.take_append_drop]; exact hU) ?_ ?_
 ·rw [List.take_append_drop] at key
  exact key
 ·rcases h1 with rfl | ⟨x, hx, hyx⟩
  ·exact .inl rfl
  ·by_cases h0 : i = 0
   ·subst h0; exact .inl rfl
   ·right
    refine ⟨U.take (i - 1), x, ?_, hyx⟩
    have := List.take_add_one (l := U) (i := i - 1)
    rw [hx, show i - 1 + 1 = i by omega] at this
    exact this
 ·intro z hz
  obtain ⟨k, hk, rfl⟩ := List.getElem_of_mem hz
  rw [List.getElem_drop]
  simp only [List.length_drop] at hk
  rcases h2 with h2 | ⟨x, hx, hyx⟩
  ·omega
  ·have := srt_le hw hU (show i ≤ i + k by omega) hx (List.getElem?_eq_getElem (by omega))
   cases hc : lt y U[i + k] with
   | true => rfl
   | false =>
    have := hw.tr _ _ _ this hc
    rw [hyx] at this; cases this
/-- x moves on by one place. -/
theorem mov_step {P V Q : List α} {k : Nat} {x y : α} (hy : V[k]? = some y) : (P ++ (V.take k ++ x :: (V.drop k ++ Q)))[P.length + k]? = some x ∧ (P ++ (V.take k ++ x :: (V.drop k ++ Q)))[P.length + k + 1]? = some y ∧
  ((P ++ (V.take k ++ x :: (V.drop k ++ Q))).set (P.length + k) y).set (P.length + k + 1) x = P ++ (V.take (k + 1) ++ x :: (V.drop (k + 1) ++ Q)) := by
 obtain ⟨hk, he⟩ := List.getElem?_eq_some_iff.1 hy
 have e1 : V.drop k = y :: V.drop (k + 1) := by rw [List.drop_eq_getElem_cons hk, he]
 have e2 : V.take (k + 1) = V.take k ++ [y] := by rw [List.take_add_one, hy]; rfl
 have l1 : (P ++ V.take k).length = P.length + k := by simp; omega
 have e : P ++ (V.take k ++ x :: (V.drop k ++ Q)) = (P ++ V.take k) ++ x :: ([] ++ y :: (V.drop (k + 1) ++ Q)) := by rw [e1]; simp only [List.append_assoc, List.cons_append, List.nil_append]
 refine ⟨?_, ?_, ?_⟩
 ·rw [e]; exact get_at l1
 ·rw [e]; exact get_at2 (by rw [l1]; simp)
 ·have h := swp_at (P := P ++ V.take k) (M := []) (Q := V.drop (k + 1) ++ Q) (x := x) (y := y)
  rw [l1] at h
  simp only [List.length_nil, Nat.add_zero] at h
  rw [e, h, e2]
  simp only [List.append_assoc, List.cons_append, List.nil_append]
/-- y moves back by one place. -/
theorem mov_back {P U Q : List α} {k : Nat} {x y : α} (hx : U[k]? = some x) : (P ++ (U.take (k + 1) ++ y :: (U.drop (k + 1) ++ Q)))[P.length + k + 1]? = some y ∧ (P ++ (U.take (k + 1) ++ y :: (U.drop (k + 1) ++ Q)))[P.length + k]? = some x ∧
  ((P ++ (U.take (k + 1) ++ y :: (U.drop (k + 1) ++ Q))).set (P.length + k + 1) x).set (P.length + k) y = P ++ (U.take k ++ y :: (U.drop k ++ Q)) := by
 obtain ⟨hk, he⟩ := List.getElem?_eq_some_iff.1 hx
 have e1 : U.drop k = x :: U.drop (k + 1) := by rw [List.drop_eq_getElem_cons hk, he]
 have e2 : U.take (k + 1) = U.take k ++ [x] := by rw [List.take_add_one, hx]; rfl
 have l1 : (P ++ U.take k).length = P.length + k := by simp; omega
 have e : P ++ (U.take (k + 1) ++ y :: (U.drop (k + 1) ++ Q)) = (P ++ U.take k) ++ x :: ([] ++ y :: (U.drop (k + 1) ++ Q)) := by rw [e2]; simp only [List.append_assoc, List.cons_append, List.nil_append]
 refine ⟨?_, ?_, ?_⟩
 ·rw [e]; exact get_at2 (by rw [l1]; simp)
 ·rw [e]; exact get_at l1
 ·have h := swp_at (P := P ++ U.take k) (M := []) (Q := U.drop (k + 1) ++ Q) (x := x) (y := y)
  rw [l1] at h
  simp only [List.length_nil, Nat.add_zero] at h
  rw [e, List.set_comm _ _ (by omega), h, e1]
  simp only [List.append_assoc, List.cons_append, List.nil_append]
end
end Go.Proofs.Ytmlmgipngbndgaa
namespace Go.Proofs.Ytmlmgipngbndgaa
open Go.RowKit
attribute [local irreducible] OQ OS OX Rd T TL GX GL AL AI RV wpG SAny Calls
theorem oq_shrE {c : Cx} {F : Fr} {H : Hp} {d : Option Tmp} {ty t t' : TypeId} {pos : String} {af : Array Edge} {g : Option (Nat × Bool)} {x y : Operand} {m : Int} {k' : IntKind} {a r : Nat} (hx : ev F x = some (.int .u64 m)) (hy : ev F y = some (.int k' 1)) (e : m = (a : Int)) (e2 : a / 2 = r) : OQ c ⟨d, .binOp .shr t x y t', ty, pos, af, g⟩ F H (.int .u64 (r : Nat)) :=
 e2 ▸ oq_shr1N hx hy e
theorem sym1_W (g cp n a m b : Nat) (x : Sh) (P V Q : List Sh) (w : World) (hB : Blk w g (shB (P ++ ([x] ++ (V ++ Q)))) (some (101, 3, cp))) (hV : Srt ltS V) (ha : P.length = a) (hm : a + 1 = m) (hb : m + V.length = b) (hn : (P ++ ([x] ++ (V ++ Q))).length = n) (hn1 : n ≤ 1000000) :
  Calls Try.prog 139 #[.slice (some ⟨g, 0, none⟩) n cp, .int .i64 (a : Nat), .int .i64 (m : Nat), .int .i64 (b : Nat), .func (.func 111) #[] #[]] w fun e w' => e = .returned (.tuple #[]) ∧ ExtM [g] w w' ∧ Blk w' g (shB (P ++ (mrg ltS [x] V ++ Q))) (some (101, 3, cp)) := by
 simp only [List.length_append, List.length_cons, List.length_nil] at hn
 have hda : (P ++ ([x] ++ (V ++ Q)))[a]? = some x := by rw [← ha]; simp
 refine enterW (c := cxM [g] w 220) Try.func139 rfl rfl rfl rfl hB ?_
 repeat' (first | ((with_reducible apply oq_subE (k := ((m - a : Nat) : Int))); exact rfl; exact rfl; omega) | ((with_reducible apply oq_eqlT); exact rfl; exact rfl; omega) | (apply oq_fn; exact rfl; try first | exact trivial | (and_intros <;> omega)) | (with_reducible apply tl_nil) | ((with_reducible apply u_q); (iterate 4 exact rfl)) | (with_reducible apply t_seq) | (apply t_region; kernel_rfl) | ((with_reducible apply t_condT); exact rfl) | (with_reducible apply t_block) | with_reducible apply q_thenN)
 apply t_loopK (ι := Nat × Nat) [0, 1, 2, 3, 4] (fun z => [(10, .int .i64 ((m + z.1 : Nat) : Int)), (11, .int .i64 ((m + z.2 : Nat) : Int))]) (fun _ => [(g, shB (P ++ ([x] ++ (V ++ Q))), some (101, 3, cp))]) (fun z => z.1 ≤ z.2 ∧ z.2 ≤ V.length ∧ (z.1 = 0 ∨ ∃ y, V[z.1 - 1]? = some y ∧ ltS y x = true) ∧ (z.2 = V.length ∨ ∃ y, V[z.2]? = some y ∧ ltS y x = false)) (fun z => z.2 - z.1) ((0, V.length))
 (repeat (first | exact KeepF.nil | (apply KeepF.cons; exact rfl) | apply KeepF.skip))
 (repeat (first | exact FrSub.nil | (apply FrSub.cons; exact rfl) | (apply FrSub.consE; exact rfl; (congr 2; first | omega | (simp only; omega)))))
 (repeat (first | exact HpSub.refl _ | (apply HpSub.consE; (repeat (first | exact P0 | apply P1)); exact rfl) | exact HpSub.nil))
 ·exact ⟨Nat.zero_le _, Nat.le_refl _, .inl rfl, .inl rfl⟩
 rintro ⟨i, j⟩ ⟨h1, h2, h3, h4⟩
 simp only at h1 h2 h3 h4
 try dsimp only
 by_cases hij : i < j
 ·obtain ⟨q, hq⟩ : ∃ q, q = (i + j) / 2 := ⟨_, rfl⟩
  obtain ⟨y, hy⟩ : ∃ y, V[q]? = some y := ⟨_, List.getElem?_eq_getElem (by omega)⟩
  have hdy : (P ++ ([x] ++ (V ++ Q)))[m + q]? = some y := get_seg2 (by simp only [List.length_cons, List.length_nil]; omega) hy
  obtain ⟨D, hD⟩ : ∃ D, P ++ ([x] ++ (V ++ Q)) = D := ⟨_, rfl⟩
  rw [hD] at hda hdy ⊢
  obtain ⟨q0, q1, q2⟩ := sh_at hda
  obtain ⟨r0, r1, r2⟩ := sh_at hdy
  have HC := fun w1 => byPerson_calls y.who y.fr y.to x.who x.fr x.to w1
  obtain ⟨o, ho⟩ : ∃ o, byP y.who y.fr x.who x.fr = o := ⟨_, rfl⟩
  rw [ho] at HC
  cases hc : ltS y x with
  | true =>
   have HN : o < 0 := by rw [← ho]; exact byP_neg.2 hc
   repeat' (first | ((with_reducible apply oq_addE (k := ((m + i + (m + j) : Nat) : Int))); exact rfl; exact rfl; omega) | ((with_reducible apply oq_addE (k := ((m + (q + 1) : Nat) : Int))); exact rfl; exact rfl; omega) | (focus ((with_reducible apply (oq_shrE (a := m + i + (m + j)) (r := m + q))); exact rfl; exact rfl; omega; omega)) | (focus ((with_reducible apply oq_convU); (iterate 3 exact rfl); (refine ⟨?_, ?_⟩ <;> omega))) | (focus ((with_reducible apply oq_indexAddrN); (iterate 4 exact rfl); omega)) | ((with_reducible apply oq_lssT); exact rfl; exact rfl; omega) | (apply oq_fn; exact rfl; try first | exact trivial | (and_intros <;> omega)) | ((with_reducible apply oq_loadAgg); exact rfl; exact rfl) | ((with_reducible apply oq_call (k := 111) (hc := Try.call111)); exact rfl; exact rfl; exact fun D w1 hw1 => HC w1) | (with_reducible apply tl_nil) | ((with_reducible apply u_q); (iterate 4 exact rfl)) | (with_reducible apply v_nil) | ((with_reducible apply v_q); (iterate 3 exact rfl)) | (apply Rd.own; (repeat (first | exact P0 | apply P1)); with_reducible (first | exact q0 | exact q1 | exact q2 | exact r0 | exact r1 | exact r2); done) | (with_reducible apply t_seq) | (apply t_region; kernel_rfl) | (apply t_drawn; kernel_rfl; decide +kernel; try simp only [List.append_eq, List.cons_append, List.nil_append]) | ((with_reducible apply t_condT); exact rfl) | (with_reducible apply t_skip) | (with_reducible apply t_block) | with_reducible apply q_thenN | with_reducible apply q_blockN | exact Rdn.zero | apply Rdn.succ)
   all_goals (refine ⟨(q + 1, j), (by refine ⟨(by simp only; omega), h2, .inr ⟨y, (by simpa using hy), hc⟩, h4⟩), (by simp only; omega), ?_, ?_⟩ <;> (try simp only [List.cons_append, List.nil_append]) <;> (repeat' (first | exact FrSub.nil | (apply FrSub.cons; exact rfl) | exact HpSub.refl _)))
  | false =>
   have HN : ¬ o < 0 := by rw [← ho]; intro h; rw [byP_neg, hc] at h; cases h
   repeat' (first | ((with_reducible apply oq_addE (k := ((m + i + (m + j) : Nat) : Int))); exact rfl; exact rfl; omega) | (focus ((with_reducible apply (oq_shrE (a := m + i + (m + j)) (r := m + q))); exact rfl; exact rfl; omega; omega)) | (focus ((with_reducible apply oq_convU); (iterate 3 exact rfl); (refine ⟨?_, ?_⟩ <;> omega))) | (focus ((with_reducible apply oq_indexAddrN); (iterate 4 exact rfl); omega)) | ((with_reducible apply oq_lssT); exact rfl; exact rfl; omega) | ((with_reducible apply oq_lssF); exact rfl; exact rfl; omega) | (apply oq_fn; exact rfl; try first | exact trivial | (and_intros <;> omega)) | ((with_reducible apply oq_loadAgg); exact rfl; exact rfl) | ((with_reducible apply oq_call (k := 111) (hc := Try.call111)); exact rfl; exact rfl; exact fun D w1 hw1 => HC w1) | (with_reducible apply tl_nil) | ((with_reducible apply u_q); (iterate 4 exact rfl)) | (with_reducible apply v_nil) | ((with_reducible apply v_q); (iterate 3 exact rfl)) | (apply Rd.own; (repeat (first | exact P0 | apply P1)); with_reducible (first | exact q0 | exact q1 | exact q2 | exact r0 | exact r1 | exact r2); done) | (with_reducible apply t_seq) | (apply t_region; kernel_rfl) | (apply t_drawn; kernel_rfl; decide +kernel; try simp only [List.append_eq, List.cons_append, List.nil_append]) | ((with_reducible apply t_condT); exact rfl) | ((with_reducible apply t_condF); exact rfl) | (with_reducible apply t_skip) | (with_reducible apply t_block) | with_reducible apply q_thenN | with_reducible apply q_blockN | exact Rdn.zero | apply Rdn.succ)
   all_goals (refine ⟨(i, q), (by refine ⟨(by simp only; omega), (by simp only; omega), h3, .inr ⟨y, hy, hc⟩⟩), (by simp only; omega), ?_, ?_⟩ <;> (try simp only [List.cons_append, List.nil_append]) <;> (repeat' (first | exact FrSub.nil | (apply FrSub.cons; exact rfl) | exact HpSub.refl _)))
 ·obtain rfl : i = j := by omega
  rw [mrg_one woS hV h3 h4, List.append_assoc, List.cons_append]
  repeat' (first | ((with_reducible apply oq_lssF); exact rfl; exact rfl; omega) | (apply oq_fn; exact rfl; try first | exact trivial | (and_intros <;> omega)) | (with_reducible apply tl_nil) | ((with_reducible apply u_q); (iterate 4 exact rfl)) | (with_reducible apply t_seq) | (apply t_region; kernel_rfl) | ((with_reducible apply t_condF); exact rfl) | (with_reducible apply t_exit) | (with_reducible apply t_block) | with_reducible apply q_thenN | with_reducible apply q_thenE | ((with_reducible apply q_blockE); exact rfl))
  apply t_loopK (ι := Nat) [0, 1, 2, 3, 4, 10] (fun k => [(13, .int .i64 ((a + k : Nat) : Int))]) (fun k => [(g, shB (P ++ (V.take k ++ x :: (V.drop k ++ Q))), some (101, 3, cp))]) (fun k => k ≤ i) (fun k => i - k) (0)
  (repeat (first | exact KeepF.nil | (apply KeepF.cons; exact rfl) | apply KeepF.skip))
  (repeat (first | exact FrSub.nil | (apply FrSub.cons; exact rfl) | (apply FrSub.consE; exact rfl; (congr 2; first | omega | (simp only; omega)))))
  (repeat (first | exact HpSub.refl _ | (apply HpSub.consE; (repeat (first | exact P0 | apply P1)); exact rfl) | exact HpSub.nil))
  ·exact Nat.zero_le _
  rintro k hk
  try dsimp only
  by_cases hki : k < i
  ·obtain ⟨y, hy⟩ : ∃ y, V[k]? = some y := ⟨_, List.getElem?_eq_getElem (by omega)⟩
   obtain ⟨hdx, hdy, hst⟩ := mov_step (P := P) (Q := Q) (x := x) hy
   rw [ha] at hdx hdy hst
   obtain ⟨D, hD⟩ : ∃ D, P ++ (V.take k ++ x :: (V.drop k ++ Q)) = D := ⟨_, rfl⟩
   rw [hD] at hdx hdy hst ⊢
   have hdy2 : (D.set (a + k) y)[a + k + 1]? = some y := by rw [List.getElem?_set_ne (by omega)]; exact hdy
   obtain ⟨q0, q1, q2⟩ := sh_at hdx
   obtain ⟨r0, r1, r2⟩ := sh_at hdy
   repeat' (first | ((with_reducible apply oq_subE (k := ((m + i - 1 : Nat) : Int))); exact rfl; exact rfl; omega) | ((with_reducible apply oq_addE (k := ((a + k + 1 : Nat) : Int))); exact rfl; exact rfl; omega) | (focus ((with_reducible apply oq_indexAddrN); (iterate 4 exact rfl); omega)) | ((with_reducible apply oq_lssT); exact rfl; exact rfl; omega) | (apply oq_fn; exact rfl; try first | exact trivial | (and_intros <;> omega)) | ((with_reducible apply oq_loadAgg); exact rfl; exact rfl) | (with_reducible apply tl_nil) | ((with_reducible apply u_q); (iterate 4 exact rfl)) | (with_reducible apply v_nil) | ((with_reducible apply v_q); (iterate 3 exact rfl)) | ((with_reducible apply (os_storeSh y hdx rfl)); (iterate 3 exact rfl); (repeat (first | exact P0 | apply P1))) | ((with_reducible apply (os_storeSh x hdy2 hst)); (iterate 3 exact rfl); (repeat (first | exact P0 | apply P1))) | ((with_reducible apply ai_q); (iterate 5 exact rfl)) | ((with_reducible apply ai_n0); (iterate 3 exact rfl)) | ((with_reducible apply al_keep); focus (repeat (first | exact HpSub.refl _ | (apply HpSub.cons; (repeat (first | exact P0 | apply P1))) | apply HpSub.skipX | exact HpSub.nil))) | (apply Rd.own; (repeat (first | exact P0 | apply P1)); with_reducible (first | exact q0 | exact q1 | exact q2 | exact r0 | exact r1 | exact r2); done) | (apply t_mixZ (id := 11) [0, 1, 2, 3, 4, 5, 6, 7, 8, 10, 11, 12] 6; kernel_rfl; kernel_rfl; exact rfl) | (with_reducible apply t_seq) | (apply t_region; kernel_rfl) | ((with_reducible apply t_condT); exact rfl) | (with_reducible apply t_skip) | (with_reducible apply t_block) | with_reducible apply q_thenN | with_reducible apply q_blockN | exact Rdn.zero | apply Rdn.succ | (apply al_done; decide +kernel) | (apply al_one 9; decide +kernel) | (apply al_one 13; decide +kernel) | (apply al_one 14; decide +kernel) | (apply al_one 15; decide +kernel) | (apply al_one 16; decide +kernel) | (apply al_one 17; decide +kernel) | (apply al_two 9 13; decide +kernel))
   all_goals (refine ⟨(k + 1), (by omega), (by omega), ?_, ?_⟩ <;> (try simp only [List.cons_append, List.nil_append]) <;> (repeat' (first | exact FrSub.nil | (apply FrSub.cons; exact rfl) | exact HpSub.refl _)))
  ·obtain rfl : k = i := by omega
   repeat' (first | ((with_reducible apply oq_subE (k := ((m + k - 1 : Nat) : Int))); exact rfl; exact rfl; omega) | ((with_reducible apply oq_lssF); exact rfl; exact rfl; omega) | (apply oq_fn; exact rfl; try first | exact trivial | (and_intros <;> omega)) | (with_reducible apply tl_nil) | ((with_reducible apply u_q); (iterate 4 exact rfl)) | (with_reducible apply t_seq) | (apply t_region; kernel_rfl) | ((with_reducible apply t_condF); exact rfl) | (with_reducible apply t_ret) | (with_reducible apply t_exit) | with_reducible apply q_thenN | with_reducible apply q_thenR | with_reducible apply q_thenE | ((with_reducible apply q_blockE); exact rfl) | (with_reducible apply end_ret) | exact rvs_nil)
   all_goals exact ⟨rfl, by (repeat (first | exact HpSub.refl _ | (apply HpSub.consE; (repeat (first | exact P0 | apply P1)); exact rfl) | exact HpSub.nil))⟩
theorem sym2_W (g cp n a m b : Nat) (y : Sh) (P U Q : List Sh) (w : World) (hB : Blk w g (shB (P ++ (U ++ ([y] ++ Q)))) (some (101, 3, cp))) (hU : Srt ltS U) (hU1 : U.length ≠ 1) (ha : P.length = a) (hm : a + U.length = m) (hb : m + 1 = b) (hn : (P ++ (U ++ ([y] ++ Q))).length = n) (hn1 : n ≤ 1000000) :
  Calls Try.prog 139 #[.slice (some ⟨g, 0, none⟩) n cp, .int .i64 (a : Nat), .int .i64 (m : Nat), .int .i64 (b : Nat), .func (.func 111) #[] #[]] w fun e w' => e = .returned (.tuple #[]) ∧ ExtM [g] w w' ∧ Blk w' g (shB (P ++ (mrg ltS U [y] ++ Q))) (some (101, 3, cp)) := by
 simp only [List.length_append, List.length_cons, List.length_nil] at hn
 have hdm : (P ++ (U ++ ([y] ++ Q)))[m]? = some y := by
  have := get_seg2 (P := P) (U := U) (V := [y]) (R := Q) (m := m) (q := 0) (x := y) (by omega) rfl
  simpa using this
 refine enterW (c := cxM [g] w 220) Try.func139 rfl rfl rfl rfl hB ?_
 repeat' (first | ((with_reducible apply oq_subE (k := ((m - a : Nat) : Int))); exact rfl; exact rfl; omega) | ((with_reducible apply oq_subE (k := ((b - m : Nat) : Int))); exact rfl; exact rfl; omega) | ((with_reducible apply oq_eqlT); exact rfl; exact rfl; omega) | ((with_reducible apply oq_eqlF); exact rfl; exact rfl; omega) | (apply oq_fn; exact rfl; try first | exact trivial | (and_intros <;> omega)) | (with_reducible apply tl_nil) | ((with_reducible apply u_q); (iterate 4 exact rfl)) | (with_reducible apply t_seq) | (apply t_region; kernel_rfl) | ((with_reducible apply t_condT); exact rfl) | ((with_reducible apply t_condF); exact rfl) | (with_reducible apply t_skip) | (with_reducible apply t_block) | with_reducible apply q_thenN)
 apply t_loopK (ι := Nat × Nat) [0, 1, 2, 3, 4] (fun z => [(14, .int .i64 ((a + z.1 : Nat) : Int)), (15, .int .i64 ((a + z.2 : Nat) : Int))]) (fun _ => [(g, shB (P ++ (U ++ ([y] ++ Q))), some (101, 3, cp))]) (fun z => z.1 ≤ z.2 ∧ z.2 ≤ U.length ∧ (z.1 = 0 ∨ ∃ x, U[z.1 - 1]? = some x ∧ ltS y x = false) ∧ (z.2 = U.length ∨ ∃ x, U[z.2]? = some x ∧ ltS y x = true)) (fun z => z.2 - z.1) ((0, U.length))
 (repeat (first | exact KeepF.nil | (apply KeepF.cons; exact rfl) | apply KeepF.skip))
 (repeat (first | exact FrSub.nil | (apply FrSub.cons; exact rfl) | (apply FrSub.consE; exact rfl; (congr 2; first | omega | (simp only; omega)))))
 (repeat (first | exact HpSub.refl _ | (apply HpSub.consE; (repeat (first | exact P0 | apply P1)); exact rfl) | exact HpSub.nil))
 ·exact ⟨Nat.zero_le _, Nat.le_refl _, .inl rfl, .inl rfl⟩
 rintro ⟨i, j⟩ ⟨h1, h2, h3, h4⟩
 simp only at h1 h2 h3 h4
 try dsimp only
 by_cases hij : i < j
 ·obtain ⟨q, hq⟩ : ∃ q, q = (i + j) / 2 := ⟨_, rfl⟩
  obtain ⟨x, hx⟩ : ∃ x, U[q]? = some x := ⟨_, List.getElem?_eq_getElem (by omega)⟩
  have hdx : (P ++ (U ++ ([y] ++ Q)))[a + q]? = some x := get_seg ha hx
  obtain ⟨D, hD⟩ : ∃ D, P ++ (U ++ ([y] ++ Q)) = D := ⟨_, rfl⟩
  rw [hD] at hdm hdx ⊢
  obtain ⟨q0, q1, q2⟩ := sh_at hdm
  obtain ⟨r0, r1, r2⟩ := sh_at hdx
  have HC := fun w1 => byPerson_calls y.who y.fr y.to x.who x.fr x.to w1
  obtain ⟨o, ho⟩ : ∃ o, byP y.who y.fr x.who x.fr = o := ⟨_, rfl⟩
  rw [ho] at HC
  cases hc : ltS y x with
  | true =>
   have HN : o < 0 := by rw [← ho]; exact byP_neg.2 hc
   repeat' (first | ((with_reducible apply oq_addE (k := ((a + i + (a + j) : Nat) : Int))); exact rfl; exact rfl; omega) | (focus ((with_reducible apply (oq_shrE (a := a + i + (a + j)) (r := a + q))); exact rfl; exact rfl; omega; omega)) | (focus ((with_reducible apply oq_convU); (iterate 3 exact rfl); (refine ⟨?_, ?_⟩ <;> omega))) | (focus ((with_reducible apply oq_indexAddrN); (iterate 4 exact rfl); omega)) | ((with_reducible apply oq_lssT); exact rfl; exact rfl; omega) | (apply oq_fn; exact rfl; try first | exact trivial | (and_intros <;> omega)) | ((with_reducible apply oq_loadAgg); exact rfl; exact rfl) | ((with_reducible apply oq_call (k := 111) (hc := Try.call111)); exact rfl; exact rfl; exact fun D w1 hw1 => HC w1) | (with_reducible apply tl_nil) | ((with_reducible apply u_q); (iterate 4 exact rfl)) | (with_reducible apply v_nil) | ((with_reducible apply v_q); (iterate 3 exact rfl)) | (apply Rd.own; (repeat (first | exact P0 | apply P1)); with_reducible (first | exact q0 | exact q1 | exact q2 | exact r0 | exact r1 | exact r2); done) | (with_reducible apply t_seq) | (apply t_region; kernel_rfl) | (apply t_drawn; kernel_rfl; decide +kernel; try simp only [List.append_eq, List.cons_append, List.nil_append]) | ((with_reducible apply t_condT); exact rfl) | ((with_reducible apply t_condF); exact rfl) | (with_reducible apply t_skip) | (with_reducible apply t_block) | with_reducible apply q_thenN | with_reducible apply q_blockN | exact Rdn.zero | apply Rdn.succ)
   all_goals (refine ⟨(i, q), (by refine ⟨(by simp only; omega), (by simp only; omega), h3, .inr ⟨x, hx, hc⟩⟩), (by simp only; omega), ?_, ?_⟩ <;> (try simp only [List.cons_append, List.nil_append]) <;> (repeat' (first | exact FrSub.nil | (apply FrSub.cons; exact rfl) | exact HpSub.refl _)))
  | false =>
   have HN : ¬ o < 0 := by rw [← ho]; intro h; rw [byP_neg, hc] at h; cases h
   repeat' (first | ((with_reducible apply oq_addE (k := ((a + i + (a + j) : Nat) : Int))); exact rfl; exact rfl; omega) | ((with_reducible apply oq_addE (k := ((a + (q + 1) : Nat) : Int))); exact rfl; exact rfl; omega) | (focus ((with_reducible apply (oq_shrE (a := a + i + (a + j)) (r := a + q))); exact rfl; exact rfl; omega; omega)) | (focus ((with_reducible apply oq_convU); (iterate 3 exact rfl); (refine ⟨?_, ?_⟩ <;> omega))) | (focus ((with_reducible apply oq_indexAddrN); (iterate 4 exact rfl); omega)) | ((with_reducible apply oq_lssT); exact rfl; exact rfl; omega) | ((with_reducible apply oq_lssF); exact rfl; exact rfl; omega) | (apply oq_fn; exact rfl; try first | exact trivial | (and_intros <;> omega)) | ((with_reducible apply oq_loadAgg); exact rfl; exact rfl) | ((with_reducible apply oq_call (k := 111) (hc := Try.call111)); exact rfl; exact rfl; exact fun D w1 hw1 => HC w1) | (with_reducible apply tl_nil) | ((with_reducible apply u_q); (iterate 4 exact rfl)) | (with_reducible apply v_nil) | ((with_reducible apply v_q); (iterate 3 exact rfl)) | (apply Rd.own; (repeat (first | exact P0 | apply P1)); with_reducible (first | exact q0 | exact q1 | exact q2 | exact r0 | exact r1 | exact r2); done) | (with_reducible apply t_seq) | (apply t_region; kernel_rfl) | (apply t_drawn; kernel_rfl; decide +kernel; try simp only [List.append_eq, List.cons_append, List.nil_append]) | ((with_reducible apply t_condT); exact rfl) | (with_reducible apply t_skip) | (with_reducible apply t_block) | with_reducible apply q_thenN | with_reducible apply q_blockN | exact Rdn.zero | apply Rdn.succ)
   all_goals (refine ⟨(q + 1, j), (by refine ⟨(by simp only; omega), h2, .inr ⟨x, (by simpa using hx), hc⟩, h4⟩), (by simp only; omega), ?_, ?_⟩ <;> (try simp only [List.cons_append, List.nil_append]) <;> (repeat' (first | exact FrSub.nil | (apply FrSub.cons; exact rfl) | exact HpSub.refl _)))
 ·obtain rfl : i = j := by omega
  rw [mrg_last woS h2 hU h3 h4, List.append_assoc, List.cons_append]
  have h0e : shB (P ++ (U ++ ([y] ++ Q))) = shB (P ++ (U.take U.length ++ y :: (U.drop U.length ++ Q))) := by
   rw [List.take_of_length_le (Nat.le_refl _), List.drop_of_length_le (Nat.le_refl _)]; rfl
  repeat' (first | ((with_reducible apply oq_lssF); exact rfl; exact rfl; omega) | (apply oq_fn; exact rfl; try first | exact trivial | (and_intros <;> omega)) | (with_reducible apply tl_nil) | ((with_reducible apply u_q); (iterate 4 exact rfl)) | (with_reducible apply t_seq) | (apply t_region; kernel_rfl) | ((with_reducible apply t_condF); exact rfl) | (with_reducible apply t_exit) | (with_reducible apply t_block) | with_reducible apply q_thenN | with_reducible apply q_thenE | ((with_reducible apply q_blockE); exact rfl))
  apply t_loopK (ι := Nat) [0, 1, 2, 3, 4, 14] (fun q => [(17, .int .i64 ((a + q : Nat) : Int))]) (fun q => [(g, shB (P ++ (U.take q ++ y :: (U.drop q ++ Q))), some (101, 3, cp))]) (fun q => i ≤ q ∧ q ≤ U.length) (fun q => q) (U.length)
  (repeat (first | exact KeepF.nil | (apply KeepF.cons; exact rfl) | apply KeepF.skip))
  (repeat (first | exact FrSub.nil | (apply FrSub.cons; exact rfl) | (apply FrSub.consE; exact rfl; (congr 2; first | omega | (simp only; omega)))))
  (repeat (first | exact HpSub.refl _ | (apply HpSub.consE; (repeat (first | exact P0 | apply P1)); (first | exact rfl | exact h0e)) | exact HpSub.nil))
  ·exact ⟨h2, Nat.le_refl _⟩
  rintro q ⟨hiq, hqU⟩
  try dsimp only
  by_cases hki : i < q
  ·obtain ⟨k, rfl⟩ : ∃ k, q = k + 1 := ⟨q - 1, by omega⟩
   obtain ⟨x, hx⟩ : ∃ x, U[k]? = some x := ⟨_, List.getElem?_eq_getElem (by omega)⟩
   obtain ⟨hdy, hdx, hst⟩ := mov_back (P := P) (Q := Q) (y := y) hx
   rw [ha] at hdx hdy hst
   obtain ⟨D, hD⟩ : ∃ D, P ++ (U.take (k + 1) ++ y :: (U.drop (k + 1) ++ Q)) = D := ⟨_, rfl⟩
   rw [hD] at hdx hdy hst ⊢
   rw [show a + (k + 1) = a + k + 1 by omega]
   have hdx2 : (D.set (a + k + 1) x)[a + k]? = some x := by rw [List.getElem?_set_ne (by omega)]; exact hdx
   obtain ⟨q0, q1, q2⟩ := sh_at hdx
   obtain ⟨r0, r1, r2⟩ := sh_at hdy
   repeat' (first | ((with_reducible apply oq_subE (k := ((a + k : Nat) : Int))); exact rfl; exact rfl; omega) | (focus ((with_reducible apply oq_indexAddrN); (iterate 4 exact rfl); omega)) | ((with_reducible apply oq_gtrT); exact rfl; exact rfl; omega) | (apply oq_fn; exact rfl; try first | exact trivial | (and_intros <;> omega)) | ((with_reducible apply oq_loadAgg); exact rfl; exact rfl) | (with_reducible apply tl_nil) | ((with_reducible apply u_q); (iterate 4 exact rfl)) | (with_reducible apply v_nil) | ((with_reducible apply v_q); (iterate 3 exact rfl)) | ((with_reducible apply (os_storeSh x hdy rfl)); (iterate 3 exact rfl); (repeat (first | exact P0 | apply P1))) | ((with_reducible apply (os_storeSh y hdx2 hst)); (iterate 3 exact rfl); (repeat (first | exact P0 | apply P1))) | ((with_reducible apply ai_q); (iterate 5 exact rfl)) | ((with_reducible apply ai_n0); (iterate 3 exact rfl)) | ((with_reducible apply al_keep); focus (repeat (first | exact HpSub.refl _ | (apply HpSub.cons; (repeat (first | exact P0 | apply P1))) | apply HpSub.skipX | exact HpSub.nil))) | (apply Rd.own; (repeat (first | exact P0 | apply P1)); with_reducible (first | exact q0 | exact q1 | exact q2 | exact r0 | exact r1 | exact r2); done) | (apply t_mixZ (id := 23) [0, 1, 2, 3, 4, 5, 6, 7, 8, 10, 11, 12] 6; kernel_rfl; kernel_rfl; exact rfl) | (with_reducible apply t_seq) | (apply t_region; kernel_rfl) | ((with_reducible apply t_condT); exact rfl) | (with_reducible apply t_skip) | (with_reducible apply t_block) | with_reducible apply q_thenN | with_reducible apply q_blockN | exact Rdn.zero | apply Rdn.succ | (apply al_done; decide +kernel) | (apply al_one 9; decide +kernel) | (apply al_one 13; decide +kernel) | (apply al_one 14; decide +kernel) | (apply al_one 15; decide +kernel) | (apply al_one 16; decide +kernel) | (apply al_one 17; decide +kernel) | (apply al_two 9 13; decide +kernel))
   all_goals (refine ⟨k, (by omega), (by omega), ?_, ?_⟩ <;> (try simp only [List.cons_append, List.nil_append]) <;> (repeat' (first | exact FrSub.nil | (apply FrSub.cons; exact rfl) | exact HpSub.refl _)))
  ·obtain rfl : q = i := by omega
   repeat' (first | ((with_reducible apply oq_gtrF); exact rfl; exact rfl; omega) | (apply oq_fn; exact rfl; try first | exact trivial | (and_intros <;> omega)) | (with_reducible apply tl_nil) | ((with_reducible apply u_q); (iterate 4 exact rfl)) | (with_reducible apply t_seq) | (apply t_region; kernel_rfl) | ((with_reducible apply t_condF); exact rfl) | (with_reducible apply t_ret) | (with_reducible apply t_exit) | with_reducible apply q_thenN | with_reducible apply q_thenR | with_reducible apply q_thenE | ((with_reducible apply q_blockE); exact rfl) | (with_reducible apply end_ret) | exact rvs_nil)
   all_goals exact ⟨rfl, by (repeat (first | exact HpSub.refl _ | (apply HpSub.consE; (repeat (first | exact P0 | apply P1)); exact rfl) | exact HpSub.nil))⟩
theorem sym_W : ∀ (s : Nat) (g cp n a m b : Nat) (P U V Q : List Sh) (w : World), U.length + V.length = s → Blk w g (shB (P ++ (U ++ (V ++ Q)))) (some (101, 3, cp)) → Srt ltS U → Srt ltS V → 0 < U.length → 0 < V.length → P.length = a → a + U.length = m → m + V.length = b → (P ++ (U ++ (V ++ Q))).length = n → n ≤ 1000000 →
  Calls Try.prog 139 #[.slice (some ⟨g, 0, none⟩) n cp, .int .i64 (a : Nat), .int .i64 (m : Nat), .int .i64 (b : Nat), .func (.func 111) #[] #[]] w fun e w' => e = .returned (.tuple #[]) ∧ ExtM [g] w w' ∧ Blk w' g (shB (P ++ (mrg ltS U V ++ Q))) (some (101, 3, cp)) := by
 intro s
 induction s using Nat.strongRecOn with
 | _ s ih =>
 intro g cp n a m b P U V Q w hs hB hU hV hU0 hV0 ha hm hb hn hn1
 by_cases hU1 : U.length = 1
 ·obtain ⟨x, rfl⟩ : ∃ x, U = [x] := List.length_eq_one_iff.1 hU1
  exact sym1_W g cp n a m b x P V Q w hB hV ha (by simpa using hm) hb hn hn1
 by_cases hV1 : V.length = 1
 ·obtain ⟨y, rfl⟩ : ∃ y, V = [y] := List.length_eq_one_iff.1 hV1
  exact sym2_W g cp n a m b y P U Q w hB hU hU1 ha hm (by simpa using hb) hn hn1
 have hn0 := hn
 simp only [List.length_append] at hn
 obtain ⟨h, hh⟩ : ∃ h, h = (U.length + V.length) / 2 := ⟨_, rfl⟩
 refine enterW (c := cxM [g] w 220) Try.func139 rfl rfl rfl rfl hB ?_
 refine t_cut (ι := Unit) (fun _ => [(0, .slice (some ⟨g, 0, none⟩) n cp), (1, .int .i64 (a : Nat)), (2, .int .i64 (m : Nat)), (3, .int .i64 (b : Nat)), (4, .func (.func 111) #[] #[])]) (fun _ => [(g, shB (P ++ (U ++ (V ++ Q))), some (101, 3, cp))]) (fun _ => True) ?_ ?_
 ·repeat' (first | ((with_reducible apply oq_subE (k := ((m - a : Nat) : Int))); exact rfl; exact rfl; omega) | ((with_reducible apply oq_eqlF); exact rfl; exact rfl; omega) | (apply oq_fn; exact rfl; try first | exact trivial | (and_intros <;> omega)) | (with_reducible apply tl_nil) | ((with_reducible apply u_q); (iterate 4 exact rfl)) | (with_reducible apply t_seq) | (apply t_region; kernel_rfl) | ((with_reducible apply t_condF); exact rfl) | (with_reducible apply t_skip) | with_reducible apply q_thenN)
  all_goals exact ⟨rfl, (), trivial, by (repeat (first | exact FrSub.nil | (apply FrSub.cons; exact rfl))), by (repeat (first | exact HpSub.refl _ | (apply HpSub.consE; (repeat (first | exact P0 | apply P1)); exact rfl) | exact HpSub.nil))⟩
 rintro ⟨⟩ -
 refine t_cut (ι := Unit) (fun _ => [(0, .slice (some ⟨g, 0, none⟩) n cp), (1, .int .i64 (a : Nat)), (2, .int .i64 (m : Nat)), (3, .int .i64 (b : Nat)), (4, .func (.func 111) #[] #[])]) (fun _ => [(g, shB (P ++ (U ++ (V ++ Q))), some (101, 3, cp))]) (fun _ => True) ?_ ?_
 ·repeat' (first | ((with_reducible apply oq_subE (k := ((b - m : Nat) : Int))); exact rfl; exact rfl; omega) | ((with_reducible apply oq_eqlF); exact rfl; exact rfl; omega) | (apply oq_fn; exact rfl; try first | exact trivial | (and_intros <;> omega)) | (with_reducible apply tl_nil) | ((with_reducible apply u_q); (iterate 4 exact rfl)) | (with_reducible apply t_seq) | (apply t_region; kernel_rfl) | ((with_reducible apply t_condF); exact rfl) | (with_reducible apply t_skip) | with_reducible apply q_thenN)
  all_goals exact ⟨rfl, (), trivial, by (repeat (first | exact FrSub.nil | (apply FrSub.cons; exact rfl))), by (repeat (first | exact HpSub.refl _ | (apply HpSub.consE; (repeat (first | exact P0 | apply P1)); exact rfl) | exact HpSub.nil))⟩
 rintro ⟨⟩ -
 refine t_cut (ι := Unit) (fun _ => [(0, .slice (some ⟨g, 0, none⟩) n cp), (1, .int .i64 (a : Nat)), (2, .int .i64 (m : Nat)), (3, .int .i64 (b : Nat)), (4, .func (.func 111) #[] #[]), (18, .int .i64 (a + h : Nat))]) (fun _ => [(g, shB (P ++ (U ++ (V ++ Q))), some (101, 3, cp))]) (fun _ => True) ?_ ?_
 ·repeat' (first | ((with_reducible apply oq_addE (k := ((a + b : Nat) : Int))); exact rfl; exact rfl; omega) | (focus ((with_reducible apply (oq_shrE (a := a + b) (r := a + h))); exact rfl; exact rfl; omega; omega)) | (focus ((with_reducible apply oq_convU); (iterate 3 exact rfl); (refine ⟨?_, ?_⟩ <;> omega))) | (apply oq_fn; exact rfl; try first | exact trivial | (and_intros <;> omega)) | (with_reducible apply tl_nil) | ((with_reducible apply u_q); (iterate 4 exact rfl)) | (apply t_region; kernel_rfl))
  all_goals exact ⟨rfl, (), trivial, by (repeat (first | exact FrSub.nil | (apply FrSub.cons; exact rfl))), by (repeat (first | exact HpSub.refl _ | (apply HpSub.consE; (repeat (first | exact P0 | apply P1)); exact rfl) | exact HpSub.nil))⟩
 rintro ⟨⟩ -
 refine t_cut (ι := Unit) (fun _ => [(0, .slice (some ⟨g, 0, none⟩) n cp), (1, .int .i64 (a : Nat)), (2, .int .i64 (m : Nat)), (3, .int .i64 (b : Nat)), (4, .func (.func 111) #[] #[]), (18, .int .i64 (a + h : Nat)), (19, .int .i64 (a + h + m : Nat))]) (fun _ => [(g, shB (P ++ (U ++ (V ++ Q))), some (101, 3, cp))]) (fun _ => True) ?_ ?_
 ·repeat' (first | ((with_reducible apply oq_addE (k := ((a + h + m : Nat) : Int))); exact rfl; exact rfl; omega) | (apply oq_fn; exact rfl; try first | exact trivial | (and_intros <;> omega)) | (with_reducible apply tl_nil) | ((with_reducible apply u_q); (iterate 4 exact rfl)) | (apply t_region; kernel_rfl))
  all_goals exact ⟨rfl, (), trivial, by (repeat (first | exact FrSub.nil | (apply FrSub.cons; exact rfl))), by (repeat (first | exact HpSub.refl _ | (apply HpSub.consE; (repeat (first | exact P0 | apply P1)); exact rfl) | exact HpSub.nil))⟩
 rintro ⟨⟩ -
 refine t_cut (ι := Unit) (fun _ => [(0, .slice (some ⟨g, 0, none⟩) n cp), (1, .int .i64 (a : Nat)), (2, .int .i64 (m : Nat)), (3, .int .i64 (b : Nat)), (4, .func (.func 111) #[] #[]), (18, .int .i64 (a + h : Nat)), (19, .int .i64 (a + h + m : Nat))]) (fun _ => [(g, shB (P ++ (U ++ (V ++ Q))), some (101, 3, cp))]) (fun _ => True) ?_ ?_
 ·repeat' (first | (apply oq_fn; exact rfl; try first | exact trivial | (and_intros <;> omega)) | (with_reducible apply tl_nil) | ((with_reducible apply u_q); (iterate 4 exact rfl)) | (apply t_region; kernel_rfl))
  all_goals exact ⟨rfl, (), trivial, by (repeat (first | exact FrSub.nil | (apply FrSub.cons; exact rfl))), by (repeat (first | exact HpSub.refl _ | (apply HpSub.consE; (repeat (first | exact P0 | apply P1)); exact rfl) | exact HpSub.nil))⟩
 rintro ⟨⟩ -
 obtain ⟨lo, hi, hlo, hhi, hlh, hhU, hhh, hh3, hcase⟩ : ∃ lo hi : Nat, (lo = 0 ∨ V.length + lo = h) ∧ (hi = h ∨ hi = U.length) ∧ lo ≤ hi ∧ hi ≤ U.length ∧ hi ≤ h ∧ h ≤ V.length + lo ∧ ((h < U.length ∧ V.length + lo = h ∧ hi = h) ∨ (U.length ≤ h ∧ lo = 0 ∧ hi = U.length)) := by
  by_cases hc : h < U.length
  ·exact ⟨h - V.length, h, by omega, by omega, by omega, by omega, by omega, by omega, by omega⟩
  ·exact ⟨0, U.length, by omega, by omega, by omega, by omega, by omega, by omega, by omega⟩
 refine t_cut (ι := Unit) (fun _ => [(0, .slice (some ⟨g, 0, none⟩) n cp), (1, .int .i64 (a : Nat)), (2, .int .i64 (m : Nat)), (3, .int .i64 (b : Nat)), (4, .func (.func 111) #[] #[]), (18, .int .i64 (a + h : Nat)), (19, .int .i64 (a + h + m : Nat)), (20, .int .i64 (a + lo : Nat)), (21, .int .i64 (a + hi : Nat))]) (fun _ => [(g, shB (P ++ (U ++ (V ++ Q))), some (101, 3, cp))]) (fun _ => True) ?_ ?_
 ·rcases hcase with ⟨c1, c2, c3⟩ | ⟨c1, c2, c3⟩
  ·repeat' (first | ((with_reducible apply oq_subE (k := ((a + lo : Nat) : Int))); exact rfl; exact rfl; omega) | ((with_reducible apply oq_gtrT); exact rfl; exact rfl; omega) | (apply oq_fn; exact rfl; try first | exact trivial | (and_intros <;> omega)) | (with_reducible apply tl_nil) | ((with_reducible apply u_q); (iterate 4 exact rfl)) | (with_reducible apply t_seq) | (apply t_region; kernel_rfl) | ((with_reducible apply t_condT); exact rfl) | with_reducible apply q_thenN)
   all_goals exact ⟨rfl, (), trivial, by (repeat (first | exact FrSub.nil | (apply FrSub.cons; exact rfl) | (apply FrSub.consE; exact rfl; (congr 2; first | omega | (simp only; omega))))), by (repeat (first | exact HpSub.refl _ | (apply HpSub.consE; (repeat (first | exact P0 | apply P1)); exact rfl) | exact HpSub.nil))⟩
  ·repeat' (first | ((with_reducible apply oq_gtrF); exact rfl; exact rfl; omega) | (apply oq_fn; exact rfl; try first | exact trivial | (and_intros <;> omega)) | (with_reducible apply tl_nil) | ((with_reducible apply u_q); (iterate 4 exact rfl)) | (with_reducible apply t_seq) | (apply t_region; kernel_rfl) | ((with_reducible apply t_condF); exact rfl) | with_reducible apply q_thenN)
   all_goals exact ⟨rfl, (), trivial, by (repeat (first | exact FrSub.nil | (apply FrSub.cons; exact rfl) | (apply FrSub.consE; exact rfl; (congr 2; first | omega | (simp only; omega))))), by (repeat (first | exact HpSub.refl _ | (apply HpSub.consE; (repeat (first | exact P0 | apply P1)); exact rfl) | exact HpSub.nil))⟩
 rintro ⟨⟩ -
 refine t_cut (ι := Unit) (fun _ => [(0, .slice (some ⟨g, 0, none⟩) n cp), (1, .int .i64 (a : Nat)), (2, .int .i64 (m : Nat)), (3, .int .i64 (b : Nat)), (4, .func (.func 111) #[] #[]), (18, .int .i64 (a + h : Nat)), (19, .int .i64 (a + h + m : Nat)), (20, .int .i64 (a + lo : Nat)), (21, .int .i64 (a + hi : Nat)), (22, .int .i64 (a + h + m - 1 : Nat))]) (fun _ => [(g, shB (P ++ (U ++ (V ++ Q))), some (101, 3, cp))]) (fun _ => True) ?_ ?_
 ·repeat' (first | ((with_reducible apply oq_subE (k := ((a + h + m - 1 : Nat) : Int))); exact rfl; exact rfl; omega) | (apply oq_fn; exact rfl; try first | exact trivial | (and_intros <;> omega)) | (with_reducible apply tl_nil) | ((with_reducible apply u_q); (iterate 4 exact rfl)) | (apply t_region; kernel_rfl))
  all_goals exact ⟨rfl, (), trivial, by (repeat (first | exact FrSub.nil | (apply FrSub.cons; exact rfl))), by (repeat (first | exact HpSub.refl _ | (apply HpSub.consE; (repeat (first | exact P0 | apply P1)); exact rfl) | exact HpSub.nil))⟩
 rintro ⟨⟩ -
 refine t_cut (ι := Nat) (fun i => [(0, .slice (some ⟨g, 0, none⟩) n cp), (1, .int .i64 (a : Nat)), (2, .int .i64 (m : Nat)), (3, .int .i64 (b : Nat)), (4, .func (.func 111) #[] #[]), (18, .int .i64 (a + h : Nat)), (19, .int .i64 (a + h + m : Nat)), (20, .int .i64 (a + i : Nat))]) (fun _ => [(g, shB (P ++ (U ++ (V ++ Q))), some (101, 3, cp))]) (fun i => lo ≤ i ∧ i ≤ hi ∧ mrg ltS U V = mrg ltS (U.take i) (V.take (h - i)) ++ mrg ltS (U.drop i) (V.drop (h - i))) ?_ ?_
 ·repeat' (first | (with_reducible apply t_block))
  apply t_loopK (ι := Nat × Nat) [0, 1, 2, 3, 4, 18, 19, 22] (fun z => [(20, .int .i64 ((a + z.1 : Nat) : Int)), (21, .int .i64 ((a + z.2 : Nat) : Int))]) (fun _ => [(g, shB (P ++ (U ++ (V ++ Q))), some (101, 3, cp))]) (fun z => lo ≤ z.1 ∧ z.1 ≤ z.2 ∧ z.2 ≤ hi ∧ (z.1 = lo ∨ ∃ x y, U[z.1 - 1]? = some x ∧ V[h - z.1]? = some y ∧ ltS y x = false) ∧ (z.2 = hi ∨ ∃ x y, U[z.2]? = some x ∧ V[h - 1 - z.2]? = some y ∧ ltS y x = true)) (fun z => z.2 - z.1) ((lo, hi))
  (repeat (first | exact KeepF.nil | (apply KeepF.cons; exact rfl) | apply KeepF.skip))
  (repeat (first | exact FrSub.nil | (apply FrSub.cons; exact rfl) | (apply FrSub.consE; exact rfl; (congr 2; first | omega | (simp only; omega)))))
  (repeat (first | exact HpSub.refl _ | (apply HpSub.consE; (repeat (first | exact P0 | apply P1)); exact rfl) | exact HpSub.nil))
  ·exact ⟨Nat.le_refl _, hlh, Nat.le_refl _, .inl rfl, .inl rfl⟩
  rintro ⟨i, j⟩ ⟨h0, h1, h2, h3, h4⟩
  simp only at h0 h1 h2 h3 h4
  try dsimp only
  by_cases hij : i < j
  ·obtain ⟨q, hq⟩ : ∃ q, q = (i + j) / 2 := ⟨_, rfl⟩
   obtain ⟨x, hx⟩ : ∃ x, U[q]? = some x := ⟨_, List.getElem?_eq_getElem (by omega)⟩
   obtain ⟨y, hy⟩ : ∃ y, V[h - 1 - q]? = some y := ⟨_, List.getElem?_eq_getElem (by omega)⟩
   have hdx : (P ++ (U ++ (V ++ Q)))[a + q]? = some x := get_seg ha hx
   have hdy : (P ++ (U ++ (V ++ Q)))[m + (h - 1 - q)]? = some y := get_seg2 (by omega) hy
   obtain ⟨D, hD⟩ : ∃ D, P ++ (U ++ (V ++ Q)) = D := ⟨_, rfl⟩
   rw [hD] at hdx hdy ⊢
   obtain ⟨q0, q1, q2⟩ := sh_at hdx
   obtain ⟨r0, r1, r2⟩ := sh_at hdy
   have HC := fun w1 => byPerson_calls y.who y.fr y.to x.who x.fr x.to w1
   obtain ⟨o, ho⟩ : ∃ o, byP y.who y.fr x.who x.fr = o := ⟨_, rfl⟩
   rw [ho] at HC
   cases hc : ltS y x with
   | true =>
    have HN : o < 0 := by rw [← ho]; exact byP_neg.2 hc
    repeat' (first | ((with_reducible apply oq_addE (k := ((a + i + (a + j) : Nat) : Int))); exact rfl; exact rfl; omega) | (focus ((with_reducible apply (oq_shrE (a := a + i + (a + j)) (r := a + q))); exact rfl; exact rfl; omega; omega)) | ((with_reducible apply oq_subE (k := ((m + (h - 1 - q) : Nat) : Int))); exact rfl; exact rfl; omega) | (focus ((with_reducible apply oq_convU); (iterate 3 exact rfl); (refine ⟨?_, ?_⟩ <;> omega))) | (focus ((with_reducible apply oq_indexAddrN); (iterate 4 exact rfl); omega)) | ((with_reducible apply oq_lssT); exact rfl; exact rfl; omega) | (apply oq_fn; exact rfl; try first | exact trivial | (and_intros <;> omega)) | ((with_reducible apply oq_loadAgg); exact rfl; exact rfl) | ((with_reducible apply oq_call (k := 111) (hc := Try.call111)); exact rfl; exact rfl; exact fun D w1 hw1 => HC w1) | (with_reducible apply tl_nil) | ((with_reducible apply u_q); (iterate 4 exact rfl)) | (with_reducible apply v_nil) | ((with_reducible apply v_q); (iterate 3 exact rfl)) | (apply Rd.own; (repeat (first | exact P0 | apply P1)); with_reducible (first | exact q0 | exact q1 | exact q2 | exact r0 | exact r1 | exact r2); done) | (with_reducible apply t_seq) | (apply t_region; kernel_rfl) | (apply t_drawn; kernel_rfl; decide +kernel; try simp only [List.append_eq, List.cons_append, List.nil_append]) | ((with_reducible apply t_condT); exact rfl) | ((with_reducible apply t_condF); exact rfl) | (with_reducible apply t_skip) | (with_reducible apply t_block) | with_reducible apply q_thenN | with_reducible apply q_blockN | exact Rdn.zero | apply Rdn.succ)
    all_goals (refine ⟨(i, q), (by refine ⟨h0, (by simp only; omega), (by simp only; omega), h3, .inr ⟨x, y, hx, hy, hc⟩⟩), (by simp only; omega), ?_, ?_⟩ <;> (try simp only [List.cons_append, List.nil_append]) <;> (repeat' (first | exact FrSub.nil | (apply FrSub.cons; exact rfl) | exact HpSub.refl _)))
   | false =>
    have HN : ¬ o < 0 := by rw [← ho]; intro h; rw [byP_neg, hc] at h; cases h
    repeat' (first | ((with_reducible apply oq_addE (k := ((a + i + (a + j) : Nat) : Int))); exact rfl; exact rfl; omega) | ((with_reducible apply oq_addE (k := ((a + (q + 1) : Nat) : Int))); exact rfl; exact rfl; omega) | (focus ((with_reducible apply (oq_shrE (a := a + i + (a + j)) (r := a + q))); exact rfl; exact rfl; omega; omega)) | ((with_reducible apply oq_subE (k := ((m + (h - 1 - q) : Nat) : Int))); exact rfl; exact rfl; omega) | (focus ((with_reducible apply oq_convU); (iterate 3 exact rfl); (refine ⟨?_, ?_⟩ <;> omega))) | (focus ((with_reducible apply oq_indexAddrN); (iterate 4 exact rfl); omega)) | ((with_reducible apply oq_lssT); exact rfl; exact rfl; omega) | ((with_reducible apply oq_lssF); exact rfl; exact rfl; omega) | (apply oq_fn; exact rfl; try first | exact trivial | (and_intros <;> omega)) | ((with_reducible apply oq_loadAgg); exact rfl; exact rfl) | ((with_reducible apply oq_call (k := 111) (hc := Try.call111)); exact rfl; exact rfl; exact fun D w1 hw1 => HC w1) | (with_reducible apply tl_nil) | ((with_reducible apply u_q); (iterate 4 exact rfl)) | (with_reducible apply v_nil) | ((with_reducible apply v_q); (iterate 3 exact rfl)) | (apply Rd.own; (repeat (first | exact P0 | apply P1)); with_reducible (first | exact q0 | exact q1 | exact q2 | exact r0 | exact r1 | exact r2); done) | (with_reducible apply t_seq) | (apply t_region; kernel_rfl) | (apply t_drawn; kernel_rfl; decide +kernel; try simp only [List.append_eq, List.cons_append, List.nil_append]) | ((with_reducible apply t_condT); exact rfl) | (with_reducible apply t_skip) | (with_reducible apply t_block) | with_reducible apply q_thenN | with_reducible apply q_blockN | exact Rdn.zero | apply Rdn.succ)
    all_goals (refine ⟨(q + 1, j), (by refine ⟨(by simp only; omega), (by simp only; omega), h2, .inr ⟨x, y, (by simpa using hx), (by rw [show h - (q + 1) = h - 1 - q by omega]; exact hy), hc⟩, h4⟩), (by simp only; omega), ?_, ?_⟩ <;> (try simp only [List.cons_append, List.nil_append]) <;> (repeat' (first | exact FrSub.nil | (apply FrSub.cons; exact rfl) | exact HpSub.refl _)))
  ·obtain rfl : i = j := by omega
   repeat' (first | ((with_reducible apply oq_lssF); exact rfl; exact rfl; omega) | (apply oq_fn; exact rfl; try first | exact trivial | (and_intros <;> omega)) | (with_reducible apply tl_nil) | ((with_reducible apply u_q); (iterate 4 exact rfl)) | (with_reducible apply t_seq) | (apply t_region; kernel_rfl) | ((with_reducible apply t_condF); exact rfl) | (with_reducible apply t_exit) | with_reducible apply q_thenN | with_reducible apply q_thenE | ((with_reducible apply q_blockE); exact rfl))
   all_goals exact ⟨rfl, i, ⟨h0, h2, sym_pick woS hU hV h0 h2 hlo hhi hhU hhh hh3 h3 h4⟩, by (repeat (first | exact FrSub.nil | (apply FrSub.cons; exact rfl))), by (repeat (first | exact HpSub.refl _ | (apply HpSub.consE; (repeat (first | exact P0 | apply P1)); exact rfl) | exact HpSub.nil))⟩
 rintro i ⟨h0, h2, hmrg⟩
 have lu : (U.take i).length = i := by simp; omega
 have lu' : (U.drop i).length = U.length - i := by simp
 have lv : (V.take (h - i)).length = h - i := by simp; omega
 have lv' : (V.drop (h - i)).length = V.length - (h - i) := by simp
 have eU := List.take_append_drop i U
 have eV := List.take_append_drop (h - i) V
 have sU : Srt ltS (U.take i ++ U.drop i) := by rw [eU]; exact hU
 have sV : Srt ltS (V.take (h - i) ++ V.drop (h - i)) := by rw [eV]; exact hV
 obtain ⟨sU1, sU2, _⟩ := List.pairwise_append.1 sU
 obtain ⟨sV1, sV2, _⟩ := List.pairwise_append.1 sV
 rw [hmrg]
 generalize U.take i = U1 at *
 generalize U.drop i = U2 at *
 generalize V.take (h - i) = V1 at *
 generalize V.drop (h - i) = V2 at *
 rw [← eU, ← eV] at hn0 ⊢
 clear hmrg
 have ml := mrg_len (lt := ltS) U1 V1
 simp only [List.append_assoc] at hn0 ⊢
 have hn2 := hn0
 simp only [List.length_append] at hn2
 refine t_cut (ι := Unit) (fun _ => [(0, .slice (some ⟨g, 0, none⟩) n cp), (1, .int .i64 (a : Nat)), (2, .int .i64 (m : Nat)), (3, .int .i64 (b : Nat)), (4, .func (.func 111) #[] #[]), (18, .int .i64 (a + h : Nat)), (20, .int .i64 (a + i : Nat)), (24, .int .i64 (m + (h - i) : Nat))]) (fun _ => [(g, shB (P ++ (U1 ++ (U2 ++ (V1 ++ (V2 ++ Q))))), some (101, 3, cp))]) (fun _ => True) ?_ ?_
 ·repeat' (first | ((with_reducible apply oq_subE (k := ((m + (h - i) : Nat) : Int))); exact rfl; exact rfl; omega) | (apply oq_fn; exact rfl; try first | exact trivial | (and_intros <;> omega)) | (with_reducible apply tl_nil) | ((with_reducible apply u_q); (iterate 4 exact rfl)) | (apply t_region; kernel_rfl))
  all_goals exact ⟨rfl, (), trivial, by (repeat (first | exact FrSub.nil | (apply FrSub.cons; exact rfl))), by (repeat (first | exact HpSub.refl _ | (apply HpSub.consE; (repeat (first | exact P0 | apply P1)); exact rfl) | exact HpSub.nil))⟩
 rintro ⟨⟩ -
 refine t_cut (ι := Unit) (fun _ => [(0, .slice (some ⟨g, 0, none⟩) n cp), (1, .int .i64 (a : Nat)), (2, .int .i64 (m : Nat)), (3, .int .i64 (b : Nat)), (4, .func (.func 111) #[] #[]), (18, .int .i64 (a + h : Nat)), (20, .int .i64 (a + i : Nat)), (24, .int .i64 (m + (h - i) : Nat))]) (fun _ => [(g, shB (P ++ (U1 ++ (V1 ++ (U2 ++ (V2 ++ Q))))), some (101, 3, cp))]) (fun _ => True) ?_ ?_
 ·by_cases hz : 0 < U2.length ∧ 0 < V1.length
  ·obtain ⟨z1, z2⟩ := hz
   have hB1 : (P ++ U1) ++ (U2 ++ (V1 ++ (V2 ++ Q))) = P ++ (U1 ++ (U2 ++ (V1 ++ (V2 ++ Q)))) := by simp only [List.append_assoc]
   rw [← hB1] at hn0 ⊢
   repeat' (first | ((with_reducible apply oq_lssT); exact rfl; exact rfl; omega) | (apply oq_fn; exact rfl; try first | exact trivial | (and_intros <;> omega)) | (with_reducible apply tl_nil) | ((with_reducible apply u_s); (iterate 3 exact rfl); (with_reducible apply os_callW (b := g) (k := 140) (hc := Try.call140)); exact rfl; exact rfl; (repeat (first | exact P0 | apply P1)); exact fun D w1 hw1 => rot_W g cp n (a + i) m (m + (h - i)) (P ++ U1) U2 V1 (V2 ++ Q) w1 (hw1.blkP (by (repeat (first | exact P0 | apply P1)))) z1 z2 (by simp only [List.length_append]; omega) (by omega) (by omega) hn0 hn1) | ((with_reducible apply u_q); (iterate 4 exact rfl)) | (with_reducible apply t_seq) | (apply t_region; kernel_rfl) | ((with_reducible apply t_condT); exact rfl) | with_reducible apply q_thenN)
   all_goals exact ⟨rfl, (), trivial, by (repeat (first | exact FrSub.nil | (apply FrSub.cons; exact rfl))), by (simp only [List.append_assoc]; (repeat (first | exact HpSub.refl _ | (apply HpSub.consE; (repeat (first | exact P0 | apply P1)); exact rfl) | exact HpSub.nil)))⟩
  ·have hsame : P ++ (U1 ++ (V1 ++ (U2 ++ (V2 ++ Q)))) = P ++ (U1 ++ (U2 ++ (V1 ++ (V2 ++ Q)))) := by
    by_cases z1 : 0 < U2.length
    ·rw [List.length_eq_zero_iff.1 (show V1.length = 0 by omega)]; rfl
    ·rw [List.length_eq_zero_iff.1 (show U2.length = 0 by omega)]; rfl
   rw [hsame]
   by_cases z1 : 0 < U2.length
   ·repeat' (first | ((with_reducible apply oq_lssT); exact rfl; exact rfl; omega) | ((with_reducible apply oq_lssF); exact rfl; exact rfl; omega) | (apply oq_fn; exact rfl; try first | exact trivial | (and_intros <;> omega)) | (with_reducible apply tl_nil) | ((with_reducible apply u_q); (iterate 4 exact rfl)) | (with_reducible apply t_seq) | (apply t_region; kernel_rfl) | ((with_reducible apply t_condF); exact rfl) | (with_reducible apply t_skip) | with_reducible apply q_thenN)
    all_goals exact ⟨rfl, (), trivial, by (repeat (first | exact FrSub.nil | (apply FrSub.cons; exact rfl))), by (repeat (first | exact HpSub.refl _ | (apply HpSub.consE; (repeat (first | exact P0 | apply P1)); exact rfl) | exact HpSub.nil))⟩
   ·repeat' (first | ((with_reducible apply oq_lssF); exact rfl; exact rfl; omega) | (apply oq_fn; exact rfl; try first | exact trivial | (and_intros <;> omega)) | (with_reducible apply tl_nil) | ((with_reducible apply u_q); (iterate 4 exact rfl)) | ((with_reducible apply u_skip); (iterate 3 exact rfl)) | (with_reducible apply t_seq) | (apply t_region; kernel_rfl) | ((with_reducible apply t_condF); exact rfl) | (with_reducible apply t_skip) | with_reducible apply q_thenN)
    all_goals exact ⟨rfl, (), trivial, by (repeat (first | exact FrSub.nil | (apply FrSub.cons; exact rfl))), by (repeat (first | exact HpSub.refl _ | (apply HpSub.consE; (repeat (first | exact P0 | apply P1)); exact rfl) | exact HpSub.nil))⟩
 rintro ⟨⟩ -
 refine t_cut (ι := Unit) (fun _ => [(0, .slice (some ⟨g, 0, none⟩) n cp), (1, .int .i64 (a : Nat)), (2, .int .i64 (m : Nat)), (3, .int .i64 (b : Nat)), (4, .func (.func 111) #[] #[]), (18, .int .i64 (a + h : Nat)), (20, .int .i64 (a + i : Nat)), (24, .int .i64 (m + (h - i) : Nat))]) (fun _ => [(g, shB (P ++ (mrg ltS U1 V1 ++ (U2 ++ (V2 ++ Q)))), some (101, 3, cp))]) (fun _ => True) ?_ ?_
 ·by_cases hz : 0 < U1.length ∧ 0 < V1.length
  ·obtain ⟨z1, z2⟩ := hz
   repeat' (first | ((with_reducible apply oq_lssT); exact rfl; exact rfl; omega) | (apply oq_fn; exact rfl; try first | exact trivial | (and_intros <;> omega)) | (with_reducible apply tl_nil) | ((with_reducible apply u_s); (iterate 3 exact rfl); (with_reducible apply os_callW (b := g) (k := 139) (hc := Try.call139)); exact rfl; exact rfl; (repeat (first | exact P0 | apply P1)); exact fun D w1 hw1 => ih (U1.length + V1.length) (by omega) g cp n a (a + i) (a + h) P U1 V1 (U2 ++ (V2 ++ Q)) w1 rfl (hw1.blkP (by (repeat (first | exact P0 | apply P1)))) sU1 sV1 z1 z2 ha (by omega) (by omega) (by simp only [List.length_append]; omega) hn1) | ((with_reducible apply u_q); (iterate 4 exact rfl)) | (with_reducible apply t_seq) | (apply t_region; kernel_rfl) | ((with_reducible apply t_condT); exact rfl) | with_reducible apply q_thenN)
   all_goals exact ⟨rfl, (), trivial, by (repeat (first | exact FrSub.nil | (apply FrSub.cons; exact rfl))), by (repeat (first | exact HpSub.refl _ | (apply HpSub.consE; (repeat (first | exact P0 | apply P1)); exact rfl) | exact HpSub.nil))⟩
  ·have hsame : P ++ (mrg ltS U1 V1 ++ (U2 ++ (V2 ++ Q))) = P ++ (U1 ++ (V1 ++ (U2 ++ (V2 ++ Q)))) := by
    by_cases z1 : 0 < U1.length
    ·rw [List.length_eq_zero_iff.1 (show V1.length = 0 by omega), mrg_right]; rfl
    ·rw [List.length_eq_zero_iff.1 (show U1.length = 0 by omega), mrg_nil]; rfl
   rw [hsame]
   by_cases z1 : 0 < U1.length
   ·repeat' (first | ((with_reducible apply oq_lssT); exact rfl; exact rfl; omega) | ((with_reducible apply oq_lssF); exact rfl; exact rfl; omega) | (apply oq_fn; exact rfl; try first | exact trivial | (and_intros <;> omega)) | (with_reducible apply tl_nil) | ((with_reducible apply u_q); (iterate 4 exact rfl)) | (with_reducible apply t_seq) | (apply t_region; kernel_rfl) | ((with_reducible apply t_condF); exact rfl) | (with_reducible apply t_skip) | with_reducible apply q_thenN)
    all_goals exact ⟨rfl, (), trivial, by (repeat (first | exact FrSub.nil | (apply FrSub.cons; exact rfl))), by (repeat (first | exact HpSub.refl _ | (apply HpSub.consE; (repeat (first | exact P0 | apply P1)); exact rfl) | exact HpSub.nil))⟩
   ·repeat' (first | ((with_reducible apply oq_lssF); exact rfl; exact rfl; omega) | (apply oq_fn; exact rfl; try first | exact trivial | (and_intros <;> omega)) | (with_reducible apply tl_nil) | ((with_reducible apply u_q); (iterate 4 exact rfl)) | ((with_reducible apply u_skip); (iterate 3 exact rfl)) | (with_reducible apply t_seq) | (apply t_region; kernel_rfl) | ((with_reducible apply t_condF); exact rfl) | (with_reducible apply t_skip) | with_reducible apply q_thenN)
    all_goals exact ⟨rfl, (), trivial, by (repeat (first | exact FrSub.nil | (apply FrSub.cons; exact rfl))), by (repeat (first | exact HpSub.refl _ | (apply HpSub.consE; (repeat (first | exact P0 | apply P1)); exact rfl) | exact HpSub.nil))⟩
 rintro ⟨⟩ -
 by_cases hz : 0 < U2.length ∧ 0 < V2.length
 ·obtain ⟨z1, z2⟩ := hz
  have hB1 : (P ++ mrg ltS U1 V1) ++ (U2 ++ (V2 ++ Q)) = P ++ (mrg ltS U1 V1 ++ (U2 ++ (V2 ++ Q))) := by simp only [List.append_assoc]
  rw [← hB1]
  repeat' (first | ((with_reducible apply oq_lssT); exact rfl; exact rfl; omega) | (apply oq_fn; exact rfl; try first | exact trivial | (and_intros <;> omega)) | (with_reducible apply tl_nil) | ((with_reducible apply u_s); (iterate 3 exact rfl); (with_reducible apply os_callW (b := g) (k := 139) (hc := Try.call139)); exact rfl; exact rfl; (repeat (first | exact P0 | apply P1)); exact fun D w1 hw1 => ih (U2.length + V2.length) (by omega) g cp n (a + h) (m + (h - i)) b (P ++ mrg ltS U1 V1) U2 V2 Q w1 rfl (hw1.blkP (by (repeat (first | exact P0 | apply P1)))) sU2 sV2 z1 z2 (by simp only [List.length_append]; omega) (by omega) (by omega) (by simp only [List.length_append]; omega) hn1) | ((with_reducible apply u_q); (iterate 4 exact rfl)) | (with_reducible apply t_seq) | (apply t_region; kernel_rfl) | ((with_reducible apply t_condT); exact rfl) | with_reducible apply q_thenN | (with_reducible apply end_normal) | exact rvs_nil)
  all_goals exact ⟨rfl, by (simp only [List.append_assoc]; (repeat (first | exact HpSub.refl _ | (apply HpSub.consE; (repeat (first | exact P0 | apply P1)); exact rfl) | exact HpSub.nil)))⟩
 ·have hsame : P ++ (mrg ltS U1 V1 ++ (mrg ltS U2 V2 ++ Q)) = P ++ (mrg ltS U1 V1 ++ (U2 ++ (V2 ++ Q))) := by
   by_cases z1 : 0 < U2.length
   ·rw [List.length_eq_zero_iff.1 (show V2.length = 0 by omega), mrg_right]; rfl
   ·rw [List.length_eq_zero_iff.1 (show U2.length = 0 by omega), mrg_nil]; rfl
  rw [hsame]
  by_cases z1 : 0 < U2.length
  ·repeat' (first | ((with_reducible apply oq_lssT); exact rfl; exact rfl; omega) | ((with_reducible apply oq_lssF); exact rfl; exact rfl; omega) | (apply oq_fn; exact rfl; try first | exact trivial | (and_intros <;> omega)) | (with_reducible apply tl_nil) | ((with_reducible apply u_q); (iterate 4 exact rfl)) | (with_reducible apply t_seq) | (apply t_region; kernel_rfl) | ((with_reducible apply t_condF); exact rfl) | (with_reducible apply t_skip) | with_reducible apply q_thenN | (with_reducible apply end_normal) | exact rvs_nil)
   all_goals exact ⟨rfl, by (repeat (first | exact HpSub.refl _ | (apply HpSub.consE; (repeat (first | exact P0 | apply P1)); exact rfl) | exact HpSub.nil))⟩
  ·repeat' (first | ((with_reducible apply oq_lssF); exact rfl; exact rfl; omega) | (apply oq_fn; exact rfl; try first | exact trivial | (and_intros <;> omega)) | (with_reducible apply tl_nil) | ((with_reducible apply u_q); (iterate 4 exact rfl)) | ((with_reducible apply u_skip); (iterate 3 exact rfl)) | (with_reducible apply t_seq) | (apply t_region; kernel_rfl) | ((with_reducible apply t_condF); exact rfl) | (with_reducible apply t_skip) | with_reducible apply q_thenN | (with_reducible apply end_normal) | exact rvs_nil)
   all_goals exact ⟨rfl, by (repeat (first | exact HpSub.refl _ | (apply HpSub.consE; (repeat (first | exact P0 | apply P1)); exact rfl) | exact HpSub.nil))⟩
theorem stable_W (g cp n : Nat) (L : List Sh) (w : World) (hB : Blk w g (shB L) (some (101, 3, cp))) (hn : L.length = n) (hn1 : n ≤ 1000000) :
  Calls Try.prog 136 #[.slice (some ⟨g, 0, none⟩) n cp, .int .i64 (n : Nat), .func (.func 111) #[] #[]] w fun e w' => e = .returned (.tuple #[]) ∧ ExtM [g] w w' ∧ Blk w' g (shB (srtS L)) (some (101, 3, cp)) := by
 refine enterW (c := cxM [g] w 63) Try.func136 rfl rfl rfl rfl hB ?_
 refine t_cut (ι := Unit) (fun _ => [(0, .slice (some ⟨g, 0, none⟩) n cp), (1, .int .i64 (n : Nat)), (2, .func (.func 111) #[] #[]), (6, .int .i64 20)]) (fun _ => [(g, shB (L), some (101, 3, cp))]) (fun _ => True) ?_ ?_
 ·repeat' (first | (apply oq_fn; exact rfl; try first | exact trivial | (and_intros <;> omega)) | (with_reducible apply tl_nil) | ((with_reducible apply u_q); (iterate 4 exact rfl)) | (apply t_region; kernel_rfl))
  all_goals exact ⟨rfl, (), trivial, by (repeat (first | exact FrSub.nil | (apply FrSub.cons; exact rfl))), by (repeat (first | exact HpSub.refl _ | (apply HpSub.consE; (repeat (first | exact P0 | apply P1)); exact rfl) | exact HpSub.nil))⟩
 rintro ⟨⟩ -
 refine t_cut (ι := Unit) (fun _ => [(0, .slice (some ⟨g, 0, none⟩) n cp), (1, .int .i64 (n : Nat)), (2, .func (.func 111) #[] #[]), (6, .int .i64 20), (7, .int .i64 0), (8, .int .i64 20)]) (fun _ => [(g, shB (L), some (101, 3, cp))]) (fun _ => True) ?_ ?_
 ·repeat' (first | (apply oq_fn; exact rfl; try first | exact trivial | (and_intros <;> omega)) | (with_reducible apply tl_nil) | ((with_reducible apply u_q); (iterate 4 exact rfl)) | (apply t_region; kernel_rfl))
  all_goals exact ⟨rfl, (), trivial, by (repeat (first | exact FrSub.nil | (apply FrSub.cons; exact rfl))), by (repeat (first | exact HpSub.refl _ | (apply HpSub.consE; (repeat (first | exact P0 | apply P1)); exact rfl) | exact HpSub.nil))⟩
 rintro ⟨⟩ -
 refine t_cut (ι := List Sh × List Sh × List Sh) (fun z => [(0, .slice (some ⟨g, 0, none⟩) n cp), (1, .int .i64 (n : Nat)), (2, .func (.func 111) #[] #[]), (6, .int .i64 20), (7, .int .i64 (z.1.length : Nat))]) (fun z => [(g, shB (z.2.1 ++ z.2.2), some (101, 3, cp))]) (fun z => Pf ltS 20 z.1 z.2.1 ∧ L = z.1 ++ z.2.2 ∧ z.2.2.length < 20) ?_ ?_
 ·repeat' (first | (with_reducible apply t_block))
  apply t_loopK (ι := List Sh × List Sh × List Sh) [0, 1, 2, 6] (fun z => [(7, .int .i64 (z.1.length : Nat)), (8, .int .i64 ((z.1.length + 20 : Nat) : Int))]) (fun z => [(g, shB (z.2.1 ++ z.2.2), some (101, 3, cp))]) (fun z => Pf ltS 20 z.1 z.2.1 ∧ L = z.1 ++ z.2.2) (fun z => z.2.2.length) (([], [], L))
  (repeat (first | exact KeepF.nil | (apply KeepF.cons; exact rfl) | apply KeepF.skip))
  (repeat (first | exact FrSub.nil | (apply FrSub.cons; exact rfl) | (apply FrSub.consE; exact rfl; (congr 2; first | omega | (simp only; omega) | (simp only [List.length_nil]; omega) | (simp only [List.length_append]; omega)))))
  (repeat (first | exact HpSub.refl _ | (apply HpSub.consE; (repeat (first | exact P0 | apply P1)); exact rfl) | exact HpSub.nil))
  ·exact ⟨Pf.zero, rfl⟩
  rintro ⟨A, P, R⟩ ⟨hP, hL⟩
  simp only at hP hL
  try dsimp only
  have hPl := hP.len
  have hLl : A.length + R.length = n := by rw [← hn, hL, List.length_append]
  by_cases hc : 20 ≤ R.length
  ·obtain ⟨B, R2, hB2, rfl⟩ : ∃ B R2, B.length = 20 ∧ R = B ++ R2 := ⟨R.take 20, R.drop 20, by simp; omega, (List.take_append_drop _ _).symm⟩
   simp only [List.length_append] at hLl hc
   repeat' (first | ((with_reducible apply oq_addE (k := ((A.length + 20 + 20 : Nat) : Int))); exact rfl; exact rfl; omega) | ((with_reducible apply oq_leqT); exact rfl; exact rfl; omega) | (apply oq_fn; exact rfl; try first | exact trivial | (and_intros <;> omega)) | (with_reducible apply tl_nil) | ((with_reducible apply u_s); (iterate 3 exact rfl); (with_reducible apply os_callW (b := g) (k := 138) (hc := Try.call138)); exact rfl; exact rfl; (repeat (first | exact P0 | apply P1)); exact fun D w1 hw1 => ins_W g cp n A.length (A.length + 20) P B R2 w1 (hw1.blkP (by (repeat (first | exact P0 | apply P1)))) hPl (by omega) (by simp only [List.length_append]; omega) hn1) | ((with_reducible apply u_q); (iterate 4 exact rfl)) | (with_reducible apply t_seq) | (apply t_region; kernel_rfl) | ((with_reducible apply t_condT); exact rfl) | (with_reducible apply t_skip) | (with_reducible apply t_block) | with_reducible apply q_thenN | with_reducible apply q_blockN)
   all_goals (refine ⟨(A ++ B, P ++ srtS B, R2), ⟨hP.snoc hB2, (by rw [hL, List.append_assoc])⟩, (by simp only [List.length_append]; omega), ?_, ?_⟩)
   all_goals first
    | ((try simp only [List.cons_append, List.nil_append]); (repeat (first | exact FrSub.nil | (apply FrSub.cons; exact rfl) | (apply FrSub.consE; exact rfl; (congr 2; first | omega | (simp only; omega) | (simp only [List.length_nil]; omega) | (simp only [List.length_append]; omega))))); done)
    | (simp only [List.append_assoc]; (try simp only [List.cons_append, List.nil_append]); (repeat (first | exact HpSub.refl _ | (apply HpSub.consE; (repeat (first | exact P0 | apply P1)); exact rfl) | exact HpSub.nil)); done)
  ·repeat' (first | ((with_reducible apply oq_leqF); exact rfl; exact rfl; omega) | (apply oq_fn; exact rfl; try first | exact trivial | (and_intros <;> omega)) | (with_reducible apply tl_nil) | ((with_reducible apply u_q); (iterate 4 exact rfl)) | (with_reducible apply t_seq) | (apply t_region; kernel_rfl) | ((with_reducible apply t_condF); exact rfl) | (with_reducible apply t_exit) | with_reducible apply q_thenN | with_reducible apply q_thenE | ((with_reducible apply q_blockE); exact rfl))
   all_goals exact ⟨rfl, (A, P, R), ⟨hP, hL, by simp only; omega⟩, by (repeat (first | exact FrSub.nil | (apply FrSub.cons; exact rfl))), by (repeat (first | exact HpSub.refl _ | (apply HpSub.consE; (repeat (first | exact P0 | apply P1)); exact rfl) | exact HpSub.nil))⟩
 rintro ⟨A, P, R⟩ ⟨hP, hL, hR⟩
 simp only at hP hL hR
 try dsimp only
 have hPl := hP.len
 have hLl : A.length + R.length = n := by rw [← hn, hL, List.length_append]
 refine t_cut (ι := List Sh) (fun D0 => [(0, .slice (some ⟨g, 0, none⟩) n cp), (1, .int .i64 (n : Nat)), (2, .func (.func 111) #[] #[]), (6, .int .i64 20)]) (fun D0 => [(g, shB (D0), some (101, 3, cp))]) (fun D0 => Bl ltS 20 L D0) ?_ ?_
 ·have hRn : P ++ R = P ++ (R ++ []) := by rw [List.append_nil]
  rw [hRn]
  repeat' (first | (apply oq_fn; exact rfl; try first | exact trivial | (and_intros <;> omega)) | (with_reducible apply tl_nil) | ((with_reducible apply u_s); (iterate 3 exact rfl); (with_reducible apply os_callW (b := g) (k := 138) (hc := Try.call138)); exact rfl; exact rfl; (repeat (first | exact P0 | apply P1)); exact fun D w1 hw1 => ins_W g cp n A.length n P R [] w1 (hw1.blkP (by (repeat (first | exact P0 | apply P1)))) hPl (by omega) (by simp only [List.length_append, List.length_nil]; omega) hn1) | ((with_reducible apply u_q); (iterate 4 exact rfl)) | (apply t_region; kernel_rfl))
  all_goals exact ⟨rfl, P ++ (srtS R ++ []), by (rw [hL, List.append_nil]; exact hP.bl (.last (by omega))), by (repeat (first | exact FrSub.nil | (apply FrSub.cons; exact rfl))), by (repeat (first | exact HpSub.refl _ | (apply HpSub.consE; (repeat (first | exact P0 | apply P1)); exact rfl) | exact HpSub.nil))⟩
 rintro D0 hD0
 try dsimp only
 clear hP hL hR hPl hLl A P R
 repeat' (first | (with_reducible apply t_block))
 apply t_loopK (ι := Nat × List Sh) [0, 1, 2] (fun z => [(6, .int .i64 (z.1 : Nat))]) (fun z => [(g, shB (z.2), some (101, 3, cp))]) (fun z => 20 ≤ z.1 ∧ z.1 ≤ 2000000 ∧ Bl ltS z.1 L z.2) (fun z => n - z.1) ((20, D0))
 (repeat (first | exact KeepF.nil | (apply KeepF.cons; exact rfl) | apply KeepF.skip))
 (repeat (first | exact FrSub.nil | (apply FrSub.cons; exact rfl) | (apply FrSub.consE; exact rfl; (congr 2; first | omega | (simp only; omega) | (simp only [List.length_nil]; omega) | (simp only [List.length_append]; omega)))))
 (repeat (first | exact HpSub.refl _ | (apply HpSub.consE; (repeat (first | exact P0 | apply P1)); exact rfl) | exact HpSub.nil))
 ·exact ⟨Nat.le_refl _, (by simp only; omega), hD0⟩
 rintro ⟨s, D⟩ ⟨hs1, hs2, hD⟩
 simp only at hs1 hs2 hD
 try dsimp only
 have hDl := hD.len
 by_cases hsn : s < n
 ·refine t_cut (ι := Unit) (fun _ => [(0, .slice (some ⟨g, 0, none⟩) n cp), (1, .int .i64 (n : Nat)), (2, .func (.func 111) #[] #[]), (6, .int .i64 (s : Nat))]) (fun _ => [(g, shB (D), some (101, 3, cp))]) (fun _ => True) ?_ ?_
  ·repeat' (first | ((with_reducible apply oq_lssT); exact rfl; exact rfl; omega) | (apply oq_fn; exact rfl; try first | exact trivial | (and_intros <;> omega)) | (with_reducible apply tl_nil) | ((with_reducible apply u_q); (iterate 4 exact rfl)) | (with_reducible apply t_seq) | (apply t_region; kernel_rfl) | ((with_reducible apply t_condT); exact rfl) | (with_reducible apply t_skip) | with_reducible apply q_thenN)
   all_goals exact ⟨rfl, (), trivial, by (repeat (first | exact FrSub.nil | (apply FrSub.cons; exact rfl))), by (repeat (first | exact HpSub.refl _ | (apply HpSub.consE; (repeat (first | exact P0 | apply P1)); exact rfl) | exact HpSub.nil))⟩
  rintro ⟨⟩ -
  refine t_block ?_
  refine t_cut (ι := Unit) (fun _ => [(0, .slice (some ⟨g, 0, none⟩) n cp), (1, .int .i64 (n : Nat)), (2, .func (.func 111) #[] #[]), (6, .int .i64 (s : Nat)), (7, .int .i64 0), (8, .int .i64 (2 * s : Nat))]) (fun _ => [(g, shB (D), some (101, 3, cp))]) (fun _ => True) ?_ ?_
  ·repeat' (first | (focus ((with_reducible apply (oq_mulE (k := ((2 * s : Nat) : Int)))); exact rfl; exact rfl; omega; omega)) | (apply oq_fn; exact rfl; try first | exact trivial | (and_intros <;> omega)) | (with_reducible apply tl_nil) | ((with_reducible apply u_q); (iterate 4 exact rfl)) | (apply t_region; kernel_rfl))
   all_goals exact ⟨rfl, (), trivial, by (repeat (first | exact FrSub.nil | (apply FrSub.cons; exact rfl))), by (repeat (first | exact HpSub.refl _ | (apply HpSub.consE; (repeat (first | exact P0 | apply P1)); exact rfl) | exact HpSub.nil))⟩
  rintro ⟨⟩ -
  refine t_cut (ι := List Sh × List Sh × List Sh × List Sh) (fun z => [(0, .slice (some ⟨g, 0, none⟩) n cp), (1, .int .i64 (n : Nat)), (2, .func (.func 111) #[] #[]), (6, .int .i64 (s : Nat)), (7, .int .i64 (z.1.length : Nat))]) (fun z => [(g, shB (z.2.1 ++ z.2.2.2), some (101, 3, cp))]) (fun z => Pf ltS (2 * s) z.1 z.2.1 ∧ Bl ltS s z.2.2.1 z.2.2.2 ∧ L = z.1 ++ z.2.2.1 ∧ z.2.2.1.length < 2 * s) ?_ ?_
  ·repeat' (first | (with_reducible apply t_block))
   apply t_loopK (ι := List Sh × List Sh × List Sh × List Sh) [0, 1, 2, 6] (fun z => [(7, .int .i64 (z.1.length : Nat)), (8, .int .i64 ((z.1.length + 2 * s : Nat) : Int))]) (fun z => [(g, shB (z.2.1 ++ z.2.2.2), some (101, 3, cp))]) (fun z => Pf ltS (2 * s) z.1 z.2.1 ∧ Bl ltS s z.2.2.1 z.2.2.2 ∧ L = z.1 ++ z.2.2.1) (fun z => z.2.2.1.length) (([], [], L, D))
   (repeat (first | exact KeepF.nil | (apply KeepF.cons; exact rfl) | apply KeepF.skip))
   (repeat (first | exact FrSub.nil | (apply FrSub.cons; exact rfl) | (apply FrSub.consE; exact rfl; (congr 2; first | omega | (simp only; omega) | (simp only [List.length_nil]; omega) | (simp only [List.length_append]; omega)))))
   (repeat (first | exact HpSub.refl _ | (apply HpSub.consE; (repeat (first | exact P0 | apply P1)); exact rfl) | exact HpSub.nil))
   ·exact ⟨Pf.zero, hD, rfl⟩
   rintro ⟨A, P, R, E⟩ ⟨hP, hE, hL⟩
   simp only at hP hE hL
   try dsimp only
   have hPl := hP.len
   have hLl : A.length + R.length = n := by rw [← hn, hL, List.length_append]
   by_cases hc : 2 * s ≤ R.length
   ·obtain ⟨B1, R1, E1, hB1, rfl, rfl, hE1⟩ := hE.split (by omega)
    simp only [List.length_append] at hLl hc
    obtain ⟨B2, R2, E2, hB2, rfl, rfl, hE2⟩ := hE1.split' (by omega)
    simp only [List.length_append] at hLl hc
    have el := hE2.len
    have sl1 : (srtS B1).length = s := by rw [srtS, srt_len, hB1]
    have sl2 : (srtS B2).length = s := by rw [srtS, srt_len, hB2]
    repeat' (first | ((with_reducible apply oq_addE (k := ((A.length + s : Nat) : Int))); exact rfl; exact rfl; omega) | (focus ((with_reducible apply (oq_mulE (k := ((2 * s : Nat) : Int)))); exact rfl; exact rfl; omega; omega)) | ((with_reducible apply oq_addE (k := ((A.length + 2 * s + 2 * s : Nat) : Int))); exact rfl; exact rfl; omega) | ((with_reducible apply oq_leqT); exact rfl; exact rfl; omega) | (apply oq_fn; exact rfl; try first | exact trivial | (and_intros <;> omega)) | (with_reducible apply tl_nil) | ((with_reducible apply u_s); (iterate 3 exact rfl); (with_reducible apply os_callW (b := g) (k := 139) (hc := Try.call139)); exact rfl; exact rfl; (repeat (first | exact P0 | apply P1)); exact fun D w1 hw1 => sym_W (2 * s) g cp n A.length (A.length + s) (A.length + 2 * s) P (srtS B1) (srtS B2) E2 w1 (by omega) (hw1.blkP (by (repeat (first | exact P0 | apply P1)))) (srt_srt woS _) (srt_srt woS _) (by omega) (by omega) hPl (by omega) (by omega) (by simp only [List.length_append]; omega) hn1) | ((with_reducible apply u_q); (iterate 4 exact rfl)) | (with_reducible apply t_seq) | (apply t_region; kernel_rfl) | ((with_reducible apply t_condT); exact rfl) | (with_reducible apply t_skip) | (with_reducible apply t_block) | with_reducible apply q_thenN | with_reducible apply q_blockN)
    all_goals (refine ⟨(A ++ (B1 ++ B2), P ++ srtS (B1 ++ B2), R2, E2), ⟨hP.snoc (by rw [List.length_append]; omega), hE2, (by rw [hL]; simp only [List.append_assoc])⟩, (by simp only [List.length_append]; omega), ?_, ?_⟩)
    all_goals first
     | ((try simp only [List.cons_append, List.nil_append]); (repeat (first | exact FrSub.nil | (apply FrSub.cons; exact rfl) | (apply FrSub.consE; exact rfl; (congr 2; first | omega | (simp only; omega) | (simp only [List.length_nil]; omega) | (simp only [List.length_append]; omega))))); done)
     | (rw [show mrg ltS (srtS B1) (srtS B2) = srtS (B1 ++ B2) from srt_app woS B1 B2]; simp only [List.append_assoc]; (try simp only [List.cons_append, List.nil_append]); (repeat (first | exact HpSub.refl _ | (apply HpSub.consE; (repeat (first | exact P0 | apply P1)); exact rfl) | exact HpSub.nil)); done)
   ·repeat' (first | ((with_reducible apply oq_leqF); exact rfl; exact rfl; omega) | (apply oq_fn; exact rfl; try first | exact trivial | (and_intros <;> omega)) | (with_reducible apply tl_nil) | ((with_reducible apply u_q); (iterate 4 exact rfl)) | (with_reducible apply t_seq) | (apply t_region; kernel_rfl) | ((with_reducible apply t_condF); exact rfl) | (with_reducible apply t_exit) | with_reducible apply q_thenN | with_reducible apply q_thenE | ((with_reducible apply q_blockE); exact rfl))
    all_goals exact ⟨rfl, (A, P, R, E), ⟨hP, hE, hL, by simp only; omega⟩, by (repeat (first | exact FrSub.nil | (apply FrSub.cons; exact rfl))), by (repeat (first | exact HpSub.refl _ | (apply HpSub.consE; (repeat (first | exact P0 | apply P1)); exact rfl) | exact HpSub.nil))⟩
  rintro ⟨A, P, R, E⟩ ⟨hP, hE, hL, hR⟩
  simp only at hP hE hL hR
  try dsimp only
  have hPl := hP.len
  have hLl : A.length + R.length = n := by rw [← hn, hL, List.length_append]
  refine t_cut (ι := List Sh) (fun D2 => [(0, .slice (some ⟨g, 0, none⟩) n cp), (1, .int .i64 (n : Nat)), (2, .func (.func 111) #[] #[]), (6, .int .i64 (s : Nat))]) (fun D2 => [(g, shB (D2), some (101, 3, cp))]) (fun D2 => Bl ltS (2 * s) L D2) ?_ ?_
  ·by_cases hc : s < R.length
   ·obtain ⟨B1, R1, E1, hB1, rfl, rfl, hE1⟩ := hE.split hc
    simp only [List.length_append] at hLl hc hR
    obtain rfl := hE1.small (by omega)
    have sl1 : (srtS B1).length = s := by rw [srtS, srt_len, hB1]
    have sl2 : (srtS R1).length = R1.length := by rw [srtS, srt_len]
    have hRn : P ++ (srtS B1 ++ srt ltS R1) = P ++ (srtS B1 ++ (srtS R1 ++ [])) := by rw [List.append_nil]
    rw [hRn]
    repeat' (first | ((with_reducible apply oq_addE (k := ((A.length + s : Nat) : Int))); exact rfl; exact rfl; omega) | ((with_reducible apply oq_lssT); exact rfl; exact rfl; omega) | (apply oq_fn; exact rfl; try first | exact trivial | (and_intros <;> omega)) | (with_reducible apply tl_nil) | ((with_reducible apply u_s); (iterate 3 exact rfl); (with_reducible apply os_callW (b := g) (k := 139) (hc := Try.call139)); exact rfl; exact rfl; (repeat (first | exact P0 | apply P1)); exact fun D w1 hw1 => sym_W (s + R1.length) g cp n A.length (A.length + s) n P (srtS B1) (srtS R1) [] w1 (by omega) (hw1.blkP (by (repeat (first | exact P0 | apply P1)))) (srt_srt woS _) (srt_srt woS _) (by omega) (by omega) hPl (by omega) (by omega) (by simp only [List.length_append, List.length_nil]; omega) hn1) | ((with_reducible apply u_q); (iterate 4 exact rfl)) | (with_reducible apply t_seq) | (apply t_region; kernel_rfl) | ((with_reducible apply t_condT); exact rfl) | with_reducible apply q_thenN)
    all_goals exact ⟨rfl, P ++ (mrg ltS (srtS B1) (srtS R1) ++ []), (by rw [List.append_nil, srt_app woS, hL]; exact hP.bl (.last (by simp only [List.length_append]; omega))), by (repeat (first | exact FrSub.nil | (apply FrSub.cons; exact rfl))), by (repeat (first | exact HpSub.refl _ | (apply HpSub.consE; (repeat (first | exact P0 | apply P1)); exact rfl) | exact HpSub.nil))⟩
   ·obtain rfl := hE.small (by omega)
    repeat' (first | ((with_reducible apply oq_addE (k := ((A.length + s : Nat) : Int))); exact rfl; exact rfl; omega) | ((with_reducible apply oq_lssF); exact rfl; exact rfl; omega) | (apply oq_fn; exact rfl; try first | exact trivial | (and_intros <;> omega)) | (with_reducible apply tl_nil) | ((with_reducible apply u_q); (iterate 4 exact rfl)) | (with_reducible apply t_seq) | (apply t_region; kernel_rfl) | ((with_reducible apply t_condF); exact rfl) | (with_reducible apply t_skip) | with_reducible apply q_thenN)
    all_goals exact ⟨rfl, P ++ srt ltS R, (by rw [hL]; exact hP.bl (.last (by omega))), by (repeat (first | exact FrSub.nil | (apply FrSub.cons; exact rfl))), by (repeat (first | exact HpSub.refl _ | (apply HpSub.consE; (repeat (first | exact P0 | apply P1)); exact rfl) | exact HpSub.nil))⟩
  rintro D2 hD2
  try dsimp only
  repeat' (first | (focus ((with_reducible apply (oq_mulE (k := ((2 * s : Nat) : Int)))); exact rfl; exact rfl; omega; omega)) | (apply oq_fn; exact rfl; try first | exact trivial | (and_intros <;> omega)) | (with_reducible apply tl_nil) | ((with_reducible apply u_q); (iterate 4 exact rfl)) | (apply t_region; kernel_rfl) | with_reducible apply q_thenN | with_reducible apply q_blockN)
  all_goals (refine ⟨(2 * s, D2), ⟨(by simp only; omega), (by simp only; omega), hD2⟩, (by simp only; omega), ?_, ?_⟩)
  all_goals first
   | ((try simp only [List.cons_append, List.nil_append]); (repeat (first | exact FrSub.nil | (apply FrSub.cons; exact rfl) | (apply FrSub.consE; exact rfl; (congr 2; first | omega | (simp only; omega) | (simp only [List.length_nil]; omega) | (simp only [List.length_append]; omega))))); done)
   | ((try simp only [List.cons_append, List.nil_append]); (repeat (first | exact HpSub.refl _ | (apply HpSub.consE; (repeat (first | exact P0 | apply P1)); exact rfl) | exact HpSub.nil)); done)
 ·rw [← show D = srtS L from hD.small (by omega)]
  repeat' (first | ((with_reducible apply oq_lssF); exact rfl; exact rfl; omega) | (apply oq_fn; exact rfl; try first | exact trivial | (and_intros <;> omega)) | (with_reducible apply tl_nil) | ((with_reducible apply u_q); (iterate 4 exact rfl)) | (with_reducible apply t_seq) | (apply t_region; kernel_rfl) | ((with_reducible apply t_condF); exact rfl) | (with_reducible apply t_exit) | with_reducible apply q_thenN | with_reducible apply q_thenE | ((with_reducible apply q_blockE); exact rfl) | (with_reducible apply end_normal) | exact rvs_nil)
  all_goals exact ⟨rfl, by (repeat (first | exact HpSub.refl _ | (apply HpSub.consE; (repeat (first | exact P0 | apply P1)); exact rfl) | exact HpSub.nil))⟩
theorem sortS_W (g cp n : Nat) (L : List Sh) (w : World) (hB : Blk w g (shB L) (some (101, 3, cp))) (hn : L.length = n) (hn1 : n ≤ 1000000) :
  Calls Try.prog 130 #[.slice (some ⟨g, 0, none⟩) n cp, .func (.func 111) #[] #[]] w fun e w' => e = .returned (.tuple #[]) ∧ ExtM [g] w w' ∧ Blk w' g (shB (srtS L)) (some (101, 3, cp)) := by
 refine enterW (c := cxM [g] w 9) Try.func130 rfl rfl rfl rfl hB ?_
 repeat' (first | (apply oq_fn; exact rfl; try first | exact trivial | (and_intros <;> omega)) | (with_reducible apply tl_nil) | ((with_reducible apply u_s); (iterate 3 exact rfl); (with_reducible apply os_callW (b := g) (k := 136) (hc := Try.call136)); exact rfl; exact rfl; (repeat (first | exact P0 | apply P1)); exact fun D w1 hw1 => stable_W g cp n L w1 (hw1.blkP (by (repeat (first | exact P0 | apply P1)))) hn hn1) | ((with_reducible apply u_q); (iterate 4 exact rfl)) | (apply t_region; kernel_rfl) | (with_reducible apply end_normal) | exact rvs_nil)
 all_goals exact ⟨rfl, by (repeat (first | exact HpSub.refl _ | (apply HpSub.consE; (repeat (first | exact P0 | apply P1)); exact rfl) | exact HpSub.nil))⟩
theorem fits_T (A : Option Addr) (c : Nat) (w : World) (hr : RdS w 3 A 3 (roV.map shCells)) (hA : A = none → (3 : Nat) = 0 ∧ c = 0) : Calls Try.prog 84 #[.slice A 3 c] w fun e w' => e = .returned (.bool true) ∧ Ext w w' := by
 have hq : allFrom 0 5 [0] = true := by decide
 refine enterQ (c := cx w 63) Try.func84 rfl rfl rfl rfl ?_
 repeat' (first | (apply oq_fn; exact rfl; try first | exact trivial | (and_intros <;> omega)) | (with_reducible apply tl_nil) | ((with_reducible apply u_s); (iterate 3 exact rfl); (with_reducible apply os_callF (PV := ArrV) (k := 110) (hc := Try.call110)); exact rfl; exact rfl; exact fun D w1 hw1 => arr_T A c w1 (hr.ext hw1.ext.ext) hA; rintro v H' ⟨b, cp, rfl, rfl⟩; (unfold roC; simp only [List.cons_append, List.nil_append])) | ((with_reducible apply u_q); (iterate 4 exact rfl)) | (with_reducible apply t_seq) | (apply t_region; kernel_rfl) | (with_reducible apply t_block) | with_reducible apply q_thenN)
 apply t_loopK (ι := Nat) [0, 7, 8] (fun k => [(9, .int .i64 (k : Nat))]) (fun _ => []) (fun k => k ≤ 3) (fun k => 3 - k) (0)
 (repeat (first | exact KeepF.nil | (apply KeepF.cons; exact rfl) | apply KeepF.skip))
 (repeat (first | exact FrSub.nil | (apply FrSub.cons; exact rfl)))
 (repeat (first | exact HpSub.refl _ | (apply HpSub.consE; (repeat (first | exact P0 | apply P1)); exact rfl) | exact HpSub.nil))
 ·exact Nat.zero_le _
 rintro k hk
 try simp only [List.cons_append, List.nil_append]
 rcases (show k = 0 ∨ k = 1 ∨ k = 2 ∨ k = 3 by omega) with rfl | rfl | rfl | rfl
 ·repeat' (first | (focus ((with_reducible apply oq_indexAddrN); (iterate 4 exact rfl); omega)) | ((with_reducible apply oq_lssT); exact rfl; exact rfl; omega) | ((with_reducible apply oq_lssF); exact rfl; exact rfl; omega) | ((with_reducible apply oq_gtrF); exact rfl; exact rfl; omega) | ((with_reducible apply oq_geqF); exact rfl; exact rfl; omega) | (apply oq_fn; exact rfl; try first | exact trivial | (and_intros <;> omega)) | ((with_reducible apply oq_load); exact rfl; exact rfl) | ((with_reducible apply oq_loadAgg); exact rfl; exact rfl) | ((with_reducible apply oq_call (k := 63) (hc := Try.call63)); exact rfl; exact rfl; exact fun D w1 hw1 => fromOne hq hw1 (by (repeat (first | exact P0 | apply P1)))) | (with_reducible apply tl_nil) | ((with_reducible apply u_q); (iterate 4 exact rfl)) | ((with_reducible apply u_s0); exact rfl; exact rfl) | ((with_reducible apply u_s); (iterate 3 exact rfl)) | (with_reducible apply v_nil) | ((with_reducible apply v_q); (iterate 3 exact rfl)) | ((with_reducible apply v_skip); (iterate 3 exact rfl)) | ((with_reducible apply os_x); exact rfl) | ((with_reducible apply os_storeAgg); (iterate 5 exact rfl)) | ((with_reducible apply ox_alloc); exact rfl; intro _) | ((with_reducible apply ox_buildSlice1); (iterate 6 exact rfl); intro _) | ((with_reducible apply ai_q); (iterate 5 exact rfl)) | ((with_reducible apply ai_x); (iterate 5 exact rfl)) | (apply Rd.own; (repeat (first | exact P0 | apply P1)); exact rfl; done) | (apply t_mix (id := 5) [0, 1] 46 #[false, false, false, false, false, false, false, false, false, false, false, false, false, false, false, false, false, false, false, false, false, false, false, false, false, false, false, false, false, false, false, false, false, false, false, false, false, false, false, false, false, false, false, false, false, false, false, false]; kernel_rfl; kernel_rfl; exact rfl) | (with_reducible apply t_seq) | (apply t_region; kernel_rfl) | ((with_reducible apply t_condT); exact rfl) | ((with_reducible apply t_condF); exact rfl) | (with_reducible apply t_skip) | (with_reducible apply t_block) | with_reducible apply q_thenN | with_reducible apply q_blockN | exact P0 | exact Rdn.zero | apply Rdn.succ | ((with_reducible apply Norm.nil); exact rfl) | ((with_reducible apply Norm.cons); exact rfl) | (apply al_more [4, 5, 6, 7, 8, 9, 10, 11, 12, 13, 14, 15, 16, 17, 18, 19, 20, 21, 22, 23, 24, 25, 26, 27, 28, 29, 30, 31, 32, 33, 34, 35, 36, 37, 38, 39, 40, 41, 42, 43, 44, 45, 46, 47] 0; decide +kernel; exact rfl; exact rfl; focus (repeat (first | exact HpSub.refl _ | (apply HpSub.cons; (repeat (first | exact P0 | apply P1))) | apply HpSub.skipX | exact HpSub.nil))) | (apply al_done; decide +kernel) | (apply al_one 2; decide +kernel) | (apply al_one 3; decide +kernel) | exact Nat.le_of_ble_eq_true rfl)
  all_goals (refine ⟨1, by omega, by omega, ?_, ?_⟩ <;> (try simp only [List.cons_append, List.nil_append]) <;> (repeat' (first | exact FrSub.nil | (apply FrSub.cons; exact rfl) | (apply HpSub.consE; (repeat (first | exact P0 | apply P1)); exact rfl) | exact HpSub.nil)))
 ·repeat' (first | (focus ((with_reducible apply oq_indexAddrN); (iterate 4 exact rfl); omega)) | ((with_reducible apply oq_lssT); exact rfl; exact rfl; omega) | ((with_reducible apply oq_lssF); exact rfl; exact rfl; omega) | ((with_reducible apply oq_gtrT); exact rfl; exact rfl; omega) | ((with_reducible apply oq_gtrF); exact rfl; exact rfl; omega) | ((with_reducible apply oq_geqF); exact rfl; exact rfl; omega) | ((with_reducible apply oq_eqlT); exact rfl; exact rfl; omega) | (apply oq_fn; exact rfl; try first | exact trivial | (and_intros <;> omega)) | ((with_reducible apply oq_load); exact rfl; exact rfl) | ((with_reducible apply oq_loadAgg); exact rfl; exact rfl) | ((with_reducible apply oq_call (k := 63) (hc := Try.call63)); exact rfl; exact rfl; exact fun D w1 hw1 => fromOne hq hw1 (by (repeat (first | exact P0 | apply P1)))) | (with_reducible apply tl_nil) | ((with_reducible apply u_q); (iterate 4 exact rfl)) | ((with_reducible apply u_s0); exact rfl; exact rfl) | ((with_reducible apply u_s); (iterate 3 exact rfl)) | (with_reducible apply v_nil) | ((with_reducible apply v_q); (iterate 3 exact rfl)) | ((with_reducible apply os_x); exact rfl) | ((with_reducible apply os_storeAgg); (iterate 5 exact rfl)) | ((with_reducible apply ox_alloc); exact rfl; intro _) | ((with_reducible apply ox_buildSlice1); (iterate 6 exact rfl); intro _) | ((with_reducible apply ai_q); (iterate 5 exact rfl)) | ((with_reducible apply ai_x); (iterate 5 exact rfl)) | (apply Rd.own; (repeat (first | exact P0 | apply P1)); exact rfl; done) | (apply t_mix (id := 5) [0, 1] 46 #[false, false, false, false, false, false, false, false, false, false, false, false, false, false, false, false, false, false, false, false, false, false, false, false, false, false, false, false, false, false, false, false, false, false, false, false, false, false, false, false, false, false, false, false, false, false, false, false]; kernel_rfl; kernel_rfl; exact rfl) | (with_reducible apply t_seq) | (apply t_region; kernel_rfl) | ((with_reducible apply t_condT); exact rfl) | ((with_reducible apply t_condF); exact rfl) | (with_reducible apply t_skip) | (with_reducible apply t_block) | with_reducible apply q_thenN | with_reducible apply q_blockN | exact P0 | exact Rdn.zero | apply Rdn.succ | ((with_reducible apply Norm.nil); exact rfl) | ((with_reducible apply Norm.cons); exact rfl) | (apply al_more [4, 5, 6, 7, 8, 9, 10, 11, 12, 13, 14, 15, 16, 17, 18, 19, 20, 21, 22, 23, 24, 25, 26, 27, 28, 29, 30, 31, 32, 33, 34, 35, 36, 37, 38, 39, 40, 41, 42, 43, 44, 45, 46, 47] 0; decide +kernel; exact rfl; exact rfl; focus (repeat (first | exact HpSub.refl _ | (apply HpSub.cons; (repeat (first | exact P0 | apply P1))) | apply HpSub.skipX | exact HpSub.nil))) | (apply al_done; decide +kernel) | (apply al_one 2; decide +kernel) | (apply al_one 3; decide +kernel) | exact Nat.le_of_ble_eq_true rfl)
  all_goals (refine ⟨2, by omega, by omega, ?_, ?_⟩ <;> (try simp only [List.cons_append, List.nil_append]) <;> (repeat' (first | exact FrSub.nil | (apply FrSub.cons; exact rfl) | (apply HpSub.consE; (repeat (first | exact P0 | apply P1)); exact rfl) | exact HpSub.nil)))
 ·repeat' (first | (focus ((with_reducible apply oq_indexAddrN); (iterate 4 exact rfl); omega)) | ((with_reducible apply oq_lssT); exact rfl; exact rfl; omega) | ((with_reducible apply oq_lssF); exact rfl; exact rfl; omega) | ((with_reducible apply oq_gtrT); exact rfl; exact rfl; omega) | ((with_reducible apply oq_gtrF); exact rfl; exact rfl; omega) | ((with_reducible apply oq_geqF); exact rfl; exact rfl; omega) | ((with_reducible apply oq_eqlT); exact rfl; exact rfl; omega) | (apply oq_fn; exact rfl; try first | exact trivial | (and_intros <;> omega)) | ((with_reducible apply oq_load); exact rfl; exact rfl) | ((with_reducible apply oq_loadAgg); exact rfl; exact rfl) | ((with_reducible apply oq_call (k := 63) (hc := Try.call63)); exact rfl; exact rfl; exact fun D w1 hw1 => fromOne hq hw1 (by (repeat (first | exact P0 | apply P1)))) | (with_reducible apply tl_nil) | ((with_reducible apply u_q); (iterate 4 exact rfl)) | ((with_reducible apply u_s0); exact rfl; exact rfl) | ((with_reducible apply u_s); (iterate 3 exact rfl)) | (with_reducible apply v_nil) | ((with_reducible apply v_q); (iterate 3 exact rfl)) | ((with_reducible apply os_x); exact rfl) | ((with_reducible apply os_storeAgg); (iterate 5 exact rfl)) | ((with_reducible apply ox_alloc); exact rfl; intro _) | ((with_reducible apply ox_buildSlice1); (iterate 6 exact rfl); intro _) | ((with_reducible apply ai_q); (iterate 5 exact rfl)) | ((with_reducible apply ai_x); (iterate 5 exact rfl)) | (apply Rd.own; (repeat (first | exact P0 | apply P1)); exact rfl; done) | (apply t_mix (id := 5) [0, 1] 46 #[false, false, false, false, false, false, false, false, false, false, false, false, false, false, false, false, false, false, false, false, false, false, false, false, false, false, false, false, false, false, false, false, false, false, false, false, false, false, false, false, false, false, false, false, false, false, false, false]; kernel_rfl; kernel_rfl; exact rfl) | (with_reducible apply t_seq) | (apply t_region; kernel_rfl) | ((with_reducible apply t_condT); exact rfl) | ((with_reducible apply t_condF); exact rfl) | (with_reducible apply t_skip) | (with_reducible apply t_block) | with_reducible apply q_thenN | with_reducible apply q_blockN | exact P0 | exact Rdn.zero | apply Rdn.succ | ((with_reducible apply Norm.nil); exact rfl) | ((with_reducible apply Norm.cons); exact rfl) | (apply al_more [4, 5, 6, 7, 8, 9, 10, 11, 12, 13, 14, 15, 16, 17, 18, 19, 20, 21, 22, 23, 24, 25, 26, 27, 28, 29, 30, 31, 32, 33, 34, 35, 36, 37, 38, 39, 40, 41, 42, 43, 44, 45, 46, 47] 0; decide +kernel; exact rfl; exact rfl; focus (repeat (first | exact HpSub.refl _ | (apply HpSub.cons; (repeat (first | exact P0 | apply P1))) | apply HpSub.skipX | exact HpSub.nil))) | (apply al_done; decide +kernel) | (apply al_one 2; decide +kernel) | (apply al_one 3; decide +kernel) | exact Nat.le_of_ble_eq_true rfl)
  all_goals (refine ⟨3, by omega, by omega, ?_, ?_⟩ <;> (try simp only [List.cons_append, List.nil_append]) <;> (repeat' (first | exact FrSub.nil | (apply FrSub.cons; exact rfl) | (apply HpSub.consE; (repeat (first | exact P0 | apply P1)); exact rfl) | exact HpSub.nil)))
 ·repeat' (first | ((with_reducible apply oq_lssF); exact rfl; exact rfl; omega) | (apply oq_fn; exact rfl; try first | exact trivial | (and_intros <;> omega)) | (with_reducible apply tl_nil) | ((with_reducible apply u_q); (iterate 4 exact rfl)) | (with_reducible apply t_seq) | (apply t_region; kernel_rfl) | ((with_reducible apply t_condF); exact rfl) | (with_reducible apply t_ret) | (with_reducible apply t_exit) | with_reducible apply q_thenN | with_reducible apply q_thenE | ((with_reducible apply q_blockE); exact rfl) | (with_reducible apply end_ret) | exact rvs_nil | (with_reducible apply rvs_cons) | ((with_reducible apply rv_tmp); exact rfl))
  all_goals rfl
theorem insNil (w : World) : Calls Try.prog 138 #[.slice none 0 0, .int .i64 0, .int .i64 0, .func (.func 111) #[] #[]] w fun e w' => e = .returned (.tuple #[]) ∧ Ext w w' := by
 refine enterQ (c := cx w 53) Try.func138 rfl rfl rfl rfl ?_
 repeat' (first | (apply oq_fn; exact rfl; try first | exact trivial | (and_intros <;> omega)) | (with_reducible apply tl_nil) | ((with_reducible apply u_q); (iterate 4 exact rfl)) | (with_reducible apply t_seq) | (apply t_region; kernel_rfl) | (with_reducible apply t_block) | with_reducible apply q_thenN)
 apply t_loopK (ι := Unit) [0, 1, 2, 3] (fun _ => [(8, .int .i64 1)]) (fun _ => []) (fun _ => True) (fun _ => 0) (())
 (repeat (first | exact KeepF.nil | (apply KeepF.cons; exact rfl) | apply KeepF.skip))
 (repeat (first | exact FrSub.nil | (apply FrSub.cons; exact rfl)))
 (repeat (first | exact HpSub.refl _ | (apply HpSub.consE; (repeat (first | exact P0 | apply P1)); exact rfl) | exact HpSub.nil))
 ·trivial
 rintro ⟨⟩ -
 repeat' (first | ((with_reducible apply oq_lssF); exact rfl; exact rfl; omega) | (apply oq_fn; exact rfl; try first | exact trivial | (and_intros <;> omega)) | (with_reducible apply tl_nil) | ((with_reducible apply u_q); (iterate 4 exact rfl)) | (with_reducible apply t_seq) | (apply t_region; kernel_rfl) | ((with_reducible apply t_condF); exact rfl) | (with_reducible apply t_exit) | with_reducible apply q_thenN | with_reducible apply q_thenE | ((with_reducible apply q_blockE); exact rfl) | (with_reducible apply end_normal) | exact rvs_nil)
 all_goals rfl
theorem stabNil (w : World) : Calls Try.prog 136 #[.slice none 0 0, .int .i64 0, .func (.func 111) #[] #[]] w fun e w' => e = .returned (.tuple #[]) ∧ Ext w w' := by
 refine enterQ (c := cx w 63) Try.func136 rfl rfl rfl rfl ?_
 repeat' (first | (apply oq_fn; exact rfl; try first | exact trivial | (and_intros <;> omega)) | (with_reducible apply tl_nil) | ((with_reducible apply u_q); (iterate 4 exact rfl)) | (with_reducible apply t_seq) | (apply t_region; kernel_rfl) | (with_reducible apply t_block) | with_reducible apply q_thenN)
 apply t_loopK (ι := Unit) [0, 1, 2, 6, 9, 23, 24, 25, 26, 28, 29, 30, 31, 32, 33, 34, 35, 36, 37, 38, 39, 40, 41, 42, 44, 45, 46, 47, 48, 49, 50, 51, 52, 53, 54, 55, 56, 57, 58, 59, 61, 62] (fun _ => [(6, .int .i64 20), (7, .int .i64 0), (8, .int .i64 20)]) (fun _ => []) (fun _ => True) (fun _ => 0) (())
 (repeat (first | exact KeepF.nil | (apply KeepF.cons; exact rfl) | apply KeepF.skip))
 (repeat (first | exact FrSub.nil | (apply FrSub.cons; exact rfl)))
 (repeat (first | exact HpSub.refl _ | (apply HpSub.consE; (repeat (first | exact P0 | apply P1)); exact rfl) | exact HpSub.nil))
 ·trivial
 rintro ⟨⟩ -
 repeat' (first | ((with_reducible apply oq_leqF); exact rfl; exact rfl; omega) | (apply oq_fn; exact rfl; try first | exact trivial | (and_intros <;> omega)) | ((with_reducible apply oq_call (k := 138) (hc := Try.call138)); exact rfl; exact rfl; exact fun D w1 hw1 => insNil w1) | (with_reducible apply tl_nil) | ((with_reducible apply u_q); (iterate 4 exact rfl)) | (with_reducible apply t_seq) | (apply t_region; kernel_rfl) | ((with_reducible apply t_condF); exact rfl) | (with_reducible apply t_exit) | (with_reducible apply t_block) | with_reducible apply q_thenN | with_reducible apply q_thenE | ((with_reducible apply q_blockE); exact rfl))
 apply t_loopK (ι := Unit) [0, 1, 2] (fun _ => [(6, .int .i64 20)]) (fun _ => []) (fun _ => True) (fun _ => 0) (())
 (repeat (first | exact KeepF.nil | (apply KeepF.cons; exact rfl) | apply KeepF.skip))
 (repeat (first | exact FrSub.nil | (apply FrSub.cons; exact rfl)))
 (repeat (first | exact HpSub.refl _ | (apply HpSub.consE; (repeat (first | exact P0 | apply P1)); exact rfl) | exact HpSub.nil))
 ·trivial
 rintro ⟨⟩ -
 repeat' (first | ((with_reducible apply oq_lssF); exact rfl; exact rfl; omega) | (apply oq_fn; exact rfl; try first | exact trivial | (and_intros <;> omega)) | (with_reducible apply tl_nil) | ((with_reducible apply u_q); (iterate 4 exact rfl)) | (with_reducible apply t_seq) | (apply t_region; kernel_rfl) | ((with_reducible apply t_condF); exact rfl) | (with_reducible apply t_exit) | with_reducible apply q_thenN | with_reducible apply q_thenE | ((with_reducible apply q_blockE); exact rfl) | (with_reducible apply end_normal) | exact rvs_nil)
 all_goals rfl
theorem sortNil (w : World) : Calls Try.prog 130 #[.slice none 0 0, .func (.func 111) #[] #[]] w fun e w' => e = .returned (.tuple #[]) ∧ Ext w w' := by
 refine enterQ (c := cx w 9) Try.func130 rfl rfl rfl rfl ?_
 repeat' (first | (apply oq_fn; exact rfl; try first | exact trivial | (and_intros <;> omega)) | ((with_reducible apply oq_call (k := 136) (hc := Try.call136)); exact rfl; exact rfl; exact fun D w1 hw1 => stabNil w1) | (with_reducible apply tl_nil) | ((with_reducible apply u_q); (iterate 4 exact rfl)) | (apply t_region; kernel_rfl) | (with_reducible apply end_normal) | exact rvs_nil)
 all_goals rfl
/-- An arranged roster. -/
def ArrO (S : List Sh) (v : Value) (H : Hp) : Prop := ∃ x, (x = none → S.length = 0) ∧ v = .slice (clA x) S.length (clC x) ∧ H = clH 101 3 (shB S) x
theorem arranged_T (A : Option Addr) (n c : Nat) (l : List Sh) (w : World) (hr : RdS w 3 A n (l.map shCells)) (hA : A = none → n = 0 ∧ c = 0) (hn : n ≤ 1000000) :
  Calls Try.prog 110 #[.slice A n c, .func (.func 111) #[] #[]] w fun e w' => ∃ v H', e = .returned v ∧ ArrO (srtS l) v H' ∧ Has w ⟨[], []⟩ H' w' := by
 have hl := hr.len
 simp only [List.length_map] at hl
 have hsl : (srtS l).length = n := by rw [srtS, srt_len, hl]
 refine enterF (c := cx w 11) Try.func110 rfl rfl rfl rfl ?_
 refine t_cut (ι := Unit) (fun _ => [(0, .slice A n c), (1, .func (.func 111) #[] #[])]) (fun _ => []) (fun _ => True) ?_ ?_
 ·repeat' (first | (apply oq_fn; exact rfl; try first | exact trivial | (and_intros <;> omega)) | (with_reducible apply tl_nil) | ((with_reducible apply u_q); (iterate 4 exact rfl)) | (apply t_region; kernel_rfl))
  all_goals exact ⟨rfl, (), trivial, by (repeat (first | exact FrSub.nil | (apply FrSub.cons; exact rfl))), by (repeat (first | exact HpSub.refl _ | (apply HpSub.consE; (repeat (first | exact P0 | apply P1)); exact rfl) | exact HpSub.nil))⟩
 rintro ⟨⟩ -
 refine t_cut (ι := Option (Nat × Nat)) (fun x => [(0, .slice (clA x) n (clC x)), (1, .func (.func 111) #[] #[])]) (fun x => clH 101 3 (shB l) x) (fun x => x = none → n = 0) ?_ ?_
 ·repeat' (first | (apply oq_fn; exact rfl; try first | exact trivial | (and_intros <;> omega)) | (with_reducible apply tl_nil) | ((with_reducible apply u_s); (iterate 3 exact rfl); (with_reducible apply os_callF (PV := CloneV 101 3 (shB l) n) (k := 89) (hc := Try.call89)); exact rfl; exact rfl; exact fun D w1 hw1 => cloneS_T A n c l w1 (hr.ext hw1.ext.ext) hA hn; rintro v H' ⟨x, hx, rfl, rfl⟩; (try simp only [List.append_nil])) | ((with_reducible apply u_q); (iterate 4 exact rfl)) | (apply t_region; kernel_rfl))
  all_goals exact ⟨by trivial, x, hx, by (repeat (first | exact FrSub.nil | (apply FrSub.cons; exact rfl))), by (repeat (first | exact HpSub.refl _ | apply HpSub.appC | exact HpSub.nil))⟩
 rintro x hx
 rcases x with _ | ⟨g, cp⟩
 ·obtain rfl := hx rfl
  simp only [clA, clC, clH]
  repeat' (first | (apply oq_fn; exact rfl; try first | exact trivial | (and_intros <;> omega)) | ((with_reducible apply oq_call (k := 130) (hc := Try.call130)); exact rfl; exact rfl; exact fun D w1 hw1 => sortNil w1) | (with_reducible apply tl_nil) | ((with_reducible apply u_q); (iterate 4 exact rfl)) | (with_reducible apply t_seq) | (apply t_region; kernel_rfl) | (with_reducible apply t_ret) | with_reducible apply q_thenN | (with_reducible apply end_ret) | exact rvs_nil | (with_reducible apply rvs_cons) | ((with_reducible apply rv_tmp); exact rfl))
  all_goals exact ⟨_, ⟨none, fun _ => hsl, by rw [hsl]; rfl, rfl⟩, HpSub.nil⟩
 ·simp only [clA, clC, clH]
  repeat' (first | (apply oq_fn; exact rfl; try first | exact trivial | (and_intros <;> omega)) | (with_reducible apply tl_nil) | ((with_reducible apply u_s); (iterate 3 exact rfl); (with_reducible apply os_callW (b := g) (k := 130) (hc := Try.call130)); exact rfl; exact rfl; (repeat (first | exact P0 | apply P1)); exact fun D w1 hw1 => sortS_W g cp n l w1 (hw1.blkP (by (repeat (first | exact P0 | apply P1)))) hl hn) | ((with_reducible apply u_q); (iterate 4 exact rfl)) | (with_reducible apply t_seq) | (apply t_region; kernel_rfl) | (with_reducible apply t_ret) | with_reducible apply q_thenN | (with_reducible apply end_ret) | exact rvs_nil | (with_reducible apply rvs_cons) | ((with_reducible apply rv_tmp); exact rfl))
  all_goals exact ⟨_, ⟨some (g, cp), fun h => (by cases h), by rw [hsl]; rfl, rfl⟩, HpSub.refl _⟩
end Go.Proofs.Ytmlmgipngbndgaa
