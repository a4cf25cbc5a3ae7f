/- A part of the proof: rules for walks, and contracts of functions (8). -/
import Derived.Test.YtmlmgipngbndgaaX18E
import Derived.Test.YtmlmgipngbndgaaX18G
import Derived.Test.YtmlmgipngbndgaaX18C
import Derived.Test.YtmlmgipngbndgaaX18B
import Derived.Laws.IdiomCopy
set_option linter.unusedVariables false
set_option linter.unusedSimpArgs false
set_option maxRecDepth 100000
set_option maxHeartbeats 2000000
namespace Go.Proofs.Ytmlmgipngbndgaa
open Go.RowKit
attribute [local irreducible] OQ OS OX Rd T TL GX GL AL AI RV wpG SAny Calls
/-- A copy of a roster that is not nil. -/
def OwnS (C : List Value) (n : Nat) (v : Value) (H : Hp) : Prop := ∃ g c, v = .slice (some ⟨g, 0, none⟩) n c ∧ H = [(g, C, some (101, 3, c))]
theorem cloneO (b o : Nat) (q : _) (n c : Nat) (l : List Sh) (w : World) (hr : RdS w 3 (some ⟨b, o, q⟩) n (l.map shCells)) (hn : n ≤ 1000000) : Calls Try.prog 89 #[.slice (some ⟨b, o, q⟩) n c] w fun e w' => ∃ v H', e = .returned v ∧ OwnS (shB l) n v H' ∧ Has w ⟨[], []⟩ H' w' := by
 refine enterF (c := cx w 8) Try.func89 rfl rfl rfl rfl ?_
 repeat' (first | ((with_reducible apply oq_eqNil); (iterate 3 exact rfl)) | (apply oq_fn; exact rfl; try first | exact trivial | (and_intros <;> omega)) | (with_reducible apply tl_nil) | ((with_reducible apply u_s); (iterate 3 exact rfl); (with_reducible apply os_appendRows (hk := app_ok75) (rows := l.map shCells) (hr := fun D w1 hw1 => hr.ext hw1.ext.ext)); exact rfl; exact rfl; exact P0; exact sh_len l; exact rfl; exact sh_one l; exact Nat.le_refl _; omega; omega; intro b cap'; simp only [Nat.zero_add, List.nil_append]) | ((with_reducible apply u_q); (iterate 4 exact rfl)) | ((with_reducible apply u_s); (iterate 3 exact rfl)) | ((with_reducible apply os_x); exact rfl) | ((with_reducible apply ox_buildSlice); (iterate 4 exact rfl)) | (with_reducible apply t_seq) | (apply t_region; kernel_rfl) | ((with_reducible apply t_condF); exact rfl) | (with_reducible apply t_ret) | (with_reducible apply t_skip) | with_reducible apply q_thenN | ((with_reducible apply Norm.nil); exact rfl) | (with_reducible apply end_ret) | exact rvs_nil | (with_reducible apply rvs_cons) | ((with_reducible apply rv_tmp); exact rfl) | exact (rfl : (_ : Bool) = true) | (intro _; with_reducible apply tl_id))
 exact ⟨_, ⟨b, cap', rfl, rfl⟩, HpSub.refl _⟩
theorem cloneN (w : World) : Calls Try.prog 89 #[.slice none 0 0] w fun e w' => e = .returned (.slice none 0 0) ∧ Ext w w' := by
 refine enterQ (c := cx w 8) Try.func89 rfl rfl rfl rfl ?_
 repeat' (first | ((with_reducible apply oq_eqNilT); (iterate 3 exact rfl)) | (apply oq_fn; exact rfl; try first | exact trivial | (and_intros <;> omega)) | (with_reducible apply tl_nil) | ((with_reducible apply u_q); (iterate 4 exact rfl)) | (with_reducible apply t_seq) | (apply t_region; kernel_rfl) | ((with_reducible apply t_condT); exact rfl) | (with_reducible apply t_ret) | with_reducible apply q_thenN | with_reducible apply q_thenR | (with_reducible apply end_ret) | exact rvs_nil | (with_reducible apply rvs_cons) | ((with_reducible apply rv_tmp); exact rfl))
 all_goals rfl
theorem hp_skA {G R X : Hp} (h : HpSub R X) : HpSub (G ++ R) X := by
 induction G with
 | nil => exact h
 | cons x G ih => exact HpSub.skipX ih
theorem rowV_mk (xs : List Int) (o : Option (Nat × Nat)) : rwV (xs, o) = .slice (clA o) xs.length (clC o) := rfl
theorem hp_left1 {x : Nat × List Value × Tg} {G : Hp} : HpSub (x :: G) G := HpSub.skipX (HpSub.refl _)
theorem hp_last2 {G : Hp} {a z : Nat × List Value × Tg} : HpSub (G ++ [a, z]) (z :: G) := by
 obtain ⟨b, C, g⟩ := z; exact HpSub.cons (PA (Pick.tail (Pick.head _ _ _ _))) hp_left
theorem hp_last3 {G : Hp} {a a' z : Nat × List Value × Tg} : HpSub (G ++ [a, a', z]) (z :: G) := by
 obtain ⟨b, C, g⟩ := z; exact HpSub.cons (PA (Pick.tail (Pick.tail (Pick.head _ _ _ _)))) hp_left
theorem hp_last4 {G : Hp} {a a' a2 z : Nat × List Value × Tg} : HpSub (G ++ [a, a', a2, z]) (z :: G) := by
 obtain ⟨b, C, g⟩ := z; exact HpSub.cons (PA (Pick.tail (Pick.tail (Pick.tail (Pick.head _ _ _ _))))) hp_left
theorem hp_kA {A H G : Hp} (h : HpSub H G) : HpSub (A ++ H) (A ++ G) := by
 induction A with
 | nil => exact h
 | cons x A ih => obtain ⟨b, C, g⟩ := x; exact HpSub.cons P0 ih
/-- What try answers. -/
def TryP (g m : Nat) (cs : List (List Int)) (trip : Nat) (res : Option (List (List Int))) (v : Value) (H : Hp) : Prop :=
 ∃ R, (∀ r ∈ R, LrOk r) ∧ v = .bool res.isSome ∧ R.map Prod.fst = (match res with | some rs => cs.take trip ++ rs | none => cs) ∧ H = outH g m R
theorem tr_read {w : World} {A : Option Addr} {n : Nat} {l : List Tr} (h : RdS w 3 A n (l.map trCells)) {i : Nat} (hi : i < n) :
  ∃ b o x, A = some ⟨b, o, none⟩ ∧ b < w.heap.size ∧ l[i]? = some x ∧ w.cell? ⟨b, o + i * 3, none⟩ = some (.int .i64 x.fr) ∧ w.cell? ⟨b, o + i * 3 + 1, none⟩ = some (.int .i64 x.to) ∧ w.cell? ⟨b, o + i * 3 + 2, none⟩ = some (.int .i64 x.crew) := by
 obtain ⟨b, o, cs, hA, hb, hx, _, hc⟩ := h.row hi
 simp only [List.getElem?_map, Option.map_eq_some_iff] at hx
 obtain ⟨x, hx, rfl⟩ := hx
 exact ⟨b, o, x, hA, hb, hx, hc 0 _ rfl, hc 1 _ rfl, hc 2 _ rfl⟩
theorem row_split {R : List Row} {i : Nat} {r : Row} (h : R[i]? = some r) : ∃ R1 R2, R = R1 ++ r :: R2 ∧ R1.length = i := by
 obtain ⟨hi, rfl⟩ := List.getElem?_eq_some_iff.1 h
 refine ⟨R.take i, R.drop (i + 1), ?_, by simp; omega⟩
 rw [← List.drop_eq_getElem_cons hi, List.take_append_drop]
theorem dep_drop {ts : List Tr} {i : Nat} {x : Tr} (h : ts[i]? = some x) : dep (ts.drop i) = x.crew.toNat + 1 + dep (ts.drop (i + 1)) := by
 obtain ⟨hi, rfl⟩ := List.getElem?_eq_some_iff.1 h
 rw [List.drop_eq_getElem_cons hi]; rfl
theorem dep_pos (ts : List Tr) : 1 ≤ dep ts := by cases ts with
 | nil => exact Nat.le_refl _
 | cons x ts => show 1 ≤ x.crew.toNat + 1 + dep ts; omega
theorem try_T (d : Du) (hd : duB d) (mem m : Nat) (hmem : mem ≤ 1000) (hm : m ≤ 1000) (ts0 : List Tr) (hts : ts0.length = m) (hto : ∀ x ∈ ts0, trOk x) (bD bT bO bF bM g : Nat) (AT : Option Addr) (cT : Nat) :
  ∀ (f trip who : Nat) (l : List Sh) (R : List Row) (cur : List Int) (A : Option Addr) (n c : Nat) (w : World), R.length = m → (∀ r ∈ R, LrOk r) → trip ≤ m → (∀ j r, trip < j → R[j]? = some r → r.1 = []) → (∀ r, R[trip]? = some r → r.1 = cur) → (trip = m → cur = []) →
   (∀ x, ts0[trip]? = some x → (cur.length : Int) ≤ x.crew) → dep (ts0.drop trip) ≤ f + cur.length → n + f ≤ 900 → who ≤ 1000 → RdS w 3 A n (l.map shCells) → (A = none → n = 0 ∧ c = 0) → (0 < n → ∀ b o, A = some ⟨b, o, none⟩ → b ∉ (outH g m R).map Prod.fst) →
   TryW d mem m ts0 bD bT bO bF bM g AT cT w ((outH g m R).map Prod.fst) → Has w ⟨(outH g m R).map Prod.fst, []⟩ (outH g m R) w →
   Calls Try.prog 88 #[.int .i64 (trip : Nat), .int .i64 (who : Nat), .slice A n c, .pointer (some ⟨bD, 0, none⟩), .pointer (some ⟨bT, 0, none⟩), .pointer (some ⟨bO, 0, none⟩), .pointer (some ⟨bF, 0, none⟩), .pointer (some ⟨bM, 0, none⟩)] w fun e w' => ∃ v H1, e = .returned v ∧ TryP g m (R.map Prod.fst) trip (tryF d mem f (ts0.drop trip) cur who l) v H1 ∧ Has w ⟨(outH g m R).map Prod.fst, []⟩ H1 w' := by
 intro f
 induction f with
 | zero =>
  intro trip who l R cur A n c w hR hok htr hrest hcur hc0 hcl hdep
  exfalso
  by_cases h : trip < m
  ·obtain ⟨x, hx⟩ : ∃ x, ts0[trip]? = some x := ⟨_, List.getElem?_eq_getElem (by omega)⟩
   have h1 := dep_drop hx
   have h2 := hcl x hx
   have h3 := dep_pos (ts0.drop (trip + 1))
   omega
  ·have h1 := hc0 (by omega)
   subst h1
   have h3 := dep_pos (ts0.drop trip)
   simp at hdep
   omega
 | succ f ih =>
 intro trip who l R cur A n c w hR hok htr hrest hcur hc0 hcl hdep hnf hwho hr hA hAm hW hw
 have hl := hr.len
 simp only [List.length_map] at hl
 refine (enter (c := cxM ((outH g m R).map Prod.fst) w 88) (H := outH g m R) (F := frOf 0 _) (PV := fun v H => ∃ H1, TryP g m (R.map Prod.fst) trip (tryF d mem (f + 1) (ts0.drop trip) cur who l) v H1 ∧ HpW H H1) Try.func88 rfl rfl rfl (fun d v hv => (look_frOf _ 0 d v hv).2) hw ?_).mono fun e w' ⟨v, H', h1, ⟨H1, h2, h3⟩, h4⟩ => ⟨v, H1, h1, h2, h3 _ _ _ h4⟩
 have HF := fun w1 h => fitsR_calls A n c l w1 h hA (by omega)
 have hsame : ∀ (H : Hp), tryF d mem (f + 1) (ts0.drop trip) cur who l = none → HpSub H (outH g m R) → ∃ H1, TryP g m (R.map Prod.fst) trip (tryF d mem (f + 1) (ts0.drop trip) cur who l) (.bool false) H1 ∧ HpW H H1 := fun H h1 h2 => ⟨_, ⟨R, hok, by rw [h1]; rfl, by rw [h1], rfl⟩, h2.w⟩
 refine t_cut (ι := Unit) (fun _ => [(0, .int .i64 (trip : Nat)), (1, .int .i64 (who : Nat)), (2, .slice A n c), (3, .pointer (some ⟨bD, 0, none⟩)), (4, .pointer (some ⟨bT, 0, none⟩)), (5, .pointer (some ⟨bO, 0, none⟩)), (6, .pointer (some ⟨bF, 0, none⟩)), (7, .pointer (some ⟨bM, 0, none⟩))]) (fun _ => outH g m R) (fun _ => True) ?_ ?_
 ·repeat' (first | (apply oq_fn; exact rfl; try first | exact trivial | (and_intros <;> omega)) | (with_reducible apply tl_nil) | ((with_reducible apply u_q); (iterate 4 exact rfl)) | (apply t_region; kernel_rfl))
  all_goals exact ⟨rfl, (), trivial, by (repeat (first | exact FrSub.nil | (apply FrSub.cons; exact rfl))), by (repeat (first | exact HpSub.refl _ | (apply HpSub.consE; (repeat (first | exact P0 | apply P1 | apply PA)); exact rfl) | apply hp_kA | apply HpSub.skipX | apply hp_skA | exact HpSub.nil))⟩
 rintro ⟨⟩ -
 by_cases hRos : Ros l
 rotate_left
 ·have hno : tryF d mem (f + 1) (ts0.drop trip) cur who l = none := tryF_bad (by unfold okB; rw [decide_eq_false hRos]; rfl)
  rw [decide_eq_false hRos] at HF
  repeat' (first | (apply oq_fn; exact rfl; try first | exact trivial | (and_intros <;> omega)) | ((with_reducible apply oq_call (k := 84) (hc := Try.call84)); exact rfl; exact rfl; exact fun D w1 hw1 => HF w1 (hr.extM hw1.ext hAm)) | (with_reducible apply tl_nil) | ((with_reducible apply u_q); (iterate 4 exact rfl)) | ((with_reducible apply u_skip); (iterate 3 exact rfl)) | (with_reducible apply t_seq) | (apply t_region; kernel_rfl) | ((with_reducible apply t_condT); exact rfl) | (with_reducible apply t_ret) | with_reducible apply q_thenN | with_reducible apply q_thenR | (with_reducible apply end_ret) | exact rvs_nil | (with_reducible apply rvs_cons) | ((with_reducible apply rv_tmp); exact rfl))
  all_goals exact hsame _ hno (by (repeat (first | exact HpSub.refl _ | (apply HpSub.consE; (repeat (first | exact P0 | apply P1 | apply PA)); exact rfl) | apply hp_kA | apply HpSub.skipX | apply hp_skA | exact HpSub.nil)))
 rw [decide_eq_true hRos] at HF
 obtain ⟨T, hT⟩ : ∃ T, tiV d l = T := ⟨_, rfl⟩
 by_cases hTl : 0 < T.length
 ·have hno : tryF d mem (f + 1) (ts0.drop trip) cur who l = none := tryF_bad (by
   unfold okB
   rw [hT, decide_eq_true hRos]
   cases T with
   | nil => simp at hTl
   | cons _ _ => rfl)
  repeat' (first | ((with_reducible apply oq_gtrT); exact rfl; exact rfl; omega) | (apply oq_fn; exact rfl; try first | exact trivial | (and_intros <;> omega)) | ((with_reducible apply oq_loadAgg); exact rfl; exact rfl) | ((with_reducible apply oq_call (k := 84) (hc := Try.call84)); exact rfl; exact rfl; exact fun D w1 hw1 => HF w1 (hr.extM hw1.ext hAm)) | (with_reducible apply tl_nil) | ((with_reducible apply u_s); (iterate 3 exact rfl); (with_reducible apply os_callF (PV := TiO T) (k := 82) (hc := Try.call82)); exact rfl; exact rfl; exact fun D w1 hw1 => (by rw [← hT]; exact tiredR_T d hd A n c l w1 (hr.extM hw1.ext hAm) hA (by omega) hRos); rintro v H' ⟨x0, hx0, rfl, rfl⟩) | ((with_reducible apply u_q); (iterate 4 exact rfl)) | (apply Rd.old; (first | exact hW.d0 | exact hW.d1 | exact hW.d2 | exact hW.d3 | exact hW.t0 | exact hW.o0 | exact hW.f0 | exact hW.m0 | exact e0 | exact e1 | exact e2); first | exact hW.nD | exact hW.nT | exact hW.nO | exact hW.nF | exact hW.nM | exact hnx) | (with_reducible apply t_seq) | (apply t_region; kernel_rfl) | ((with_reducible apply t_condT); exact rfl) | (with_reducible apply t_ret) | with_reducible apply q_thenN | with_reducible apply q_thenR | exact Rdn.zero | apply Rdn.succ | (with_reducible apply end_ret) | exact rvs_nil | (with_reducible apply rvs_cons) | ((with_reducible apply rv_tmp); exact rfl))
  all_goals exact hsame _ hno (by (repeat (first | exact HpSub.refl _ | (apply HpSub.consE; (repeat (first | exact P0 | apply P1 | apply PA)); exact rfl) | apply hp_kA | apply HpSub.skipX | apply hp_skA | exact HpSub.nil)))
 have hyes : okB d l = true := by
  unfold okB
  rw [hT, decide_eq_true hRos, List.length_eq_zero_iff.1 (show T.length = 0 by omega)]; rfl
 refine t_cut (ι := Unit) (fun _ => [(0, .int .i64 (trip : Nat)), (1, .int .i64 (who : Nat)), (2, .slice A n c), (3, .pointer (some ⟨bD, 0, none⟩)), (4, .pointer (some ⟨bT, 0, none⟩)), (5, .pointer (some ⟨bO, 0, none⟩)), (6, .pointer (some ⟨bF, 0, none⟩)), (7, .pointer (some ⟨bM, 0, none⟩))]) (fun _ => outH g m R) (fun _ => True) ?_ ?_
 ·repeat' (first | ((with_reducible apply oq_gtrF); exact rfl; exact rfl; omega) | (apply oq_fn; exact rfl; try first | exact trivial | (and_intros <;> omega)) | ((with_reducible apply oq_loadAgg); exact rfl; exact rfl) | ((with_reducible apply oq_call (k := 84) (hc := Try.call84)); exact rfl; exact rfl; exact fun D w1 hw1 => HF w1 (hr.extM hw1.ext hAm)) | (with_reducible apply tl_nil) | ((with_reducible apply u_s); (iterate 3 exact rfl); (with_reducible apply os_callF (PV := TiO T) (k := 82) (hc := Try.call82)); exact rfl; exact rfl; exact fun D w1 hw1 => (by rw [← hT]; exact tiredR_T d hd A n c l w1 (hr.extM hw1.ext hAm) hA (by omega) hRos); rintro v H' ⟨x0, hx0, rfl, rfl⟩) | ((with_reducible apply u_q); (iterate 4 exact rfl)) | (apply Rd.old; (first | exact hW.d0 | exact hW.d1 | exact hW.d2 | exact hW.d3 | exact hW.t0 | exact hW.o0 | exact hW.f0 | exact hW.m0 | exact e0 | exact e1 | exact e2); first | exact hW.nD | exact hW.nT | exact hW.nO | exact hW.nF | exact hW.nM | exact hnx) | (with_reducible apply t_seq) | (apply t_region; kernel_rfl) | ((with_reducible apply t_condF); exact rfl) | (with_reducible apply t_skip) | with_reducible apply q_thenN | exact Rdn.zero | apply Rdn.succ)
  all_goals exact ⟨rfl, (), trivial, by (repeat (first | exact FrSub.nil | (apply FrSub.cons; exact rfl))), by (repeat (first | exact HpSub.refl _ | (apply HpSub.consE; (repeat (first | exact P0 | apply P1 | apply PA)); exact rfl) | apply hp_kA | apply HpSub.skipX | apply hp_skA | exact HpSub.nil))⟩
 rintro ⟨⟩ -
 by_cases htm : trip = m
 ·have hdr : ts0.drop trip = [] := List.drop_of_length_le (by omega)
  rw [hdr, tryF_end hyes]
  repeat' (first | ((with_reducible apply oq_eqlT); exact rfl; exact rfl; omega) | (apply oq_fn; exact rfl; try first | exact trivial | (and_intros <;> omega)) | ((with_reducible apply oq_load); exact rfl; exact rfl) | (with_reducible apply tl_nil) | ((with_reducible apply u_q); (iterate 4 exact rfl)) | (apply Rd.old; (first | exact hW.d0 | exact hW.d1 | exact hW.d2 | exact hW.d3 | exact hW.t0 | exact hW.o0 | exact hW.f0 | exact hW.m0 | exact e0 | exact e1 | exact e2); first | exact hW.nD | exact hW.nT | exact hW.nO | exact hW.nF | exact hW.nM | exact hnx) | (with_reducible apply t_seq) | (apply t_region; kernel_rfl) | ((with_reducible apply t_condT); exact rfl) | (with_reducible apply t_ret) | with_reducible apply q_thenN | with_reducible apply q_thenR | (with_reducible apply end_ret) | exact rvs_nil | (with_reducible apply rvs_cons) | ((with_reducible apply rv_tmp); exact rfl))
  all_goals exact ⟨_, ⟨R, hok, rfl, by simp only [List.append_nil]; rw [List.take_of_length_le (by simp; omega)], rfl⟩, HpW.refl _⟩
 refine t_cut (ι := Unit) (fun _ => [(0, .int .i64 (trip : Nat)), (1, .int .i64 (who : Nat)), (2, .slice A n c), (3, .pointer (some ⟨bD, 0, none⟩)), (4, .pointer (some ⟨bT, 0, none⟩)), (5, .pointer (some ⟨bO, 0, none⟩)), (6, .pointer (some ⟨bF, 0, none⟩)), (7, .pointer (some ⟨bM, 0, none⟩))]) (fun _ => outH g m R) (fun _ => True) ?_ ?_
 ·repeat' (first | ((with_reducible apply oq_eqlF); exact rfl; exact rfl; omega) | (apply oq_fn; exact rfl; try first | exact trivial | (and_intros <;> omega)) | ((with_reducible apply oq_load); exact rfl; exact rfl) | (with_reducible apply tl_nil) | ((with_reducible apply u_q); (iterate 4 exact rfl)) | (apply Rd.old; (first | exact hW.d0 | exact hW.d1 | exact hW.d2 | exact hW.d3 | exact hW.t0 | exact hW.o0 | exact hW.f0 | exact hW.m0 | exact e0 | exact e1 | exact e2); first | exact hW.nD | exact hW.nT | exact hW.nO | exact hW.nF | exact hW.nM | exact hnx) | (with_reducible apply t_seq) | (apply t_region; kernel_rfl) | ((with_reducible apply t_condF); exact rfl) | (with_reducible apply t_skip) | with_reducible apply q_thenN)
  all_goals exact ⟨rfl, (), trivial, by (repeat (first | exact FrSub.nil | (apply FrSub.cons; exact rfl))), by (repeat (first | exact HpSub.refl _ | (apply HpSub.consE; (repeat (first | exact P0 | apply P1 | apply PA)); exact rfl) | apply hp_kA | apply HpSub.skipX | apply hp_skA | exact HpSub.nil))⟩
 rintro ⟨⟩ -
 have htl : trip < m := by omega
 obtain ⟨bx, ox, x, hATe, hbx, hx, e0, e1, e2⟩ := tr_read hW.ts_ htl
 have hnx := hW.nA (by omega) _ _ hATe
 subst hATe
 have hxo := hto x (List.mem_of_getElem? hx)
 unfold trOk at hxo
 have hcx := hcl x hx
 have hdx := dep_drop hx
 have hdrop : ts0.drop trip = x :: ts0.drop (trip + 1) := by
  obtain ⟨h1, h2⟩ := List.getElem?_eq_some_iff.1 hx
  rw [List.drop_eq_getElem_cons h1, h2]
 obtain ⟨⟨cur', o⟩, hrow⟩ : ∃ r, R[trip]? = some r := ⟨_, List.getElem?_eq_getElem (by omega)⟩
 obtain rfl : cur' = cur := hcur _ hrow
 have hcs : (R.map Prod.fst).take (trip + 1) = (R.map Prod.fst).take trip ++ [cur'] := by
  rw [List.take_add_one, List.getElem?_map, hrow]; rfl
 obtain ⟨cs, hcse⟩ : ∃ cs, R.map Prod.fst = cs := ⟨_, rfl⟩
 have hcsl : cs.length = m := by rw [← hcse, List.length_map, hR]
 have hct : cs[trip]? = some cur' := by rw [← hcse, List.getElem?_map, hrow]; rfl
 have hcr : ∀ j r, trip < j → cs[j]? = some r → r = [] := fun j r hj hr => by
  rw [← hcse, List.getElem?_map] at hr
  obtain ⟨r', h1, rfl⟩ := Option.map_eq_some_iff.1 hr
  exact hrest j r' hj h1
 rw [hcse] at hcs ⊢
 have hlen : ∀ R' : List Row, R'.map Prod.fst = cs → R'.length = m := fun R' h => by rw [← hcsl, ← h, List.length_map]
 have hsp : ∀ R' : List Row, R'.map Prod.fst = cs → ∃ R1 o R2, R' = R1 ++ (cur', o) :: R2 ∧ R1.length = trip := fun R' h => by
  have h1 := hct
  rw [← h, List.getElem?_map] at h1
  obtain ⟨⟨c', o'⟩, h2, h3⟩ := Option.map_eq_some_iff.1 h1
  simp only at h3
  subst h3
  obtain ⟨R1, R2, h4, h5⟩ := row_split h2
  exact ⟨R1, o', R2, h4, h5⟩
 refine t_cut (ι := Nat) (fun b12 => [(0, .int .i64 (trip : Nat)), (1, .int .i64 (who : Nat)), (2, .slice A n c), (3, .pointer (some ⟨bD, 0, none⟩)), (4, .pointer (some ⟨bT, 0, none⟩)), (5, .pointer (some ⟨bO, 0, none⟩)), (6, .pointer (some ⟨bF, 0, none⟩)), (7, .pointer (some ⟨bM, 0, none⟩)), (12, .pointer (some ⟨b12, 0, none⟩))]) (fun b12 => (b12, [.int .i64 x.fr, .int .i64 x.to, .int .i64 x.crew], some (114, 3, 1)) :: outH g m R) (fun _ => True) ?_ ?_
 ·repeat' (first | (focus ((with_reducible apply oq_indexAddrN); (iterate 4 exact rfl); omega)) | (apply oq_fn; exact rfl; try first | exact trivial | (and_intros <;> omega)) | ((with_reducible apply oq_load); exact rfl; exact rfl) | ((with_reducible apply oq_loadAgg); exact rfl; exact rfl) | (with_reducible apply tl_nil) | ((with_reducible apply u_q); (iterate 4 exact rfl)) | ((with_reducible apply u_s0); exact rfl; exact rfl) | ((with_reducible apply u_s); (iterate 3 exact rfl)) | ((with_reducible apply os_x); exact rfl) | ((with_reducible apply os_storeAgg); (iterate 5 exact rfl)) | ((with_reducible apply ox_alloc); exact rfl; intro _) | (apply Rd.old; (first | exact hW.d0 | exact hW.d1 | exact hW.d2 | exact hW.d3 | exact hW.t0 | exact hW.o0 | exact hW.f0 | exact hW.m0 | exact e0 | exact e1 | exact e2); first | exact hW.nD | exact hW.nT | exact hW.nO | exact hW.nF | exact hW.nM | exact hnx) | (apply t_region; kernel_rfl) | exact P0 | exact Rdn.zero | apply Rdn.succ | ((with_reducible apply Norm.nil); exact rfl) | ((with_reducible apply Norm.cons); exact rfl) | exact Nat.le_of_ble_eq_true rfl)
  all_goals exact ⟨rfl, _, trivial, by (repeat (first | exact FrSub.nil | (apply FrSub.cons; exact rfl))), by (repeat (first | exact HpSub.refl _ | (apply HpSub.consE; (repeat (first | exact P0 | apply P1 | apply PA)); exact rfl) | apply hp_kA | apply HpSub.skipX | apply hp_skA | exact HpSub.nil))⟩
 rintro b12 -
 try dsimp only
 obtain ⟨R1, o, R2, hRe, hR1⟩ := hsp R hcse
 have hA1 : (R1.map rwV).length = trip := by rw [List.length_map, hR1]
 by_cases hc : (cur'.length : Int) = x.crew
 ·rw [hdrop, tryF_full hyes hc]
  refine t_seq ?_
  refine t_cut (ι := Unit) (fun _ => [(0, .int .i64 (trip : Nat)), (1, .int .i64 (who : Nat)), (2, .slice A n c), (3, .pointer (some ⟨bD, 0, none⟩)), (4, .pointer (some ⟨bT, 0, none⟩)), (5, .pointer (some ⟨bO, 0, none⟩)), (6, .pointer (some ⟨bF, 0, none⟩)), (7, .pointer (some ⟨bM, 0, none⟩)), (12, .pointer (some ⟨b12, 0, none⟩)), (38, .bool true)]) (fun _ => (b12, [.int .i64 x.fr, .int .i64 x.to, .int .i64 x.crew], some (114, 3, 1)) :: outH g m R) (fun _ => True) ?_ ?_
  ·refine t_subW (HpSub.front (by rw [hRe]; exact out_to0 g m R1 (cur', o) R2)).w ?_
   unfold outR
   repeat' (first | (focus ((with_reducible apply oq_indexAddrN); (iterate 4 exact rfl); omega)) | ((with_reducible apply oq_eqlT); exact rfl; exact rfl; omega) | (apply oq_fn; exact rfl; try first | exact trivial | (and_intros <;> omega)) | ((with_reducible apply oq_load); exact rfl; exact rfl) | (with_reducible apply v_nil) | ((with_reducible apply v_q); (iterate 3 exact rfl)) | (apply Rd.old; (first | exact hW.d0 | exact hW.d1 | exact hW.d2 | exact hW.d3 | exact hW.t0 | exact hW.o0 | exact hW.f0 | exact hW.m0 | exact e0 | exact e1 | exact e2); first | exact hW.nD | exact hW.nT | exact hW.nO | exact hW.nF | exact hW.nM | exact hnx) | (apply Rd.own; (repeat (first | exact P0 | apply P1 | apply PA)); exact rwV_at hA1; done) | (apply Rd.own; (repeat (first | exact P0 | apply P1 | apply PA)); exact rfl; done) | (apply t_mix (id := 6) [0, 1, 2, 3, 4, 5, 6, 7] 0 #[false, false, false, false, false, false, false, false]; kernel_rfl; kernel_rfl; exact rfl) | (apply al_done; decide +kernel))
   all_goals exact ⟨rfl, (), trivial, by (repeat (first | exact FrSub.nil | (apply FrSub.cons; exact rfl))), by (rw [hRe]; exact HpSub.front (out_of0 g m R1 (cur', o) R2))⟩
  rintro ⟨⟩ -
  obtain ⟨res, hres⟩ : ∃ r, tryF d mem f (ts0.drop (trip + 1)) [] 0 l = r := ⟨_, rfl⟩
  rw [hres]
  repeat' (first | ((with_reducible apply oq_addE (k := ((trip + 1 : Nat) : Int))); exact rfl; exact rfl; omega) | (apply oq_fn; exact rfl; try first | exact trivial | (and_intros <;> omega)) | ((with_reducible apply oq_load); exact rfl; exact rfl) | (with_reducible apply tl_nil) | ((with_reducible apply u_s); (iterate 3 exact rfl); (with_reducible apply os_callM (G := outH g m R) (R := [(b12, [.int .i64 x.fr, .int .i64 x.to, .int .i64 x.crew], some (114, 3, 1))]) (PV := TryP g m cs (trip + 1) res) (k := 88) (hc := Try.call88)); exact rfl; exact rfl; exact hp_comm [_] _; exact fun D w1 hw1 hw2 => (by have h := ih (trip + 1) 0 l R [] A n c w1 hR hok (by omega) (fun j r hj => hrest j r (by omega)) (fun r hr' => hrest (trip + 1) r (by omega) hr') (fun _ => rfl) (fun y hy => by have := hto y (List.mem_of_getElem? hy); unfold trOk at this; simp only [List.length_nil]; omega) (by simp only [List.length_nil]; omega) (by omega) (by omega) (hr.extM hw1.ext hAm) hA hAm (hW.next (by omega) hw1 fun b hb => mem_fst (X := [_]) hb) hw2; rw [hres, hcse] at h; exact h); rintro v H1 ⟨R', hok', rfl, hcs', rfl⟩) | ((with_reducible apply u_q); (iterate 4 exact rfl)) | (apply Rd.old; (first | exact hW.d0 | exact hW.d1 | exact hW.d2 | exact hW.d3 | exact hW.t0 | exact hW.o0 | exact hW.f0 | exact hW.m0 | exact e0 | exact e1 | exact e2); first | exact hW.nD | exact hW.nT | exact hW.nO | exact hW.nF | exact hW.nM | exact hnx) | (with_reducible apply t_seq) | (apply t_region; kernel_rfl) | ((with_reducible apply t_condT); exact rfl) | (with_reducible apply t_ret) | with_reducible apply q_thenN | with_reducible apply q_thenR | (with_reducible apply end_ret) | exact rvs_nil | (with_reducible apply rvs_cons) | ((with_reducible apply rv_tmp); exact rfl))
  all_goals (refine ⟨_, ⟨R', hok', ?_, ?_, rfl⟩, (HpSub.w hp_left)⟩)
  ·cases res <;> rfl
  ·rw [hcs']
   cases res with
   | none => rfl
   | some rs => simp only [Option.map_some, hcs, List.append_assoc, List.cons_append, List.nil_append]
 rw [hdrop, tryF_loop hyes hc]
 obtain ⟨Fk, hFk⟩ : ∃ F : Nat → Option (List (List Int)), (fun k : Nat => tryF d mem f (x :: ts0.drop (trip + 1)) (cur' ++ [(k : Int)]) (k + 1) (l ++ [⟨(k : Int), x.fr, x.to⟩])) = F := ⟨_, rfl⟩
 rw [hFk]
 have hFe : ∀ k : Nat, tryF d mem f (x :: ts0.drop (trip + 1)) (cur' ++ [(k : Int)]) (k + 1) (l ++ [⟨(k : Int), x.fr, x.to⟩]) = Fk k := fun k => congrFun hFk k
 refine t_cut (ι := Unit) (fun _ => [(0, .int .i64 (trip : Nat)), (1, .int .i64 (who : Nat)), (2, .slice A n c), (3, .pointer (some ⟨bD, 0, none⟩)), (4, .pointer (some ⟨bT, 0, none⟩)), (5, .pointer (some ⟨bO, 0, none⟩)), (6, .pointer (some ⟨bF, 0, none⟩)), (7, .pointer (some ⟨bM, 0, none⟩)), (12, .pointer (some ⟨b12, 0, none⟩))]) (fun _ => (b12, [.int .i64 x.fr, .int .i64 x.to, .int .i64 x.crew], some (114, 3, 1)) :: outH g m R) (fun _ => True) ?_ ?_
 ·refine t_subW (HpSub.front (by rw [hRe]; exact out_to0 g m R1 (cur', o) R2)).w ?_
  unfold outR
  repeat' (first | (focus ((with_reducible apply oq_indexAddrN); (iterate 4 exact rfl); omega)) | ((with_reducible apply oq_eqlF); exact rfl; exact rfl; omega) | (apply oq_fn; exact rfl; try first | exact trivial | (and_intros <;> omega)) | ((with_reducible apply oq_load); exact rfl; exact rfl) | (with_reducible apply v_nil) | ((with_reducible apply v_q); (iterate 3 exact rfl)) | (apply Rd.old; (first | exact hW.d0 | exact hW.d1 | exact hW.d2 | exact hW.d3 | exact hW.t0 | exact hW.o0 | exact hW.f0 | exact hW.m0 | exact e0 | exact e1 | exact e2); first | exact hW.nD | exact hW.nT | exact hW.nO | exact hW.nF | exact hW.nM | exact hnx) | (apply Rd.own; (repeat (first | exact P0 | apply P1 | apply PA)); exact rwV_at hA1; done) | (apply Rd.own; (repeat (first | exact P0 | apply P1 | apply PA)); exact rfl; done) | (apply t_mix (id := 6) [0, 1, 2, 3, 4, 5, 6, 7] 0 #[false, false, false, false, false, false, false, false]; kernel_rfl; kernel_rfl; exact rfl) | (with_reducible apply t_seq) | ((with_reducible apply t_condF); exact rfl) | (with_reducible apply t_skip) | with_reducible apply q_thenN | (apply al_done; decide +kernel))
  all_goals exact ⟨rfl, (), trivial, by (repeat (first | exact FrSub.nil | (apply FrSub.cons; exact rfl))), by (rw [hRe]; exact HpSub.front (out_of0 g m R1 (cur', o) R2))⟩
 rintro ⟨⟩ -
 repeat' (first | (with_reducible apply t_seq) | (with_reducible apply t_block))
 apply t_loopK (GH := []) (ι := Nat × List Row) [0, 2, 3, 4, 5, 6, 7, 12] (fun z => [(1, .int .i64 (z.1 : Nat))]) (fun z => (b12, [.int .i64 x.fr, .int .i64 x.to, .int .i64 x.crew], some (114, 3, 1)) :: outH g m z.2) (fun z => who ≤ z.1 ∧ (z.1 ≤ mem ∨ z.1 = who) ∧ z.2.map Prod.fst = cs ∧ (∀ r ∈ z.2, LrOk r) ∧ (List.range' who (mem - who)).findSome? Fk = (List.range' z.1 (mem - z.1)).findSome? Fk) (fun z => mem - z.1) ((who, R))
 (repeat (first | exact KeepF.nil | (apply KeepF.cons; exact rfl) | apply KeepF.skip))
 (repeat (first | exact FrSub.nil | (apply FrSub.cons; exact rfl)))
 ((try simp only [List.append_nil]); (repeat (first | exact HpSub.refl _ | (apply HpSub.consE; (repeat (first | exact P0 | apply P1 | apply PA)); exact rfl) | apply hp_kA | apply HpSub.skipX | apply hp_skA | exact HpSub.nil)))
 ·exact ⟨Nat.le_refl _, .inr rfl, hcse, hok, rfl⟩
 clear hRe hR1 hA1 R1 R2 o
 rintro ⟨k, R3⟩ ⟨p1, p2, p3, p4, p5⟩
 simp only at p1 p2 p3 p4 p5
 try dsimp only
 try simp only [List.append_nil]
 by_cases hk : k < mem
 rotate_left
 ·rw [p5, some_end (by omega)]
  repeat' (first | ((with_reducible apply oq_lssF); exact rfl; exact rfl; omega) | (apply oq_fn; exact rfl; try first | exact trivial | (and_intros <;> omega)) | ((with_reducible apply oq_load); exact rfl; exact rfl) | (with_reducible apply tl_nil) | ((with_reducible apply u_q); (iterate 4 exact rfl)) | (apply Rd.old; (first | exact hW.d0 | exact hW.d1 | exact hW.d2 | exact hW.d3 | exact hW.t0 | exact hW.o0 | exact hW.f0 | exact hW.m0 | exact e0 | exact e1 | exact e2); first | exact hW.nD | exact hW.nT | exact hW.nO | exact hW.nF | exact hW.nM | exact hnx) | (with_reducible apply t_seq) | (apply t_region; kernel_rfl) | ((with_reducible apply t_condF); exact rfl) | (with_reducible apply t_ret) | (with_reducible apply t_exit) | with_reducible apply q_thenN | with_reducible apply q_thenE | ((with_reducible apply q_blockE); exact rfl) | (with_reducible apply end_ret) | exact rvs_nil | (with_reducible apply rvs_cons) | ((with_reducible apply rv_tmp); exact rfl))
  all_goals exact ⟨_, ⟨R3, p4, rfl, p3, rfl⟩, HpSub.w hp_left1⟩
 obtain ⟨R1, o, R2, hRe, hR1⟩ := hsp R3 p3
 have hA1 : (R1.map rwV).length = trip := by rw [List.length_map, hR1]
 have hro := p4 (cur', o) (by rw [hRe]; simp)
 unfold LrOk at hro
 simp only at hro
 refine t_cut (ι := Unit) (fun _ => [(0, .int .i64 (trip : Nat)), (1, .int .i64 (k : Nat)), (2, .slice A n c), (3, .pointer (some ⟨bD, 0, none⟩)), (4, .pointer (some ⟨bT, 0, none⟩)), (5, .pointer (some ⟨bO, 0, none⟩)), (6, .pointer (some ⟨bF, 0, none⟩)), (7, .pointer (some ⟨bM, 0, none⟩)), (12, .pointer (some ⟨b12, 0, none⟩))]) (fun _ => (b12, [.int .i64 x.fr, .int .i64 x.to, .int .i64 x.crew], some (114, 3, 1)) :: outH g m R3) (fun _ => True) ?_ ?_
 ·repeat' (first | ((with_reducible apply oq_lssT); exact rfl; exact rfl; omega) | (apply oq_fn; exact rfl; try first | exact trivial | (and_intros <;> omega)) | ((with_reducible apply oq_load); exact rfl; exact rfl) | (with_reducible apply tl_nil) | ((with_reducible apply u_q); (iterate 4 exact rfl)) | (apply Rd.old; (first | exact hW.d0 | exact hW.d1 | exact hW.d2 | exact hW.d3 | exact hW.t0 | exact hW.o0 | exact hW.f0 | exact hW.m0 | exact e0 | exact e1 | exact e2); first | exact hW.nD | exact hW.nT | exact hW.nO | exact hW.nF | exact hW.nM | exact hnx) | (with_reducible apply t_seq) | (apply t_region; kernel_rfl) | ((with_reducible apply t_condT); exact rfl) | (with_reducible apply t_skip) | with_reducible apply q_thenN)
  all_goals exact ⟨rfl, (), trivial, by (repeat (first | exact FrSub.nil | (apply FrSub.cons; exact rfl))), by (repeat (first | exact HpSub.refl _ | (apply HpSub.consE; (repeat (first | exact P0 | apply P1 | apply PA)); exact rfl) | apply hp_kA | apply HpSub.skipX | apply hp_skA | exact HpSub.nil))⟩
 rintro ⟨⟩ -
 refine t_seq ?_
 refine t_block ?_
 refine t_cut (ι := Nat × Nat) (fun _ => [(0, .int .i64 (trip : Nat)), (1, .int .i64 (k : Nat)), (2, .slice A n c), (3, .pointer (some ⟨bD, 0, none⟩)), (4, .pointer (some ⟨bT, 0, none⟩)), (5, .pointer (some ⟨bO, 0, none⟩)), (6, .pointer (some ⟨bF, 0, none⟩)), (7, .pointer (some ⟨bM, 0, none⟩)), (12, .pointer (some ⟨b12, 0, none⟩))]) (fun z => (b12, [.int .i64 x.fr, .int .i64 x.to, .int .i64 x.crew], some (114, 3, 1)) :: outR g m R1 (cur' ++ [(k : Int)], some z) R2) (fun _ => True) ?_ ?_
 ·refine t_subW (HpSub.front (by rw [hRe]; exact out_to0 g m R1 (cur', o) R2)).w ?_
  unfold outR rowH
  rw [rowV_mk]
  have hpc := hro.2
  rcases o with _ | ⟨go, co⟩
  ·obtain rfl := List.length_eq_zero_iff.1 (hro.1 rfl)
   simp only [clA, clC, clH, List.nil_append, List.length_nil]
   repeat' (first | (focus ((with_reducible apply oq_indexAddrN); (iterate 4 exact rfl); omega)) | (apply oq_fn; exact rfl; try first | exact trivial | (and_intros <;> omega)) | ((with_reducible apply oq_load); exact rfl; exact rfl) | (with_reducible apply v_nil) | ((with_reducible apply v_q); (iterate 3 exact rfl)) | ((with_reducible apply (os_storeV hA1)); (iterate 4 exact rfl); (repeat (first | exact P0 | apply P1 | apply PA))) | ((with_reducible apply os_appendNil (hk := app_ok41)); exact rfl; exact rfl) | ((with_reducible apply ox_buildSlice1); (iterate 6 exact rfl); intro _) | ((with_reducible apply ai_q); (iterate 5 exact rfl)) | ((with_reducible apply ai_x); (iterate 5 exact rfl)) | ((with_reducible apply ai_n0); (iterate 3 exact rfl)) | ((with_reducible apply ai_n); (iterate 4 exact rfl)) | ((with_reducible apply al_keep); focus (repeat (first | exact HpSub.refl _ | (apply HpSub.cons; (repeat (first | exact P0 | apply P1 | apply PA))) | apply HpSub.skipX | exact HpSub.nil))) | (apply Rd.old; (first | exact hW.d0 | exact hW.d1 | exact hW.d2 | exact hW.d3 | exact hW.t0 | exact hW.o0 | exact hW.f0 | exact hW.m0 | exact e0 | exact e1 | exact e2); first | exact hW.nD | exact hW.nT | exact hW.nO | exact hW.nF | exact hW.nM | exact hnx) | (apply Rd.own; (repeat (first | exact P0 | apply P1 | apply PA)); exact rwV_at hA1; done) | (apply Rd.own; (repeat (first | exact P0 | apply P1 | apply PA)); exact rfl; done) | (apply t_mixZ (id := 10) [0, 1, 2, 3, 4, 6] 5; kernel_rfl; kernel_rfl; exact rfl) | exact Rdn.zero | apply Rdn.succ | (apply al_done; decide +kernel) | (apply al_one 5; decide +kernel) | (apply al_one 7; decide +kernel) | (apply al_one 8; decide +kernel) | (apply al_one 9; decide +kernel) | (apply al_one 10; decide +kernel) | (apply al_two 5 7; decide +kernel) | (intro gN cN; refine al_keep ?_ ?_; focus exact HpSub.nil) | exact Nat.le_of_ble_eq_true rfl | exact (rfl : (_ : Bool) = true))
   all_goals exact ⟨rfl, (gN, cN), trivial, by (repeat (first | exact FrSub.nil | (apply FrSub.cons; exact rfl))), by (show HpSub _ ((b12, [.int .i64 x.fr, .int .i64 x.to, .int .i64 x.crew], some (114, 3, 1)) :: outR g m R1 (([] : List Int) ++ [(k : Int)], some (gN, cN)) R2); unfold outR rowH; simp only [clH, List.cons_append, List.nil_append]; (repeat (first | exact HpSub.refl _ | (apply HpSub.consE; (repeat (first | exact P0 | apply P1 | apply PA)); first | exact rfl | (focus (simp [iv]; done)) | (focus (rw [rowV_mk]; simp [clA, clC]; done))) | apply hp_kA | apply HpSub.skipX | apply hp_skA | exact HpSub.nil)))⟩
  ·simp only [clA, clC, clH, List.cons_append, List.nil_append]
   repeat' (first | (focus ((with_reducible apply oq_indexAddrN); (iterate 4 exact rfl); omega)) | (apply oq_fn; exact rfl; try first | exact trivial | (and_intros <;> omega)) | ((with_reducible apply oq_load); exact rfl; exact rfl) | (with_reducible apply v_nil) | ((with_reducible apply v_q); (iterate 3 exact rfl)) | ((with_reducible apply (os_storeV hA1)); (iterate 4 exact rfl); (repeat (first | exact P0 | apply P1 | apply PA))) | ((with_reducible apply os_append (hk := app_ok41)); exact rfl; exact rfl; (repeat (first | exact P0 | apply P1 | apply PA))) | ((with_reducible apply ox_buildSlice1); (iterate 6 exact rfl); intro _) | ((with_reducible apply ai_q); (iterate 5 exact rfl)) | ((with_reducible apply ai_x); (iterate 5 exact rfl)) | ((with_reducible apply ai_n0); (iterate 3 exact rfl)) | ((with_reducible apply ai_n); (iterate 4 exact rfl)) | ((with_reducible apply al_keep); focus (repeat (first | exact HpSub.refl _ | (apply HpSub.cons; (repeat (first | exact P0 | apply P1 | apply PA))) | apply HpSub.skipX | exact HpSub.nil))) | (apply Rd.old; (first | exact hW.d0 | exact hW.d1 | exact hW.d2 | exact hW.d3 | exact hW.t0 | exact hW.o0 | exact hW.f0 | exact hW.m0 | exact e0 | exact e1 | exact e2); first | exact hW.nD | exact hW.nT | exact hW.nO | exact hW.nF | exact hW.nM | exact hnx) | (apply Rd.own; (repeat (first | exact P0 | apply P1 | apply PA)); exact rwV_at hA1; done) | (apply Rd.own; (repeat (first | exact P0 | apply P1 | apply PA)); exact rfl; done) | (apply t_mixZ (id := 10) [0, 1, 2, 3, 4, 6] 5; kernel_rfl; kernel_rfl; exact rfl) | exact Rdn.zero | apply Rdn.succ | (apply al_done; decide +kernel) | (apply al_one 5; decide +kernel) | (apply al_one 7; decide +kernel) | (apply al_one 8; decide +kernel) | (apply al_one 9; decide +kernel) | (apply al_one 10; decide +kernel) | (apply al_two 5 7; decide +kernel) | (simp only [List.length_map, Nat.mul_one]; done) | (intro gN cN; refine al_keep ?_ ?_; focus exact HpSub.nil) | exact Nat.le_of_ble_eq_true rfl | exact (rfl : (_ : Bool) = true) | omega)
   all_goals exact ⟨rfl, (gN, cN), trivial, by (repeat (first | exact FrSub.nil | (apply FrSub.cons; exact rfl))), by (show HpSub _ ((b12, [.int .i64 x.fr, .int .i64 x.to, .int .i64 x.crew], some (114, 3, 1)) :: outR g m R1 (cur' ++ [(k : Int)], some (gN, cN)) R2); unfold outR rowH; simp only [clH, List.cons_append, List.nil_append]; (repeat (first | exact HpSub.refl _ | (apply HpSub.consE; (repeat (first | exact P0 | apply P1 | apply PA)); first | exact rfl | (focus (simp [iv]; done)) | (focus (rw [rowV_mk]; simp [clA, clC]; done))) | apply hp_kA | apply HpSub.skipX | apply hp_skA | exact HpSub.nil)))⟩
 rintro ⟨gN, cN⟩ -
 try dsimp only
 refine t_fact (P := cur'.length + 1 ≤ cN) (fun M w h => by
  have := h.capge (show Pick _ gN ((cur' ++ [(k : Int)]).map iv) (some (3, 1, cN)) _ from Pick.tail (Pick.head _ _ _ _))
  simp only [List.length_map, List.length_append, List.length_cons, List.length_nil] at this
  omega) fun hcN => ?_
 refine t_subW (HpSub.front (out_of0 g m R1 (cur' ++ [(k : Int)], some (gN, cN)) R2)).w ?_
 obtain ⟨R4, hR4⟩ : ∃ R, R1 ++ (cur' ++ [(k : Int)], some (gN, cN)) :: R2 = R := ⟨_, rfl⟩
 rw [hR4]
 have hll : (cur' ++ [(k : Int)]).length = cur'.length + 1 := by simp
 have hcs4 : R4.map Prod.fst = cs.set trip (cur' ++ [(k : Int)]) := by
  rw [← hR4, ← p3, hRe, ← hR1]
  simp
 have hR4l : R4.length = m := by have := congrArg List.length hcs4; simp at this; omega
 have hok4 : ∀ r ∈ R4, LrOk r := fun r hr => by
  rw [← hR4] at hr
  rcases List.mem_append.1 hr with hr | hr
  ·exact p4 r (by rw [hRe]; exact List.mem_append_left _ hr)
  ·rcases List.mem_cons.1 hr with rfl | hr
   ·exact ⟨(fun h => by cases h), by simp only [hll, clC]; exact hcN⟩
   ·exact p4 r (by rw [hRe]; exact List.mem_append_right _ (List.mem_cons_of_mem _ hr))
 have hg4 : ∀ (j : Nat) r, R4[j]? = some r → (cs.set trip (cur' ++ [(k : Int)]))[j]? = some r.1 := fun j r hr => by
  rw [← hcs4, List.getElem?_map, hr]; rfl
 have hrest4 : ∀ (j : Nat) r, trip < j → R4[j]? = some r → r.1 = [] := fun j r hj hr => by
  have h1 := hg4 j r hr
  rw [List.getElem?_set_ne (by omega)] at h1
  exact hcr j _ hj h1
 have hcur4 : ∀ r, R4[trip]? = some r → r.1 = cur' ++ [(k : Int)] := fun r hr => by
  have h1 := hg4 trip r hr
  rw [List.getElem?_set, if_pos rfl, if_pos (by omega)] at h1
  exact (Option.some.inj h1).symm
 have e2 : ((l ++ [(⟨(k : Int), x.fr, x.to⟩ : Sh)]).map shCells).flatten = shB l ++ [.int .i64 (k : Int), .int .i64 x.fr, .int .i64 x.to] := by simp [shB, shCells]
 have hfl : (shB l).length = n * 3 := by rw [sh_flat_len, hl]
 have hih := fun A' c' w1 h1 h2 h3 h4 h5 => ih trip (k + 1) (l ++ [(⟨(k : Int), x.fr, x.to⟩ : Sh)]) R4 (cur' ++ [(k : Int)]) A' (n + 1) c' w1 hR4l hok4 htr hrest4 hcur4 (fun h => by omega) (fun y hy => by rw [hx] at hy; cases hy; omega) (by omega) (by omega) (by omega) h1 h2 h3 h4 h5
 rw [hdrop, hFe k, hcs4] at hih
 have hgo : (List.range' who (mem - who)).findSome? Fk = (match Fk k with | some rs => some rs | none => (List.range' (k + 1) (mem - (k + 1))).findSome? Fk) := by
  rw [p5]
  cases hres : Fk k with
  | none => exact some_go hk hres
  | some rs => exact some_hit hk hres
 have hset : ∀ rs : List (List Int), (cs.set trip (cur' ++ [(k : Int)])).take trip ++ rs = cs.take trip ++ rs := fun rs => by
  rw [List.take_set, List.set_eq_of_length_le (by simp; omega)]
 obtain ⟨res, hres⟩ : ∃ r, Fk k = r := ⟨_, rfl⟩
 rw [hres] at hgo hih
 cases res with
 | some rs =>
  rw [hgo]
  rcases A with _ | ⟨bA, oA, qA⟩
  ·obtain ⟨rfl, rfl⟩ := hA rfl
   have hl0 : l = [] := List.length_eq_zero_iff.1 hl
   subst hl0
   repeat' (first | ((with_reducible apply oq_addE (k := ((k + 1 : Nat) : Int))); exact rfl; exact rfl; omega) | (apply oq_fn; exact rfl; try first | exact trivial | (and_intros <;> omega)) | ((with_reducible apply oq_load); exact rfl; exact rfl) | ((with_reducible apply oq_call (k := 89) (hc := Try.call89)); exact rfl; exact rfl; exact fun D w1 hw1 => cloneN w1) | ((with_reducible apply oq_build); (iterate 3 exact rfl)) | (with_reducible apply tl_nil) | ((with_reducible apply u_q); (iterate 4 exact rfl)) | (with_reducible apply v_nil) | ((with_reducible apply v_q); (iterate 3 exact rfl)) | ((with_reducible apply os_appendNil (hk := app_ok75)); exact rfl; exact rfl) | ((with_reducible apply ox_buildSlice); (iterate 4 exact rfl)) | ((with_reducible apply ai_s); (iterate 5 exact rfl); (with_reducible apply os_callM (G := outH g m R4) (PV := TryP g m (cs.set trip (cur' ++ [(k : Int)])) trip (some rs)) (k := 88) (hc := Try.call88)); exact rfl; exact rfl; (first | exact hp_comm [_, _] _ | exact hp_comm [_, _, _] _ | exact hp_comm [_, _, _, _] _); exact fun D w1 hw1 hw2 => hih (some ⟨gL, 0, none⟩) cL w1 (Blk.rows (rows := ([] ++ [(⟨(k : Int), x.fr, x.to⟩ : Sh)]).map shCells) (by rw [e2]; exact (hw1.blk _ (Pick.mem (by (repeat (first | exact P0 | apply P1 | apply PA))))).2) (by simp <;> omega) (sh_len _)) (fun h => by cases h) (fun _ b o hb => by cases hb; first | exact Has.off2 (X := [_, _]) hw1 (by simp) | exact Has.off2 (X := [_, _, _]) hw1 (by simp) | exact Has.off2 (X := [_, _, _, _]) hw1 (by simp)) (hW.next (by omega) hw1 (fun b hb => by first | exact mem_fst (X := [_, _]) hb | exact mem_fst (X := [_, _, _]) hb | exact mem_fst (X := [_, _, _, _]) hb)) hw2; rintro v H1 ⟨R5, hok5, rfl, hcs5, rfl⟩; (simp only [Option.isSome_some, Option.isSome_none])) | ((with_reducible apply ai_q); (iterate 5 exact rfl)) | ((with_reducible apply ai_x); (iterate 5 exact rfl)) | ((with_reducible apply ai_n); (iterate 4 exact rfl)) | (apply Rd.old; (first | exact hW.d0 | exact hW.d1 | exact hW.d2 | exact hW.d3 | exact hW.t0 | exact hW.o0 | exact hW.f0 | exact hW.m0 | exact e0 | exact e1 | exact e2); first | exact hW.nD | exact hW.nT | exact hW.nO | exact hW.nF | exact hW.nM | exact hnx) | (apply Rd.own; (repeat (first | exact P0 | apply P1 | apply PA)); exact rfl; done) | (apply t_mix (id := 11) [0, 1, 2, 3, 4, 6, 7, 8, 9, 10, 11] 4 #[false, false, false, false, false, false, false, false, false, false, false, false, false, false, true]; kernel_rfl; kernel_rfl; exact rfl) | (with_reducible apply t_seq) | (apply t_region; kernel_rfl) | ((with_reducible apply t_condT); exact rfl) | (with_reducible apply t_ret) | with_reducible apply q_thenN | with_reducible apply q_thenR | with_reducible apply q_blockR | exact Rdn.zero | apply Rdn.succ | ((with_reducible apply Norm.nil); exact rfl) | ((with_reducible apply Norm.cons); exact rfl) | (with_reducible apply end_ret) | exact rvs_nil | (with_reducible apply rvs_cons) | ((with_reducible apply rv_tmp); exact rfl) | (apply al_done; decide +kernel) | (apply al_one 5; decide +kernel) | (apply al_one 12; decide +kernel) | (apply al_one 13; decide +kernel) | (apply al_one 14; decide +kernel) | (apply al_two 5 12; decide +kernel) | (intro gL cL; refine al_keep ?_ ?_; focus (repeat (first | exact HpSub.refl _ | apply HpSub.skipX))) | exact Nat.le_of_ble_eq_true rfl | exact (rfl : (_ : Bool) = true) | (intro _; with_reducible apply al_id))
   all_goals exact ⟨_, ⟨R5, hok5, rfl, (by rw [hcs5]; exact hset rs), rfl⟩, HpSub.w hp_left⟩
  ·repeat' (first | ((with_reducible apply oq_addE (k := ((k + 1 : Nat) : Int))); exact rfl; exact rfl; omega) | (apply oq_fn; exact rfl; try first | exact trivial | (and_intros <;> omega)) | ((with_reducible apply oq_load); exact rfl; exact rfl) | ((with_reducible apply oq_build); (iterate 3 exact rfl)) | (with_reducible apply tl_nil) | ((with_reducible apply u_q); (iterate 4 exact rfl)) | (with_reducible apply v_nil) | ((with_reducible apply v_q); (iterate 3 exact rfl)) | ((with_reducible apply os_append (hk := app_ok75)); exact rfl; exact rfl; (repeat (first | exact P0 | apply P1 | apply PA))) | ((with_reducible apply ox_buildSlice); (iterate 4 exact rfl)) | ((with_reducible apply ai_s); (iterate 5 exact rfl); (with_reducible apply os_callM (G := outH g m R4) (PV := TryP g m (cs.set trip (cur' ++ [(k : Int)])) trip (some rs)) (k := 88) (hc := Try.call88)); exact rfl; exact rfl; (first | exact hp_comm [_, _] _ | exact hp_comm [_, _, _] _ | exact hp_comm [_, _, _, _] _); exact fun D w1 hw1 hw2 => hih (some ⟨gL, 0, none⟩) cL w1 (Blk.rows (rows := (l ++ [(⟨(k : Int), x.fr, x.to⟩ : Sh)]).map shCells) (by rw [e2]; exact (hw1.blk _ (Pick.mem (by (repeat (first | exact P0 | apply P1 | apply PA))))).2) (by simp <;> omega) (sh_len _)) (fun h => by cases h) (fun _ b o hb => by cases hb; first | exact Has.off2 (X := [_, _]) hw1 (by simp) | exact Has.off2 (X := [_, _, _]) hw1 (by simp) | exact Has.off2 (X := [_, _, _, _]) hw1 (by simp)) (hW.next (by omega) hw1 (fun b hb => by first | exact mem_fst (X := [_, _]) hb | exact mem_fst (X := [_, _, _]) hb | exact mem_fst (X := [_, _, _, _]) hb)) hw2; rintro v H1 ⟨R5, hok5, rfl, hcs5, rfl⟩; (simp only [Option.isSome_some, Option.isSome_none])) | ((with_reducible apply ai_n); (iterate 4 exact rfl); (with_reducible apply os_callF (PV := OwnS (shB l) n) (k := 89) (hc := Try.call89)); exact rfl; exact rfl; exact fun D w1 hw1 => cloneO bA oA qA n c l w1 (hr.extM hw1.ext hAm) (by omega); rintro v H' ⟨gC, cC, rfl, rfl⟩; (try simp only [List.cons_append, List.nil_append])) | ((with_reducible apply ai_x); (iterate 5 exact rfl)) | ((with_reducible apply ai_n); (iterate 4 exact rfl)) | ((with_reducible apply al_keep); focus (repeat (first | exact HpSub.refl _ | (apply HpSub.cons; (repeat (first | exact P0 | apply P1 | apply PA))) | apply HpSub.skipX | exact HpSub.nil))) | (apply Rd.old; (first | exact hW.d0 | exact hW.d1 | exact hW.d2 | exact hW.d3 | exact hW.t0 | exact hW.o0 | exact hW.f0 | exact hW.m0 | exact e0 | exact e1 | exact e2); first | exact hW.nD | exact hW.nT | exact hW.nO | exact hW.nF | exact hW.nM | exact hnx) | (apply Rd.own; (repeat (first | exact P0 | apply P1 | apply PA)); exact rfl; done) | (apply t_mix (id := 11) [0, 1, 2, 3, 4, 6, 7, 8, 9, 10, 11] 4 #[false, false, false, false, false, false, false, false, false, false, false, false, false, false, true]; kernel_rfl; kernel_rfl; exact rfl) | (with_reducible apply t_seq) | (apply t_region; kernel_rfl) | ((with_reducible apply t_condT); exact rfl) | (with_reducible apply t_ret) | with_reducible apply q_thenN | with_reducible apply q_thenR | with_reducible apply q_blockR | exact Rdn.zero | apply Rdn.succ | ((with_reducible apply Norm.nil); exact rfl) | ((with_reducible apply Norm.cons); exact rfl) | (with_reducible apply end_ret) | exact rvs_nil | (with_reducible apply rvs_cons) | ((with_reducible apply rv_tmp); exact rfl) | (apply al_done; decide +kernel) | (apply al_one 5; decide +kernel) | (apply al_one 12; decide +kernel) | (apply al_one 13; decide +kernel) | (apply al_one 14; decide +kernel) | (apply al_two 5 12; decide +kernel) | exact hfl | (intro gL cL; refine al_keep ?_ ?_; focus (repeat (first | exact HpSub.refl _ | apply HpSub.skipX))) | exact Nat.le_of_ble_eq_true rfl | exact (rfl : (_ : Bool) = true) | omega | (intro _; with_reducible apply al_id))
   all_goals exact ⟨_, ⟨R5, hok5, rfl, (by rw [hcs5]; exact hset rs), rfl⟩, HpSub.w hp_left⟩
 | none =>
  simp only at hgo
  refine t_cut (ι := List Row) (fun _ => [(0, .int .i64 (trip : Nat)), (1, .int .i64 (k : Nat)), (2, .slice A n c), (3, .pointer (some ⟨bD, 0, none⟩)), (4, .pointer (some ⟨bT, 0, none⟩)), (5, .pointer (some ⟨bO, 0, none⟩)), (6, .pointer (some ⟨bF, 0, none⟩)), (7, .pointer (some ⟨bM, 0, none⟩)), (12, .pointer (some ⟨b12, 0, none⟩))]) (fun R5 => (b12, [.int .i64 x.fr, .int .i64 x.to, .int .i64 x.crew], some (114, 3, 1)) :: outH g m R5) (fun R5 => R5.map Prod.fst = cs.set trip (cur' ++ [(k : Int)]) ∧ ∀ r ∈ R5, LrOk r) ?_ ?_
  ·rcases A with _ | ⟨bA, oA, qA⟩
   ·obtain ⟨rfl, rfl⟩ := hA rfl
    have hl0 : l = [] := List.length_eq_zero_iff.1 hl
    subst hl0
    repeat' (first | ((with_reducible apply oq_addE (k := ((k + 1 : Nat) : Int))); exact rfl; exact rfl; omega) | (apply oq_fn; exact rfl; try first | exact trivial | (and_intros <;> omega)) | ((with_reducible apply oq_load); exact rfl; exact rfl) | ((with_reducible apply oq_call (k := 89) (hc := Try.call89)); exact rfl; exact rfl; exact fun D w1 hw1 => cloneN w1) | ((with_reducible apply oq_build); (iterate 3 exact rfl)) | (with_reducible apply v_nil) | ((with_reducible apply v_q); (iterate 3 exact rfl)) | ((with_reducible apply os_appendNil (hk := app_ok75)); exact rfl; exact rfl) | ((with_reducible apply ox_buildSlice); (iterate 4 exact rfl)) | ((with_reducible apply ai_s); (iterate 5 exact rfl); (with_reducible apply os_callM (G := outH g m R4) (PV := TryP g m (cs.set trip (cur' ++ [(k : Int)])) trip none) (k := 88) (hc := Try.call88)); exact rfl; exact rfl; (first | exact hp_comm [_, _] _ | exact hp_comm [_, _, _] _ | exact hp_comm [_, _, _, _] _); exact fun D w1 hw1 hw2 => hih (some ⟨gL, 0, none⟩) cL w1 (Blk.rows (rows := ([] ++ [(⟨(k : Int), x.fr, x.to⟩ : Sh)]).map shCells) (by rw [e2]; exact (hw1.blk _ (Pick.mem (by (repeat (first | exact P0 | apply P1 | apply PA))))).2) (by simp <;> omega) (sh_len _)) (fun h => by cases h) (fun _ b o hb => by cases hb; first | exact Has.off2 (X := [_, _]) hw1 (by simp) | exact Has.off2 (X := [_, _, _]) hw1 (by simp) | exact Has.off2 (X := [_, _, _, _]) hw1 (by simp)) (hW.next (by omega) hw1 (fun b hb => by first | exact mem_fst (X := [_, _]) hb | exact mem_fst (X := [_, _, _]) hb | exact mem_fst (X := [_, _, _, _]) hb)) hw2; rintro v H1 ⟨R5, hok5, rfl, hcs5, rfl⟩; (simp only [Option.isSome_some, Option.isSome_none])) | ((with_reducible apply ai_q); (iterate 5 exact rfl)) | ((with_reducible apply ai_x); (iterate 5 exact rfl)) | ((with_reducible apply ai_n); (iterate 4 exact rfl)) | (apply Rd.old; (first | exact hW.d0 | exact hW.d1 | exact hW.d2 | exact hW.d3 | exact hW.t0 | exact hW.o0 | exact hW.f0 | exact hW.m0 | exact e0 | exact e1 | exact e2); first | exact hW.nD | exact hW.nT | exact hW.nO | exact hW.nF | exact hW.nM | exact hnx) | (apply Rd.own; (repeat (first | exact P0 | apply P1 | apply PA)); exact rfl; done) | (apply t_mix (id := 11) [0, 1, 2, 3, 4, 6, 7, 8, 9, 10, 11] 4 #[false, false, false, false, false, false, false, false, false, false, false, false, false, false, true]; kernel_rfl; kernel_rfl; exact rfl) | (with_reducible apply t_seq) | ((with_reducible apply t_condF); exact rfl) | (with_reducible apply t_skip) | with_reducible apply q_thenN | exact Rdn.zero | apply Rdn.succ | ((with_reducible apply Norm.nil); exact rfl) | ((with_reducible apply Norm.cons); exact rfl) | (apply al_done; decide +kernel) | (apply al_one 5; decide +kernel) | (apply al_one 12; decide +kernel) | (apply al_one 13; decide +kernel) | (apply al_one 14; decide +kernel) | (apply al_two 5 12; decide +kernel) | (intro gL cL; refine al_keep ?_ ?_; focus (repeat (first | exact HpSub.refl _ | apply HpSub.skipX))) | exact Nat.le_of_ble_eq_true rfl | exact (rfl : (_ : Bool) = true) | (intro _; with_reducible apply al_id))
    all_goals exact ⟨rfl, R5, ⟨hcs5, hok5⟩, by (repeat (first | exact FrSub.nil | (apply FrSub.cons; exact rfl))), by first | exact hp_last2 | exact hp_last3 | exact hp_last4⟩
   ·repeat' (first | ((with_reducible apply oq_addE (k := ((k + 1 : Nat) : Int))); exact rfl; exact rfl; omega) | (apply oq_fn; exact rfl; try first | exact trivial | (and_intros <;> omega)) | ((with_reducible apply oq_load); exact rfl; exact rfl) | ((with_reducible apply oq_build); (iterate 3 exact rfl)) | (with_reducible apply v_nil) | ((with_reducible apply v_q); (iterate 3 exact rfl)) | ((with_reducible apply os_append (hk := app_ok75)); exact rfl; exact rfl; (repeat (first | exact P0 | apply P1 | apply PA))) | ((with_reducible apply ox_buildSlice); (iterate 4 exact rfl)) | ((with_reducible apply ai_s); (iterate 5 exact rfl); (with_reducible apply os_callM (G := outH g m R4) (PV := TryP g m (cs.set trip (cur' ++ [(k : Int)])) trip none) (k := 88) (hc := Try.call88)); exact rfl; exact rfl; (first | exact hp_comm [_, _] _ | exact hp_comm [_, _, _] _ | exact hp_comm [_, _, _, _] _); exact fun D w1 hw1 hw2 => hih (some ⟨gL, 0, none⟩) cL w1 (Blk.rows (rows := (l ++ [(⟨(k : Int), x.fr, x.to⟩ : Sh)]).map shCells) (by rw [e2]; exact (hw1.blk _ (Pick.mem (by (repeat (first | exact P0 | apply P1 | apply PA))))).2) (by simp <;> omega) (sh_len _)) (fun h => by cases h) (fun _ b o hb => by cases hb; first | exact Has.off2 (X := [_, _]) hw1 (by simp) | exact Has.off2 (X := [_, _, _]) hw1 (by simp) | exact Has.off2 (X := [_, _, _, _]) hw1 (by simp)) (hW.next (by omega) hw1 (fun b hb => by first | exact mem_fst (X := [_, _]) hb | exact mem_fst (X := [_, _, _]) hb | exact mem_fst (X := [_, _, _, _]) hb)) hw2; rintro v H1 ⟨R5, hok5, rfl, hcs5, rfl⟩; (simp only [Option.isSome_some, Option.isSome_none])) | ((with_reducible apply ai_n); (iterate 4 exact rfl); (with_reducible apply os_callF (PV := OwnS (shB l) n) (k := 89) (hc := Try.call89)); exact rfl; exact rfl; exact fun D w1 hw1 => cloneO bA oA qA n c l w1 (hr.extM hw1.ext hAm) (by omega); rintro v H' ⟨gC, cC, rfl, rfl⟩; (try simp only [List.cons_append, List.nil_append])) | ((with_reducible apply ai_x); (iterate 5 exact rfl)) | ((with_reducible apply ai_n); (iterate 4 exact rfl)) | ((with_reducible apply al_keep); focus (repeat (first | exact HpSub.refl _ | (apply HpSub.cons; (repeat (first | exact P0 | apply P1 | apply PA))) | apply HpSub.skipX | exact HpSub.nil))) | (apply Rd.old; (first | exact hW.d0 | exact hW.d1 | exact hW.d2 | exact hW.d3 | exact hW.t0 | exact hW.o0 | exact hW.f0 | exact hW.m0 | exact e0 | exact e1 | exact e2); first | exact hW.nD | exact hW.nT | exact hW.nO | exact hW.nF | exact hW.nM | exact hnx) | (apply Rd.own; (repeat (first | exact P0 | apply P1 | apply PA)); exact rfl; done) | (apply t_mix (id := 11) [0, 1, 2, 3, 4, 6, 7, 8, 9, 10, 11] 4 #[false, false, false, false, false, false, false, false, false, false, false, false, false, false, true]; kernel_rfl; kernel_rfl; exact rfl) | (with_reducible apply t_seq) | ((with_reducible apply t_condF); exact rfl) | (with_reducible apply t_skip) | with_reducible apply q_thenN | exact Rdn.zero | apply Rdn.succ | ((with_reducible apply Norm.nil); exact rfl) | ((with_reducible apply Norm.cons); exact rfl) | (apply al_done; decide +kernel) | (apply al_one 5; decide +kernel) | (apply al_one 12; decide +kernel) | (apply al_one 13; decide +kernel) | (apply al_one 14; decide +kernel) | (apply al_two 5 12; decide +kernel) | exact hfl | (intro gL cL; refine al_keep ?_ ?_; focus (repeat (first | exact HpSub.refl _ | apply HpSub.skipX))) | exact Nat.le_of_ble_eq_true rfl | exact (rfl : (_ : Bool) = true) | omega | (intro _; with_reducible apply al_id))
    all_goals exact ⟨rfl, R5, ⟨hcs5, hok5⟩, by (repeat (first | exact FrSub.nil | (apply FrSub.cons; exact rfl))), by first | exact hp_last2 | exact hp_last3 | exact hp_last4⟩
  rintro R5 ⟨hcs5, hok5⟩
  try dsimp only
  clear hrow hcur4 hrest4 hg4 hok4 hcs4 hR4l hih hR4 R4 hRe hR1 hA1 hro R1 R2 o hcN
  obtain ⟨o5, R51, R52, hRe5, hR15⟩ : ∃ o R1 R2, R5 = R1 ++ (cur' ++ [(k : Int)], o) :: R2 ∧ R1.length = trip := by
   have h1 : (R5.map Prod.fst)[trip]? = some (cur' ++ [(k : Int)]) := by rw [hcs5, List.getElem?_set, if_pos rfl, if_pos (by omega)]
   rw [List.getElem?_map] at h1
   obtain ⟨⟨c', o'⟩, h2, h3⟩ := Option.map_eq_some_iff.1 h1
   simp only at h3
   subst h3
   obtain ⟨R1, R2, h4, h5⟩ := row_split h2
   exact ⟨o', R1, R2, h4, h5⟩
  have hro5 := hok5 (cur' ++ [(k : Int)], o5) (by rw [hRe5]; simp)
  unfold LrOk at hro5
  simp only [hll] at hro5
  rcases o5 with _ | ⟨g5, c5⟩
  ·have := hro5.1 rfl
   omega
  have hA1 : (R51.map rwV).length = trip := by rw [List.length_map, hR15]
  have hcap : cur'.length ≤ c5 := by have := hro5.2; simp only [clC] at this; omega
  have hnn : (some ⟨g5, 0, none⟩ : Option Addr) = none → (cur' ++ [(k : Int)]).length = 0 ∧ c5 = 0 := fun h => by cases h
  obtain ⟨R6, hR6⟩ : ∃ R, R51 ++ (cur', some (g5, c5)) :: R52 = R := ⟨_, rfl⟩
  have hcs6 : R6.map Prod.fst = cs := by
   have h1 : (R51.map Prod.fst ++ (cur' ++ [(k : Int)]) :: R52.map Prod.fst) = cs.set trip (cur' ++ [(k : Int)]) := by rw [← hcs5, hRe5]; simp
   have h2 := congrArg (fun z => z.set trip cur') h1
   simp only [List.set_set] at h2
   rw [← hR6, List.map_append, List.map_cons]
   have hl1 : (R51.map Prod.fst).length = trip := by rw [List.length_map, hR15]
   rw [List.set_append_right _ _ (by omega), hl1, Nat.sub_self, List.set_cons_zero] at h2
   rw [h2]
   exact List.ext_getElem? fun j => by
    by_cases hj : trip = j
    ·subst hj; rw [List.getElem?_set, if_pos rfl, if_pos (by omega), hct]
    ·rw [List.getElem?_set_ne hj]
  have hok6 : ∀ r ∈ R6, LrOk r := fun r hr => by
   rw [← hR6] at hr
   rcases List.mem_append.1 hr with hr | hr
   ·exact hok5 r (by rw [hRe5]; exact List.mem_append_left _ hr)
   ·rcases List.mem_cons.1 hr with rfl | hr
    ·exact ⟨(fun h => by cases h), hcap⟩
    ·exact hok5 r (by rw [hRe5]; exact List.mem_append_right _ (List.mem_cons_of_mem _ hr))
  refine t_subW (HpSub.front (by rw [hRe5]; exact out_to0 g m R51 (cur' ++ [(k : Int)], some (g5, c5)) R52)).w ?_
  unfold outR rowH
  rw [rowV_mk]
  simp only [clA, clC, clH, List.cons_append, List.nil_append]
  refine t_endW ?_
  repeat' (first | (focus ((with_reducible apply oq_indexAddrN); (iterate 4 exact rfl); omega)) | ((with_reducible apply oq_subE (k := ((cur'.length : Nat) : Int))); exact rfl; exact rfl; omega) | (focus ((with_reducible apply (oq_sliceHG (h := cur'.length) hnn)); (iterate 4 exact rfl); exact hcap)) | (apply oq_fn; exact rfl; try first | exact trivial | (and_intros <;> omega)) | ((with_reducible apply oq_load); exact rfl; exact rfl) | (with_reducible apply v_nil) | ((with_reducible apply v_q); (iterate 3 exact rfl)) | ((with_reducible apply (os_storeV hA1)); (iterate 4 exact rfl); (repeat (first | exact P0 | apply P1 | apply PA))) | ((with_reducible apply ai_s0); (iterate 4 exact rfl)) | (apply Rd.old; (first | exact hW.d0 | exact hW.d1 | exact hW.d2 | exact hW.d3 | exact hW.t0 | exact hW.o0 | exact hW.f0 | exact hW.m0 | exact e0 | exact e1 | exact e2); first | exact hW.nD | exact hW.nT | exact hW.nO | exact hW.nF | exact hW.nM | exact hnx) | (apply Rd.own; (repeat (first | exact P0 | apply P1 | apply PA)); exact rwV_at hA1; done) | (apply t_mix (id := 13) [0, 1, 2, 3, 4, 5, 6, 7, 8, 9, 10, 11, 12, 13] 1 #[false, false, false, false, false, false, false, false, false, false, false, false, false, false, true]; kernel_rfl; kernel_rfl; exact rfl) | (apply al_done; decide +kernel) | (apply al_one 14; decide +kernel))
  all_goals (refine ⟨rfl, [(0, .int .i64 (trip : Nat)), (1, .int .i64 (k : Nat)), (2, .slice A n c), (3, .pointer (some ⟨bD, 0, none⟩)), (4, .pointer (some ⟨bT, 0, none⟩)), (5, .pointer (some ⟨bO, 0, none⟩)), (6, .pointer (some ⟨bF, 0, none⟩)), (7, .pointer (some ⟨bM, 0, none⟩)), (12, .pointer (some ⟨b12, 0, none⟩))], (b12, [.int .i64 x.fr, .int .i64 x.to, .int .i64 x.crew], some (114, 3, 1)) :: outH g m R6, by (repeat (first | exact FrSub.nil | (apply FrSub.cons; exact rfl))), ?_, ?_⟩)
  ·refine HpW.trans (HpSub.w (show HpSub _ ((g5, cur'.map iv ++ [iv (k : Int)], some (3, 1, c5)) :: (b12, [.int .i64 x.fr, .int .i64 x.to, .int .i64 x.crew], some (114, 3, 1)) :: (g, R51.map rwV ++ rwV (cur', some (g5, c5)) :: R52.map rwV, some (41, 1, m)) :: (rwsH R51 ++ rwsH R52)) from ?_)) (HpW.trans HpW.pre (HpSub.w ?_))
   ·(repeat (first | exact HpSub.refl _ | (apply HpSub.consE; (repeat (first | exact P0 | apply P1 | apply PA)); first | exact rfl | (focus (simp [iv]; done)) | (focus (rw [rowV_mk]; simp [clA, clC]; done))) | apply hp_kA | apply HpSub.skipX | apply hp_skA | exact HpSub.nil))
   ·rw [← hR6]
    exact HpSub.cons (Pick.tail (Pick.head _ _ _ _)) (out_of0 g m R51 (cur', some (g5, c5)) R52)
  ·repeat' (first | ((with_reducible apply oq_addE (k := ((k + 1 : Nat) : Int))); exact rfl; exact rfl; omega) | (apply oq_fn; exact rfl; try first | exact trivial | (and_intros <;> omega)) | (with_reducible apply tl_nil) | ((with_reducible apply u_q); (iterate 4 exact rfl)) | (apply t_region; kernel_rfl) | with_reducible apply q_thenN | with_reducible apply q_blockN)
   all_goals (refine ⟨(k + 1, R6), ⟨(by simp only; omega), .inl (by simp only; omega), hcs6, hok6, hgo⟩, (by simp only; omega), ?_, ?_⟩)
   all_goals first
    | ((try simp only [List.cons_append, List.nil_append]); (repeat (first | exact FrSub.nil | (apply FrSub.cons; exact rfl))); done)
    | ((try simp only [List.cons_append, List.nil_append]); (try simp only [List.append_nil]); (repeat (first | exact HpSub.refl _ | (apply HpSub.consE; (repeat (first | exact P0 | apply P1 | apply PA)); exact rfl) | apply hp_kA | apply HpSub.skipX | apply hp_skA | exact HpSub.nil)); done)
theorem info41L : (Try.prog.info? 41).map (fun i => i.zero) = some (some (.slice none 0 0)) := by kernel_rfl
theorem os_makeL {w : World} {N n : Nat} {F : Fr} {H : Hp} {M : List Nat} {K : Value → Hp → Prop} {d : Option Tmp} {ty : TypeId} {pos : String} {af : Array Edge} {gd : Option (Nat × Bool)} {x y : Operand}
  (hx : ev F x = some (.int .i64 (n : Nat))) (hy : ev F y = some (.int .i64 (n : Nat))) (hn : n ≤ 1000) (k : ∀ b, K (.slice (some ⟨b, 0, none⟩) n n) ((b, List.replicate n (Value.slice none 0 0), some (41, 1, n)) :: H)) : OS (cxM M w N) ⟨d, .makeSlice 90 x y, ty, pos, af, gd⟩ F H K := by
 refine .ofX (ox_make (zs := [.slice none 0 0]) app_ok90 info41L rfl rfl hx hy (by omega) (by unfold maxLen; omega) fun b => ?_)
 have e : (List.replicate n [Value.slice none 0 0]).flatten = List.replicate n (Value.slice none 0 0) := by simp
 rw [e]
 exact k b
theorem odd_calls (x : Tr) (w : World) : Calls Try.prog 86 #[.agg #[.int .i64 x.fr, .int .i64 x.to, .int .i64 x.crew]] w fun e w' => e = .returned (.bool (!decide (trOk x))) ∧ Ext w w' := by
 obtain ⟨q, hq⟩ : ∃ q, allFrom 0 2 [x.crew] = q := ⟨_, rfl⟩
 have hqe : q = true ↔ 0 ≤ x.crew ∧ x.crew ≤ 2 := by rw [← hq]; exact allFrom_one
 by_cases h1 : x.fr < 0
 ·rw [decide_eq_false (fun h => by unfold trOk at h; omega)]
  refine enterQ (c := cx w 25) Try.func86 rfl rfl rfl rfl ?_
  repeat' (first | ((with_reducible apply oq_lssT); exact rfl; exact rfl; omega) | (apply oq_fn; exact rfl; try first | exact trivial | (and_intros <;> omega)) | ((with_reducible apply oq_load); exact rfl; exact rfl) | (with_reducible apply tl_nil) | ((with_reducible apply u_q); (iterate 4 exact rfl)) | ((with_reducible apply u_s); (iterate 3 exact rfl)) | ((with_reducible apply u_skip); (iterate 3 exact rfl)) | ((with_reducible apply os_x); exact rfl) | ((with_reducible apply ox_boxAgg); exact rfl; intro _) | (apply Rd.own; (repeat (first | exact P0 | apply P1)); exact rfl; done) | (with_reducible apply t_seq) | (apply t_region; kernel_rfl) | (with_reducible apply t_ret) | with_reducible apply q_thenN | (with_reducible apply end_ret) | exact rvs_nil | (with_reducible apply rvs_cons) | ((with_reducible apply rv_tmp); exact rfl))
  all_goals rfl
 by_cases h2 : x.to ≤ x.fr
 ·rw [decide_eq_false (fun h => by unfold trOk at h; omega)]
  refine enterQ (c := cx w 25) Try.func86 rfl rfl rfl rfl ?_
  repeat' (first | ((with_reducible apply oq_lssF); exact rfl; exact rfl; omega) | ((with_reducible apply oq_geqT); exact rfl; exact rfl; omega) | (apply oq_fn; exact rfl; try first | exact trivial | (and_intros <;> omega)) | ((with_reducible apply oq_load); exact rfl; exact rfl) | (with_reducible apply tl_nil) | ((with_reducible apply u_q); (iterate 4 exact rfl)) | ((with_reducible apply u_s); (iterate 3 exact rfl)) | ((with_reducible apply u_skip); (iterate 3 exact rfl)) | ((with_reducible apply os_x); exact rfl) | ((with_reducible apply ox_boxAgg); exact rfl; intro _) | (apply Rd.own; (repeat (first | exact P0 | apply P1)); exact rfl; done) | (with_reducible apply t_seq) | (apply t_region; kernel_rfl) | (with_reducible apply t_ret) | with_reducible apply q_thenN | (with_reducible apply end_ret) | exact rvs_nil | (with_reducible apply rvs_cons) | ((with_reducible apply rv_tmp); exact rfl))
  all_goals rfl
 by_cases h3 : 1000000 < x.to
 ·rw [decide_eq_false (fun h => by unfold trOk at h; omega)]
  refine enterQ (c := cx w 25) Try.func86 rfl rfl rfl rfl ?_
  repeat' (first | ((with_reducible apply oq_lssF); exact rfl; exact rfl; omega) | ((with_reducible apply oq_geqF); exact rfl; exact rfl; omega) | ((with_reducible apply oq_gtrT); exact rfl; exact rfl; omega) | (apply oq_fn; exact rfl; try first | exact trivial | (and_intros <;> omega)) | ((with_reducible apply oq_load); exact rfl; exact rfl) | (with_reducible apply tl_nil) | ((with_reducible apply u_q); (iterate 4 exact rfl)) | ((with_reducible apply u_s); (iterate 3 exact rfl)) | ((with_reducible apply u_skip); (iterate 3 exact rfl)) | ((with_reducible apply os_x); exact rfl) | ((with_reducible apply ox_boxAgg); exact rfl; intro _) | (apply Rd.own; (repeat (first | exact P0 | apply P1)); exact rfl; done) | (with_reducible apply t_seq) | (apply t_region; kernel_rfl) | (with_reducible apply t_ret) | with_reducible apply q_thenN | (with_reducible apply end_ret) | exact rvs_nil | (with_reducible apply rvs_cons) | ((with_reducible apply rv_tmp); exact rfl))
  all_goals rfl
 cases q with
 | false =>
  rw [decide_eq_false (fun h => by unfold trOk at h; have := hqe.2 ⟨h.2.2.2.1, h.2.2.2.2⟩; cases this)]
  refine enterQ (c := cx w 25) Try.func86 rfl rfl rfl rfl ?_
  repeat' (first | ((with_reducible apply oq_lssF); exact rfl; exact rfl; omega) | ((with_reducible apply oq_geqF); exact rfl; exact rfl; omega) | ((with_reducible apply oq_gtrF); exact rfl; exact rfl; omega) | (apply oq_fn; exact rfl; try first | exact trivial | (and_intros <;> omega)) | ((with_reducible apply oq_load); exact rfl; exact rfl) | ((with_reducible apply oq_call (k := 63) (hc := Try.call63)); exact rfl; exact rfl; exact fun D w1 hw1 => fromOne hq hw1 (by (repeat (first | exact P0 | apply P1)))) | (with_reducible apply tl_nil) | ((with_reducible apply u_q); (iterate 4 exact rfl)) | ((with_reducible apply u_s); (iterate 3 exact rfl)) | ((with_reducible apply os_x); exact rfl) | ((with_reducible apply ox_boxAgg); exact rfl; intro _) | ((with_reducible apply ox_buildSlice1); (iterate 6 exact rfl); intro _) | (apply Rd.own; (repeat (first | exact P0 | apply P1)); exact rfl; done) | (with_reducible apply t_seq) | (apply t_region; kernel_rfl) | (with_reducible apply t_ret) | with_reducible apply q_thenN | (with_reducible apply end_ret) | exact rvs_nil | (with_reducible apply rvs_cons) | ((with_reducible apply rv_tmp); exact rfl))
  all_goals rfl
 | true =>
  rw [decide_eq_true (by have := hqe.1 rfl; unfold trOk; omega)]
  refine enterQ (c := cx w 25) Try.func86 rfl rfl rfl rfl ?_
  repeat' (first | ((with_reducible apply oq_lssF); exact rfl; exact rfl; omega) | ((with_reducible apply oq_geqF); exact rfl; exact rfl; omega) | ((with_reducible apply oq_gtrF); exact rfl; exact rfl; omega) | (apply oq_fn; exact rfl; try first | exact trivial | (and_intros <;> omega)) | ((with_reducible apply oq_load); exact rfl; exact rfl) | ((with_reducible apply oq_call (k := 63) (hc := Try.call63)); exact rfl; exact rfl; exact fun D w1 hw1 => fromOne hq hw1 (by (repeat (first | exact P0 | apply P1)))) | (with_reducible apply tl_nil) | ((with_reducible apply u_q); (iterate 4 exact rfl)) | ((with_reducible apply u_s); (iterate 3 exact rfl)) | ((with_reducible apply os_x); exact rfl) | ((with_reducible apply ox_boxAgg); exact rfl; intro _) | ((with_reducible apply ox_buildSlice1); (iterate 6 exact rfl); intro _) | (apply Rd.own; (repeat (first | exact P0 | apply P1)); exact rfl; done) | (with_reducible apply t_seq) | (apply t_region; kernel_rfl) | (with_reducible apply t_ret) | with_reducible apply q_thenN | (with_reducible apply end_ret) | exact rvs_nil | (with_reducible apply rvs_cons) | ((with_reducible apply rv_tmp); exact rfl))
  all_goals rfl
/-- Where the first odd trip is. -/
def oddI (l : List Tr) : Int := match l.findIdx? (fun x => !decide (trOk x)) with | some i => (i : Int) | none => -1
theorem oddI_at {l : List Tr} {i : Nat} {x : Tr} (hx : l[i]? = some x) (h : ¬ trOk x) (hb : ∀ j y, j < i → l[j]? = some y → trOk y) : oddI l = (i : Int) := by
 have : l.findIdx? (fun x => !decide (trOk x)) = some i := by
  rw [List.findIdx?_eq_some_iff_getElem]
  obtain ⟨h1, rfl⟩ := List.getElem?_eq_some_iff.1 hx
  exact ⟨h1, by simpa using h, fun j hj => by have := hb j _ hj (List.getElem?_eq_getElem (by omega)); simpa using this⟩
 unfold oddI; rw [this]
theorem oddI_no {l : List Tr} (h : ∀ x ∈ l, trOk x) : oddI l = -1 := by
 have : l.findIdx? (fun x => !decide (trOk x)) = none := by
  rw [List.findIdx?_eq_none_iff]
  intro x hx
  have := h x hx
  simpa using this
 unfold oddI; rw [this]
theorem oddI_neg {l : List Tr} : oddI l < 0 ↔ ∀ x ∈ l, trOk x := by
 constructor
 ·intro h x hx
  unfold oddI at h
  cases hq : l.findIdx? (fun x => !decide (trOk x)) with
  | none =>
   have := List.findIdx?_eq_none_iff.1 hq x hx
   simpa using this
  | some i => rw [hq] at h; simp only at h; omega
 ·intro h; rw [oddI_no h]; decide
theorem idxTr_calls (A : Option Addr) (n c : Nat) (l : List Tr) (w : World) (hr : RdS w 3 A n (l.map trCells)) (hn : n ≤ 1000000) : Calls Try.prog 114 #[.slice A n c, .func (.func 86) #[] #[]] w fun e w' => e = .returned (.int .i64 (oddI l)) ∧ Ext w w' := by
 have hl := hr.len
 simp only [List.length_map] at hl
 refine enterQ (c := cx w 19) Try.func114 rfl rfl rfl rfl ?_
 repeat' (first | (apply oq_fn; exact rfl; try first | exact trivial | (and_intros <;> omega)) | (with_reducible apply tl_nil) | ((with_reducible apply u_q); (iterate 4 exact rfl)) | (with_reducible apply t_seq) | (apply t_region; kernel_rfl) | (with_reducible apply t_block) | with_reducible apply q_thenN)
 apply t_loopK (ι := Nat) [0, 1, 6, 7] (fun i => [(8, .int .i64 (i : Nat))]) (fun _ => []) (fun i => i ≤ n ∧ ∀ j y, j < i → l[j]? = some y → trOk y) (fun i => n - i) (0)
 (repeat (first | exact KeepF.nil | (apply KeepF.cons; exact rfl) | apply KeepF.skip))
 (repeat (first | exact FrSub.nil | (apply FrSub.cons; exact rfl)))
 (repeat (first | exact HpSub.refl _ | (apply HpSub.consE; (repeat (first | exact P0 | apply P1)); exact rfl) | exact HpSub.nil))
 ·exact ⟨Nat.zero_le _, fun j y hj => by omega⟩
 rintro i ⟨hi, hok⟩
 try simp only [List.cons_append, List.nil_append]
 by_cases hlt : i < n
 ·obtain ⟨b, o, x, rfl, _, hx, c0, c1, c2⟩ := tr_read hr hlt
  have HO := fun w1 => odd_calls x w1
  by_cases ho : trOk x
  ·rw [decide_eq_true ho] at HO
   repeat' (first | (focus ((with_reducible apply oq_indexAddrN); (iterate 4 exact rfl); omega)) | ((with_reducible apply oq_lssT); exact rfl; exact rfl; omega) | (apply oq_fn; exact rfl; try first | exact trivial | (and_intros <;> omega)) | ((with_reducible apply oq_loadAgg); exact rfl; exact rfl) | ((with_reducible apply oq_call (k := 86) (hc := Try.call86)); exact rfl; exact rfl; exact fun D w1 hw1 => HO w1) | (with_reducible apply tl_nil) | ((with_reducible apply u_q); (iterate 4 exact rfl)) | (apply Rd.old; (first | exact c0 | exact c1 | exact c2); exact List.not_mem_nil) | (with_reducible apply t_seq) | (apply t_region; kernel_rfl) | ((with_reducible apply t_condT); exact rfl) | ((with_reducible apply t_condF); exact rfl) | (with_reducible apply t_skip) | (with_reducible apply t_block) | with_reducible apply q_thenN | with_reducible apply q_blockN | exact Rdn.zero | apply Rdn.succ)
   all_goals (refine ⟨(i + 1), ⟨by omega, fun j y hj hy => by by_cases hji : j = i; (subst hji; rw [hx] at hy; cases hy; exact ho); exact hok j y (by omega) hy⟩, (by omega), ?_, ?_⟩ <;> (try simp only [List.cons_append, List.nil_append]) <;> (repeat' (first | exact FrSub.nil | (apply FrSub.cons; exact rfl) | exact HpSub.refl _)))
  ·rw [decide_eq_false ho] at HO
   rw [oddI_at hx ho hok]
   repeat' (first | (focus ((with_reducible apply oq_indexAddrN); (iterate 4 exact rfl); omega)) | ((with_reducible apply oq_lssT); exact rfl; exact rfl; omega) | (apply oq_fn; exact rfl; try first | exact trivial | (and_intros <;> omega)) | ((with_reducible apply oq_loadAgg); exact rfl; exact rfl) | ((with_reducible apply oq_call (k := 86) (hc := Try.call86)); exact rfl; exact rfl; exact fun D w1 hw1 => HO w1) | (with_reducible apply tl_nil) | ((with_reducible apply u_q); (iterate 4 exact rfl)) | (apply Rd.old; (first | exact c0 | exact c1 | exact c2); exact List.not_mem_nil) | (with_reducible apply t_seq) | (apply t_region; kernel_rfl) | ((with_reducible apply t_condT); exact rfl) | (with_reducible apply t_ret) | (with_reducible apply t_skip) | (with_reducible apply t_block) | with_reducible apply q_thenN | with_reducible apply q_thenR | with_reducible apply q_blockR | exact Rdn.zero | apply Rdn.succ | (with_reducible apply end_ret) | exact rvs_nil | (with_reducible apply rvs_cons) | ((with_reducible apply rv_tmp); exact rfl))
   all_goals rfl
 ·rw [oddI_no fun x hx => by
   obtain ⟨j, hj, rfl⟩ := List.getElem_of_mem hx
   exact hok j _ (by omega) (List.getElem?_eq_getElem hj)]
  repeat' (first | ((with_reducible apply oq_lssF); exact rfl; exact rfl; omega) | (apply oq_fn; exact rfl; try first | exact trivial | (and_intros <;> omega)) | (with_reducible apply tl_nil) | ((with_reducible apply u_q); (iterate 4 exact rfl)) | (with_reducible apply t_seq) | (apply t_region; kernel_rfl) | ((with_reducible apply t_condF); exact rfl) | (with_reducible apply t_ret) | (with_reducible apply t_exit) | with_reducible apply q_thenN | with_reducible apply q_thenE | ((with_reducible apply q_blockE); exact rfl) | (with_reducible apply end_ret) | exact rvs_nil | (with_reducible apply rvs_cons) | ((with_reducible apply rv_tmp); exact rfl))
  all_goals rfl
theorem contTr_calls (A : Option Addr) (n c : Nat) (l : List Tr) (w : World) (hr : RdS w 3 A n (l.map trCells)) (hn : n ≤ 1000000) : Calls Try.prog 87 #[.slice A n c, .func (.func 86) #[] #[]] w fun e w' => e = .returned (.bool (decide (0 ≤ oddI l))) ∧ Ext w w' := by
 by_cases h : 0 ≤ oddI l
 ·rw [decide_eq_true h]
  refine enterQ (c := cx w 9) Try.func87 rfl rfl rfl rfl ?_
  repeat' (first | ((with_reducible apply oq_geqT); exact rfl; exact rfl; omega) | (apply oq_fn; exact rfl; try first | exact trivial | (and_intros <;> omega)) | ((with_reducible apply oq_call (k := 114) (hc := Try.call114)); exact rfl; exact rfl; exact fun D w1 hw1 => idxTr_calls A n c l w1 (hr.ext hw1.ext.ext) hn) | (with_reducible apply tl_nil) | ((with_reducible apply u_q); (iterate 4 exact rfl)) | (with_reducible apply t_seq) | (apply t_region; kernel_rfl) | (with_reducible apply t_ret) | with_reducible apply q_thenN | (with_reducible apply end_ret) | exact rvs_nil | (with_reducible apply rvs_cons) | ((with_reducible apply rv_tmp); exact rfl))
  all_goals rfl
 ·rw [decide_eq_false h]
  refine enterQ (c := cx w 9) Try.func87 rfl rfl rfl rfl ?_
  repeat' (first | ((with_reducible apply oq_geqF); exact rfl; exact rfl; omega) | (apply oq_fn; exact rfl; try first | exact trivial | (and_intros <;> omega)) | ((with_reducible apply oq_call (k := 114) (hc := Try.call114)); exact rfl; exact rfl; exact fun D w1 hw1 => idxTr_calls A n c l w1 (hr.ext hw1.ext.ext) hn) | (with_reducible apply tl_nil) | ((with_reducible apply u_q); (iterate 4 exact rfl)) | (with_reducible apply t_seq) | (apply t_region; kernel_rfl) | (with_reducible apply t_ret) | with_reducible apply q_thenN | (with_reducible apply end_ret) | exact rvs_nil | (with_reducible apply rvs_cons) | ((with_reducible apply rv_tmp); exact rfl))
  all_goals rfl
/-- What Assign answers: the error. -/
def asgN (d : Du) (l : List Sh) (mem : Int) (ts : List Tr) : Option (List (List Int)) := tryF d mem.toNat 20 ts [] 0 l
def asgE (d : Du) (l : List Sh) (mem : Int) (ts : List Tr) : Int :=
 if tiE d l = 0 then (if 0 ≤ mem ∧ mem ≤ 6 then (if 4 < ts.length then 4 else if 0 ≤ oddI ts then 2 else if (asgN d l mem ts).isSome then 0 else 6) else 2) else tiE d l
def asgL (d : Du) (l : List Sh) (mem : Int) (ts : List Tr) : List (List Int) := if asgE d l mem ts = 0 then (asgN d l mem ts).getD [] else []
/-- What Assign hands out. -/
def AsgV (E : Int) (L : List (List Int)) (v : Value) (H : Hp) : Prop :=
 (E ≠ 0 ∧ v = .tuple #[.slice none 0 0, .int .i64 E] ∧ H = []) ∨ (E = 0 ∧ ∃ g R, (∀ r ∈ R, LrOk r) ∧ R.map Prod.fst = L ∧ v = .tuple #[.slice (some ⟨g, 0, none⟩) L.length L.length, .int .i64 0] ∧ H = outH g L.length R)
theorem out_none (g m : Nat) : outH g m (List.replicate m ([], none)) = [(g, List.replicate m (.slice none 0 0), some (41, 1, m))] := by
 unfold outH
 have h1 : ∀ k, rwsH (List.replicate k (([], none) : Row)) = [] := fun k => by
  induction k with
  | zero => rfl
  | succ k ih => rw [List.replicate_succ]; show rowH ([], none) ++ _ = []; rw [ih]; rfl
 rw [h1, List.map_replicate]
 rfl
theorem dep_le : ∀ {ts : List Tr}, (∀ x ∈ ts, trOk x) → dep ts ≤ 3 * ts.length + 1
 | [], _ => Nat.le_refl _
 | x :: ts, h => by
  have h1 := h x List.mem_cons_self
  unfold trOk at h1
  have := dep_le fun y hy => h y (List.mem_cons_of_mem _ hy)
  show x.crew.toNat + 1 + dep ts ≤ _
  simp only [List.length_cons]
  omega
theorem assign_T (d : Du) (A : Option Addr) (n c : Nat) (l : List Sh) (mem : Int) (AT : Option Addr) (m cT : Nat) (ts : List Tr) (w : World) (hr : RdS w 3 A n (l.map shCells)) (hA : A = none → n = 0 ∧ c = 0) (hrT : RdS w 3 AT m (ts.map trCells)) (hn : n ≤ 1000000) (hm : m ≤ 1000000) :
  Calls Try.prog 50 #[.agg #[.int .i64 d.most, .int .i64 d.rest, .int .i64 d.win, .int .i64 d.sum], .slice A n c, .int .i64 mem, .slice AT m cT] w fun e w' => ∃ v H', e = .returned v ∧ AsgV (asgE d l mem ts) (asgL d l mem ts) v H' ∧ Has w ⟨[], []⟩ H' w' := by
 have hl := hr.len
 simp only [List.length_map] at hl
 have hlT := hrT.len
 simp only [List.length_map] at hlT
 have HDu := fun w1 => dutyR_calls d w1
 have HRo := fun w1 h => rosR_calls A n c l w1 h hA hn
 obtain ⟨E0, hE0⟩ : ∃ E, tiE d l = E := ⟨_, rfl⟩
 have hEq := tiE_eq (d := d) (l := l)
 rw [hE0] at hEq
 obtain ⟨p, hp⟩ : ∃ p, duE d = p := ⟨_, rfl⟩
 obtain ⟨q', hq'⟩ : ∃ q, rosE l = q := ⟨_, rfl⟩
 rw [hp, hq'] at hEq
 rw [hp] at HDu
 rw [hq'] at HRo
 have HOr := fun A cp w c0 c1 => orE_calls p q' A cp w c0 c1
 rw [hEq] at HOr
 obtain ⟨q, hq⟩ : ∃ q, allFrom 0 6 [mem] = q := ⟨_, rfl⟩
 have hqe : q = true ↔ 0 ≤ mem ∧ mem ≤ 6 := by rw [← hq]; exact allFrom_one
 obtain ⟨E, hE⟩ : ∃ E, asgE d l mem ts = E := ⟨_, rfl⟩
 have hEd := hE
 unfold asgE at hEd
 rw [hE0] at hEd
 have hbad : E ≠ 0 → ∀ (H : Hp), ∃ H1, (AsgV (asgE d l mem ts) (asgL d l mem ts) (.tuple #[.slice none 0 0, .int .i64 E]) H1) ∧ HpSub H H1 := fun h H => ⟨[], .inl ⟨by rw [hE]; exact h, by rw [hE], rfl⟩, HpSub.nil⟩
 refine enterF (c := cx w 45) Try.func50 rfl rfl rfl rfl ?_
 refine t_cut (ι := Nat × Nat × Nat) (fun z => [(1, .slice A n c), (4, .pointer (some ⟨z.1, 0, none⟩)), (6, .pointer (some ⟨z.2.1, 0, none⟩)), (7, .pointer (some ⟨z.2.2, 0, none⟩))]) (fun z => [(z.2.2, [.slice AT m cT], some (89, 1, 1)), (z.2.1, [.int .i64 mem], some (3, 1, 1)), (z.1, [.int .i64 d.most, .int .i64 d.rest, .int .i64 d.win, .int .i64 d.sum], some (74, 4, 1))]) (fun _ => True) ?_ ?_
 ·repeat' (first | (apply oq_fn; exact rfl; try first | exact trivial | (and_intros <;> omega)) | (with_reducible apply tl_nil) | ((with_reducible apply u_q); (iterate 4 exact rfl)) | ((with_reducible apply u_s); (iterate 3 exact rfl)) | ((with_reducible apply os_x); exact rfl) | ((with_reducible apply ox_box); exact rfl; exact rfl; intro _) | ((with_reducible apply ox_boxAgg); exact rfl; intro _) | (apply t_region; kernel_rfl))
  all_goals exact ⟨rfl, (_, _, _), trivial, by (repeat (first | exact FrSub.nil | (apply FrSub.cons; exact rfl))), by (repeat (first | exact HpSub.refl _ | (apply HpSub.consE; (repeat (first | exact P0 | apply P1 | apply PA)); exact rfl) | apply hp_kA | apply HpSub.skipX | apply hp_skA | exact HpSub.nil))⟩
 rintro ⟨bD, bM, bT⟩ -
 try dsimp only
 by_cases h0 : E0 = 0
 rotate_left
 ·rw [if_neg h0] at hEd
  subst hEd
  repeat' (first | ((with_reducible apply oq_neqT); exact rfl; exact rfl; omega) | (apply oq_fn; exact rfl; try first | exact trivial | (and_intros <;> omega)) | ((with_reducible apply oq_loadAgg); exact rfl; exact rfl) | ((with_reducible apply oq_call (k := 44) (hc := Try.call44)); exact rfl; exact rfl; exact fun D w1 hw1 => HDu w1) | ((with_reducible apply oq_call (k := 46) (hc := Try.call46)); exact rfl; exact rfl; exact fun D w1 hw1 => HRo w1 (hr.ext hw1.ext.ext)) | ((with_reducible apply oq_call (k := 81) (hc := Try.call81)); exact rfl; exact rfl; exact fun D w1 hw1 => HOr _ _ w1 (hw1.cellAt (by (repeat (first | exact P0 | apply P1 | apply PA))) rfl) (hw1.cellAt (by (repeat (first | exact P0 | apply P1 | apply PA))) rfl)) | (with_reducible apply tl_nil) | ((with_reducible apply u_q); (iterate 4 exact rfl)) | ((with_reducible apply u_s); (iterate 3 exact rfl)) | ((with_reducible apply os_x); exact rfl) | ((with_reducible apply ox_buildSlice1); (iterate 6 exact rfl); intro _) | (apply Rd.own; (repeat (first | exact P0 | apply P1 | apply PA)); exact rfl; done) | (with_reducible apply t_seq) | (apply t_region; kernel_rfl) | ((with_reducible apply t_condT); exact rfl) | (with_reducible apply t_ret) | with_reducible apply q_thenN | with_reducible apply q_thenR | exact Rdn.zero | apply Rdn.succ | (with_reducible apply end_ret) | exact rvs_nil | (with_reducible apply rvs_cons) | ((with_reducible apply rv_tmp); exact rfl))
  all_goals exact hbad h0 _
 rw [if_pos h0] at hEd
 refine t_cut (ι := Unit) (fun _ => [(1, .slice A n c), (4, .pointer (some ⟨bD, 0, none⟩)), (6, .pointer (some ⟨bM, 0, none⟩)), (7, .pointer (some ⟨bT, 0, none⟩))]) (fun _ => [(bT, [.slice AT m cT], some (89, 1, 1)), (bM, [.int .i64 mem], some (3, 1, 1)), (bD, [.int .i64 d.most, .int .i64 d.rest, .int .i64 d.win, .int .i64 d.sum], some (74, 4, 1))]) (fun _ => True) ?_ ?_
 ·repeat' (first | ((with_reducible apply oq_neqF); exact rfl; exact rfl; omega) | (apply oq_fn; exact rfl; try first | exact trivial | (and_intros <;> omega)) | ((with_reducible apply oq_loadAgg); exact rfl; exact rfl) | ((with_reducible apply oq_call (k := 44) (hc := Try.call44)); exact rfl; exact rfl; exact fun D w1 hw1 => HDu w1) | ((with_reducible apply oq_call (k := 46) (hc := Try.call46)); exact rfl; exact rfl; exact fun D w1 hw1 => HRo w1 (hr.ext hw1.ext.ext)) | ((with_reducible apply oq_call (k := 81) (hc := Try.call81)); exact rfl; exact rfl; exact fun D w1 hw1 => HOr _ _ w1 (hw1.cellAt (by (repeat (first | exact P0 | apply P1 | apply PA))) rfl) (hw1.cellAt (by (repeat (first | exact P0 | apply P1 | apply PA))) rfl)) | (with_reducible apply tl_nil) | ((with_reducible apply u_q); (iterate 4 exact rfl)) | ((with_reducible apply u_s); (iterate 3 exact rfl)) | ((with_reducible apply os_x); exact rfl) | ((with_reducible apply ox_buildSlice1); (iterate 6 exact rfl); intro _) | (apply Rd.own; (repeat (first | exact P0 | apply P1 | apply PA)); exact rfl; done) | (with_reducible apply t_seq) | (apply t_region; kernel_rfl) | ((with_reducible apply t_condF); exact rfl) | (with_reducible apply t_skip) | with_reducible apply q_thenN | exact Rdn.zero | apply Rdn.succ)
  all_goals exact ⟨rfl, (), trivial, by (repeat (first | exact FrSub.nil | (apply FrSub.cons; exact rfl))), by (repeat (first | exact HpSub.refl _ | (apply HpSub.consE; (repeat (first | exact P0 | apply P1 | apply PA)); exact rfl) | apply hp_kA | apply HpSub.skipX | apply hp_skA | exact HpSub.nil))⟩
 rintro ⟨⟩ -
 refine t_cut (ι := Unit) (fun _ => [(1, .slice A n c), (4, .pointer (some ⟨bD, 0, none⟩)), (6, .pointer (some ⟨bM, 0, none⟩)), (7, .pointer (some ⟨bT, 0, none⟩)), (11, .func (.func 86) #[] #[])]) (fun _ => [(bT, [.slice AT m cT], some (89, 1, 1)), (bM, [.int .i64 mem], some (3, 1, 1)), (bD, [.int .i64 d.most, .int .i64 d.rest, .int .i64 d.win, .int .i64 d.sum], some (74, 4, 1))]) (fun _ => True) ?_ ?_
 ·repeat' (first | (apply oq_fn; exact rfl; try first | exact trivial | (and_intros <;> omega)) | (with_reducible apply tl_nil) | ((with_reducible apply u_q); (iterate 4 exact rfl)) | (apply t_region; kernel_rfl))
  all_goals exact ⟨rfl, (), trivial, by (repeat (first | exact FrSub.nil | (apply FrSub.cons; exact rfl))), by (repeat (first | exact HpSub.refl _ | (apply HpSub.consE; (repeat (first | exact P0 | apply P1 | apply PA)); exact rfl) | apply hp_kA | apply HpSub.skipX | apply hp_skA | exact HpSub.nil))⟩
 rintro ⟨⟩ -
 by_cases h1 : q = true
 rotate_left
 ·obtain rfl : q = false := by cases q; rfl; exact absurd rfl h1
  rw [if_neg (fun h => h1 (hqe.2 h))] at hEd
  subst hEd
  repeat' (first | (apply oq_fn; exact rfl; try first | exact trivial | (and_intros <;> omega)) | ((with_reducible apply oq_load); exact rfl; exact rfl) | ((with_reducible apply oq_call (k := 63) (hc := Try.call63)); exact rfl; exact rfl; exact fun D w1 hw1 => fromOne hq hw1 (by (repeat (first | exact P0 | apply P1 | apply PA)))) | (with_reducible apply tl_nil) | ((with_reducible apply u_q); (iterate 4 exact rfl)) | ((with_reducible apply u_s); (iterate 3 exact rfl)) | ((with_reducible apply os_x); exact rfl) | ((with_reducible apply ox_buildSlice1); (iterate 6 exact rfl); intro _) | (apply Rd.own; (repeat (first | exact P0 | apply P1 | apply PA)); exact rfl; done) | (with_reducible apply t_seq) | (apply t_region; kernel_rfl) | ((with_reducible apply t_condT); exact rfl) | (with_reducible apply t_ret) | (with_reducible apply t_block) | with_reducible apply q_thenN | with_reducible apply q_thenR | with_reducible apply q_blockR | (with_reducible apply end_ret) | exact rvs_nil | (with_reducible apply rvs_cons) | ((with_reducible apply rv_tmp); exact rfl))
  all_goals exact hbad (by decide) _
 subst h1
 have hmem := hqe.1 rfl
 rw [if_pos hmem] at hEd
 by_cases h2 : 4 < ts.length
 ·rw [if_pos h2] at hEd
  subst hEd
  repeat' (first | ((with_reducible apply oq_gtrT); exact rfl; exact rfl; omega) | (apply oq_fn; exact rfl; try first | exact trivial | (and_intros <;> omega)) | ((with_reducible apply oq_load); exact rfl; exact rfl) | ((with_reducible apply oq_call (k := 63) (hc := Try.call63)); exact rfl; exact rfl; exact fun D w1 hw1 => fromOne hq hw1 (by (repeat (first | exact P0 | apply P1 | apply PA)))) | (with_reducible apply tl_nil) | ((with_reducible apply u_q); (iterate 4 exact rfl)) | ((with_reducible apply u_s); (iterate 3 exact rfl)) | ((with_reducible apply os_x); exact rfl) | ((with_reducible apply ox_buildSlice1); (iterate 6 exact rfl); intro _) | (apply Rd.own; (repeat (first | exact P0 | apply P1 | apply PA)); exact rfl; done) | (with_reducible apply t_seq) | (apply t_region; kernel_rfl) | ((with_reducible apply t_condT); exact rfl) | ((with_reducible apply t_condF); exact rfl) | (with_reducible apply t_ret) | (with_reducible apply t_block) | with_reducible apply q_thenN | with_reducible apply q_thenR | with_reducible apply q_blockR | (with_reducible apply end_ret) | exact rvs_nil | (with_reducible apply rvs_cons) | ((with_reducible apply rv_tmp); exact rfl))
  all_goals exact hbad (by decide) _
 rw [if_neg h2] at hEd
 have HCt := fun w1 h => contTr_calls AT m cT ts w1 h hm
 by_cases h3 : 0 ≤ oddI ts
 ·rw [if_pos h3] at hEd
  subst hEd
  rw [decide_eq_true h3] at HCt
  repeat' (first | ((with_reducible apply oq_gtrF); exact rfl; exact rfl; omega) | (apply oq_fn; exact rfl; try first | exact trivial | (and_intros <;> omega)) | ((with_reducible apply oq_load); exact rfl; exact rfl) | ((with_reducible apply oq_call (k := 87) (hc := Try.call87)); exact rfl; exact rfl; exact fun D w1 hw1 => HCt w1 (hrT.ext hw1.ext.ext)) | ((with_reducible apply oq_call (k := 63) (hc := Try.call63)); exact rfl; exact rfl; exact fun D w1 hw1 => fromOne hq hw1 (by (repeat (first | exact P0 | apply P1 | apply PA)))) | (with_reducible apply tl_nil) | ((with_reducible apply u_q); (iterate 4 exact rfl)) | ((with_reducible apply u_s); (iterate 3 exact rfl)) | ((with_reducible apply os_x); exact rfl) | ((with_reducible apply ox_buildSlice1); (iterate 6 exact rfl); intro _) | (apply Rd.own; (repeat (first | exact P0 | apply P1 | apply PA)); exact rfl; done) | (with_reducible apply t_seq) | (apply t_region; kernel_rfl) | ((with_reducible apply t_condT); exact rfl) | ((with_reducible apply t_condF); exact rfl) | (with_reducible apply t_ret) | (with_reducible apply t_block) | with_reducible apply q_thenN | with_reducible apply q_thenR | with_reducible apply q_blockR | (with_reducible apply end_ret) | exact rvs_nil | (with_reducible apply rvs_cons) | ((with_reducible apply rv_tmp); exact rfl))
  all_goals exact hbad (by decide) _
 rw [if_neg h3] at hEd
 rw [decide_eq_false h3] at HCt
 have hto := oddI_neg.1 (show oddI ts < 0 by omega)
 obtain ⟨hd, hl40, hRos⟩ := tiE_ok (hE0.trans h0)
 refine t_cut (ι := Unit) (fun _ => [(1, .slice A n c), (4, .pointer (some ⟨bD, 0, none⟩)), (6, .pointer (some ⟨bM, 0, none⟩)), (7, .pointer (some ⟨bT, 0, none⟩))]) (fun _ => [(bT, [.slice AT m cT], some (89, 1, 1)), (bM, [.int .i64 mem], some (3, 1, 1)), (bD, [.int .i64 d.most, .int .i64 d.rest, .int .i64 d.win, .int .i64 d.sum], some (74, 4, 1))]) (fun _ => True) ?_ ?_
 ·repeat' (first | ((with_reducible apply oq_gtrF); exact rfl; exact rfl; omega) | (apply oq_fn; exact rfl; try first | exact trivial | (and_intros <;> omega)) | ((with_reducible apply oq_load); exact rfl; exact rfl) | ((with_reducible apply oq_call (k := 87) (hc := Try.call87)); exact rfl; exact rfl; exact fun D w1 hw1 => HCt w1 (hrT.ext hw1.ext.ext)) | ((with_reducible apply oq_call (k := 63) (hc := Try.call63)); exact rfl; exact rfl; exact fun D w1 hw1 => fromOne hq hw1 (by (repeat (first | exact P0 | apply P1 | apply PA)))) | (with_reducible apply tl_nil) | ((with_reducible apply u_q); (iterate 4 exact rfl)) | ((with_reducible apply u_s); (iterate 3 exact rfl)) | ((with_reducible apply os_x); exact rfl) | ((with_reducible apply ox_buildSlice1); (iterate 6 exact rfl); intro _) | (apply Rd.own; (repeat (first | exact P0 | apply P1 | apply PA)); exact rfl; done) | (with_reducible apply t_seq) | (apply t_region; kernel_rfl) | ((with_reducible apply t_condF); exact rfl) | (with_reducible apply t_skip) | (with_reducible apply t_block) | with_reducible apply q_thenN | with_reducible apply q_blockN)
  all_goals exact ⟨rfl, (), trivial, by (repeat (first | exact FrSub.nil | (apply FrSub.cons; exact rfl))), by (repeat (first | exact HpSub.refl _ | (apply HpSub.consE; (repeat (first | exact P0 | apply P1 | apply PA)); exact rfl) | apply hp_kA | apply HpSub.skipX | apply hp_skA | exact HpSub.nil))⟩
 rintro ⟨⟩ -
 refine t_cut (ι := Nat × Nat) (fun z => [(1, .slice A n c), (4, .pointer (some ⟨bD, 0, none⟩)), (6, .pointer (some ⟨bM, 0, none⟩)), (7, .pointer (some ⟨bT, 0, none⟩)), (12, .pointer (some ⟨z.2, 0, none⟩))]) (fun z => (z.2, [.slice (some ⟨z.1, 0, none⟩) m m], some (90, 1, 1)) :: (z.1, List.replicate m (.slice none 0 0), some (41, 1, m)) :: [(bT, [.slice AT m cT], some (89, 1, 1)), (bM, [.int .i64 mem], some (3, 1, 1)), (bD, [.int .i64 d.most, .int .i64 d.rest, .int .i64 d.win, .int .i64 d.sum], some (74, 4, 1))]) (fun _ => True) ?_ ?_
 ·repeat' (first | (apply oq_fn; exact rfl; try first | exact trivial | (and_intros <;> omega)) | ((with_reducible apply oq_load); exact rfl; exact rfl) | (with_reducible apply tl_nil) | ((with_reducible apply u_s); (iterate 3 exact rfl); (with_reducible apply os_makeL); exact rfl; exact rfl; omega; intro gg) | ((with_reducible apply u_q); (iterate 4 exact rfl)) | ((with_reducible apply u_s0); exact rfl; exact rfl) | ((with_reducible apply u_s); (iterate 3 exact rfl)) | ((with_reducible apply os_x); exact rfl) | ((with_reducible apply os_store); (iterate 4 exact rfl)) | ((with_reducible apply ox_alloc); exact rfl; intro _) | (apply Rd.own; (repeat (first | exact P0 | apply P1 | apply PA)); exact rfl; done) | (apply t_region; kernel_rfl) | exact P0 | ((with_reducible apply Norm.nil); exact rfl) | ((with_reducible apply Norm.cons); exact rfl) | exact Nat.le_of_ble_eq_true rfl)
  all_goals exact ⟨by trivial, (_, _), trivial, by (repeat (first | exact FrSub.nil | (apply FrSub.cons; exact rfl))), by (repeat (first | exact HpSub.refl _ | (apply HpSub.consE; (repeat (first | exact P0 | apply P1 | apply PA)); exact rfl) | apply hp_kA | apply HpSub.skipX | apply hp_skA | exact HpSub.nil))⟩
 rintro ⟨g, bO⟩ -
 try dsimp only
 refine t_cut (ι := Nat) (fun bF => [(1, .slice A n c), (4, .pointer (some ⟨bD, 0, none⟩)), (6, .pointer (some ⟨bM, 0, none⟩)), (7, .pointer (some ⟨bT, 0, none⟩)), (12, .pointer (some ⟨bO, 0, none⟩)), (13, .pointer (some ⟨bF, 0, none⟩))]) (fun bF => (bF, [.nilFunc], some (152, 1, 1)) :: (bO, [.slice (some ⟨g, 0, none⟩) m m], some (90, 1, 1)) :: (g, List.replicate m (.slice none 0 0), some (41, 1, m)) :: [(bT, [.slice AT m cT], some (89, 1, 1)), (bM, [.int .i64 mem], some (3, 1, 1)), (bD, [.int .i64 d.most, .int .i64 d.rest, .int .i64 d.win, .int .i64 d.sum], some (74, 4, 1))]) (fun _ => True) ?_ ?_
 ·repeat' (first | (with_reducible apply tl_nil) | ((with_reducible apply u_s); (iterate 3 exact rfl)) | ((with_reducible apply os_x); exact rfl) | ((with_reducible apply ox_alloc); exact rfl; intro _) | (apply t_region; kernel_rfl))
  all_goals exact ⟨by trivial, _, trivial, by (repeat (first | exact FrSub.nil | (apply FrSub.cons; exact rfl))), by (repeat (first | exact HpSub.refl _ | (apply HpSub.consE; (repeat (first | exact P0 | apply P1 | apply PA)); exact rfl) | apply hp_kA | apply HpSub.skipX | apply hp_skA | exact HpSub.nil))⟩
 rintro bF -
 try dsimp only
 refine t_cut (ι := Unit) (fun _ => [(1, .slice A n c), (4, .pointer (some ⟨bD, 0, none⟩)), (6, .pointer (some ⟨bM, 0, none⟩)), (7, .pointer (some ⟨bT, 0, none⟩)), (12, .pointer (some ⟨bO, 0, none⟩)), (13, .pointer (some ⟨bF, 0, none⟩))]) (fun _ => [(bF, [.func (.func 88) #[] #[.pointer (some ⟨bD, 0, none⟩), .pointer (some ⟨bT, 0, none⟩), .pointer (some ⟨bO, 0, none⟩), .pointer (some ⟨bF, 0, none⟩), .pointer (some ⟨bM, 0, none⟩)]], some (152, 1, 1)), (bO, [.slice (some ⟨g, 0, none⟩) m m], some (90, 1, 1)), (bT, [.slice AT m cT], some (89, 1, 1)), (bM, [.int .i64 mem], some (3, 1, 1)), (bD, [.int .i64 d.most, .int .i64 d.rest, .int .i64 d.win, .int .i64 d.sum], some (74, 4, 1))] ++ outH g m (List.replicate m ([], none))) (fun _ => True) ?_ ?_
 ·repeat' (first | (apply oq_fn; exact rfl; try first | exact trivial | (and_intros <;> omega)) | (with_reducible apply tl_nil) | ((with_reducible apply u_q); (iterate 4 exact rfl)) | ((with_reducible apply u_s0); exact rfl; exact rfl) | ((with_reducible apply os_store); (iterate 4 exact rfl)) | (apply t_region; kernel_rfl) | exact P0 | ((with_reducible apply Norm.nil); exact rfl) | ((with_reducible apply Norm.cons); exact rfl) | exact Nat.le_of_ble_eq_true rfl)
  all_goals exact ⟨by trivial, (), trivial, by (repeat (first | exact FrSub.nil | (apply FrSub.cons; exact rfl))), by (rw [out_none]; simp only [List.cons_append, List.nil_append]; (repeat (first | exact HpSub.refl _ | (apply HpSub.consE; (repeat (first | exact P0 | apply P1 | apply PA)); exact rfl) | apply hp_kA | apply HpSub.skipX | apply hp_skA | exact HpSub.nil)))⟩
 rintro ⟨⟩ -
 obtain ⟨R0, hR0⟩ : ∃ R : List Row, List.replicate m ([], none) = R := ⟨_, rfl⟩
 have hR0l : R0.length = m := by rw [← hR0]; simp
 have hR0e : ∀ (j : Nat) r, R0[j]? = some r → r = ([], none) := fun j r h => by
  rw [← hR0, List.getElem?_replicate] at h
  split at h
  ·exact (Option.some.inj h).symm
  ·cases h
 have hR0k : ∀ r ∈ R0, LrOk r := fun r h => by
  obtain ⟨j, hj, rfl⟩ := List.getElem_of_mem h
  rw [hR0e j _ (List.getElem?_eq_getElem hj)]
  exact ⟨fun _ => rfl, Nat.le_refl _⟩
 have hR0c : R0.map Prod.fst = List.replicate m [] := by rw [← hR0]; simp
 rw [hR0]
 obtain ⟨mm, hmm⟩ : ∃ k : Nat, mem = (k : Int) := ⟨mem.toNat, by omega⟩
 have hdep := dep_le hto
 obtain ⟨N, hN⟩ : ∃ N, asgN d l mem ts = N := ⟨_, rfl⟩
 have hNe := hN
 unfold asgN at hNe
 have htry := fun w1 h1 h2 h3 h4 => try_T d hd mm m (by omega) (by omega) ts hlT hto bD bT bO bF bM g AT cT 20 0 0 l R0 [] A n c w1 hR0l hR0k (Nat.zero_le _) (fun j r _ h => by rw [hR0e j r h]) (fun r h => by rw [hR0e 0 r h]) (fun _ => rfl) (fun x hx => by have := hto x (List.mem_of_getElem? hx); unfold trOk at this; simp only [List.length_nil]; omega) (by rw [List.drop_zero]; simp only [List.length_nil]; omega) (by omega) (by omega) h1 hA h2 h3 h4
 rw [List.drop_zero, show tryF d mm 20 ts [] 0 l = N by rw [← hNe, hmm]; rfl, hR0c] at htry
 subst hmm
 cases N with
 | none =>
  rw [hN] at hEd
  simp only [Option.isSome_none, Bool.false_eq_true, if_false] at hEd
  subst hEd
  repeat' (first | (apply oq_fn; exact rfl; try first | exact trivial | (and_intros <;> omega)) | ((with_reducible apply oq_load); exact rfl; exact rfl) | (with_reducible apply tl_nil) | ((with_reducible apply u_s); (iterate 3 exact rfl); (with_reducible apply os_callM (G := outH g m R0) (R := [(bF, [.func (.func 88) #[] #[.pointer (some ⟨bD, 0, none⟩), .pointer (some ⟨bT, 0, none⟩), .pointer (some ⟨bO, 0, none⟩), .pointer (some ⟨bF, 0, none⟩), .pointer (some ⟨bM, 0, none⟩)]], some (152, 1, 1)), (bO, [.slice (some ⟨g, 0, none⟩) m m], some (90, 1, 1)), (bT, [.slice AT m cT], some (89, 1, 1)), (bM, [.int .i64 (mm : Nat)], some (3, 1, 1)), (bD, [.int .i64 d.most, .int .i64 d.rest, .int .i64 d.win, .int .i64 d.sum], some (74, 4, 1))]) (PV := TryP g m (List.replicate m []) 0 none) (k := 88) (hc := Try.call88)); exact rfl; exact rfl; exact hp_comm [(bF, [.func (.func 88) #[] #[.pointer (some ⟨bD, 0, none⟩), .pointer (some ⟨bT, 0, none⟩), .pointer (some ⟨bO, 0, none⟩), .pointer (some ⟨bF, 0, none⟩), .pointer (some ⟨bM, 0, none⟩)]], some (152, 1, 1)), (bO, [.slice (some ⟨g, 0, none⟩) m m], some (90, 1, 1)), (bT, [.slice AT m cT], some (89, 1, 1)), (bM, [.int .i64 (mm : Nat)], some (3, 1, 1)), (bD, [.int .i64 d.most, .int .i64 d.rest, .int .i64 d.win, .int .i64 d.sum], some (74, 4, 1))] _; exact fun D w1 hw1 hw2 => htry w1 (hr.ext hw1.ext.ext) (old_off (X := [(bF, [.func (.func 88) #[] #[.pointer (some ⟨bD, 0, none⟩), .pointer (some ⟨bT, 0, none⟩), .pointer (some ⟨bO, 0, none⟩), .pointer (some ⟨bF, 0, none⟩), .pointer (some ⟨bM, 0, none⟩)]], some (152, 1, 1)), (bO, [.slice (some ⟨g, 0, none⟩) m m], some (90, 1, 1)), (bT, [.slice AT m cT], some (89, 1, 1)), (bM, [.int .i64 (mm : Nat)], some (3, 1, 1)), (bD, [.int .i64 d.most, .int .i64 d.rest, .int .i64 d.win, .int .i64 d.sum], some (74, 4, 1))]) hw1 hr) ⟨hw1.cellAt (by (repeat (first | exact P0 | apply P1 | apply PA))) rfl, hw1.cellAt (by (repeat (first | exact P0 | apply P1 | apply PA))) rfl, hw1.cellAt (by (repeat (first | exact P0 | apply P1 | apply PA))) rfl, hw1.cellAt (by (repeat (first | exact P0 | apply P1 | apply PA))) rfl, hw1.cellAt (by (repeat (first | exact P0 | apply P1 | apply PA))) rfl, hw1.cellAt (by (repeat (first | exact P0 | apply P1 | apply PA))) rfl, hw1.cellAt (by (repeat (first | exact P0 | apply P1 | apply PA))) rfl, hw1.cellAt (by (repeat (first | exact P0 | apply P1 | apply PA))) rfl, hrT.ext hw1.ext.ext, Has.off2 (X := [(bF, [.func (.func 88) #[] #[.pointer (some ⟨bD, 0, none⟩), .pointer (some ⟨bT, 0, none⟩), .pointer (some ⟨bO, 0, none⟩), .pointer (some ⟨bF, 0, none⟩), .pointer (some ⟨bM, 0, none⟩)]], some (152, 1, 1)), (bO, [.slice (some ⟨g, 0, none⟩) m m], some (90, 1, 1)), (bT, [.slice AT m cT], some (89, 1, 1)), (bM, [.int .i64 (mm : Nat)], some (3, 1, 1)), (bD, [.int .i64 d.most, .int .i64 d.rest, .int .i64 d.win, .int .i64 d.sum], some (74, 4, 1))]) hw1 (by simp), Has.off2 (X := [(bF, [.func (.func 88) #[] #[.pointer (some ⟨bD, 0, none⟩), .pointer (some ⟨bT, 0, none⟩), .pointer (some ⟨bO, 0, none⟩), .pointer (some ⟨bF, 0, none⟩), .pointer (some ⟨bM, 0, none⟩)]], some (152, 1, 1)), (bO, [.slice (some ⟨g, 0, none⟩) m m], some (90, 1, 1)), (bT, [.slice AT m cT], some (89, 1, 1)), (bM, [.int .i64 (mm : Nat)], some (3, 1, 1)), (bD, [.int .i64 d.most, .int .i64 d.rest, .int .i64 d.win, .int .i64 d.sum], some (74, 4, 1))]) hw1 (by simp), Has.off2 (X := [(bF, [.func (.func 88) #[] #[.pointer (some ⟨bD, 0, none⟩), .pointer (some ⟨bT, 0, none⟩), .pointer (some ⟨bO, 0, none⟩), .pointer (some ⟨bF, 0, none⟩), .pointer (some ⟨bM, 0, none⟩)]], some (152, 1, 1)), (bO, [.slice (some ⟨g, 0, none⟩) m m], some (90, 1, 1)), (bT, [.slice AT m cT], some (89, 1, 1)), (bM, [.int .i64 (mm : Nat)], some (3, 1, 1)), (bD, [.int .i64 d.most, .int .i64 d.rest, .int .i64 d.win, .int .i64 d.sum], some (74, 4, 1))]) hw1 (by simp), Has.off2 (X := [(bF, [.func (.func 88) #[] #[.pointer (some ⟨bD, 0, none⟩), .pointer (some ⟨bT, 0, none⟩), .pointer (some ⟨bO, 0, none⟩), .pointer (some ⟨bF, 0, none⟩), .pointer (some ⟨bM, 0, none⟩)]], some (152, 1, 1)), (bO, [.slice (some ⟨g, 0, none⟩) m m], some (90, 1, 1)), (bT, [.slice AT m cT], some (89, 1, 1)), (bM, [.int .i64 (mm : Nat)], some (3, 1, 1)), (bD, [.int .i64 d.most, .int .i64 d.rest, .int .i64 d.win, .int .i64 d.sum], some (74, 4, 1))]) hw1 (by simp), Has.off2 (X := [(bF, [.func (.func 88) #[] #[.pointer (some ⟨bD, 0, none⟩), .pointer (some ⟨bT, 0, none⟩), .pointer (some ⟨bO, 0, none⟩), .pointer (some ⟨bF, 0, none⟩), .pointer (some ⟨bM, 0, none⟩)]], some (152, 1, 1)), (bO, [.slice (some ⟨g, 0, none⟩) m m], some (90, 1, 1)), (bT, [.slice AT m cT], some (89, 1, 1)), (bM, [.int .i64 (mm : Nat)], some (3, 1, 1)), (bD, [.int .i64 d.most, .int .i64 d.rest, .int .i64 d.win, .int .i64 d.sum], some (74, 4, 1))]) hw1 (by simp), old_off (X := [(bF, [.func (.func 88) #[] #[.pointer (some ⟨bD, 0, none⟩), .pointer (some ⟨bT, 0, none⟩), .pointer (some ⟨bO, 0, none⟩), .pointer (some ⟨bF, 0, none⟩), .pointer (some ⟨bM, 0, none⟩)]], some (152, 1, 1)), (bO, [.slice (some ⟨g, 0, none⟩) m m], some (90, 1, 1)), (bT, [.slice AT m cT], some (89, 1, 1)), (bM, [.int .i64 (mm : Nat)], some (3, 1, 1)), (bD, [.int .i64 d.most, .int .i64 d.rest, .int .i64 d.win, .int .i64 d.sum], some (74, 4, 1))]) hw1 hrT⟩ hw2; rintro v H1 ⟨R5, hok5, rfl, hcs5, rfl⟩; (simp only [Option.isSome_some, Option.isSome_none])) | ((with_reducible apply u_q); (iterate 4 exact rfl)) | (apply Rd.own; (repeat (first | exact P0 | apply P1 | apply PA)); exact rfl; done) | (with_reducible apply t_seq) | (apply t_region; kernel_rfl) | ((with_reducible apply t_condT); exact rfl) | (with_reducible apply t_ret) | with_reducible apply q_thenN | with_reducible apply q_thenR | (with_reducible apply end_ret) | exact rvs_nil | (with_reducible apply rvs_cons) | ((with_reducible apply rv_tmp); exact rfl))
  all_goals exact hbad (by decide) _
 | some rs =>
  rw [hN] at hEd
  simp only [Option.isSome_some, if_true] at hEd
  subst hEd
  have hrl : rs.length = m := by rw [← hlT]; exact tryF_len hNe
  have hL : asgL d l (mm : Nat) ts = rs := by unfold asgL; rw [if_pos hE, hN]; rfl
  repeat' (first | (apply oq_fn; exact rfl; try first | exact trivial | (and_intros <;> omega)) | ((with_reducible apply oq_load); exact rfl; exact rfl) | (with_reducible apply tl_nil) | ((with_reducible apply u_s); (iterate 3 exact rfl); (with_reducible apply os_callM (G := outH g m R0) (R := [(bF, [.func (.func 88) #[] #[.pointer (some ⟨bD, 0, none⟩), .pointer (some ⟨bT, 0, none⟩), .pointer (some ⟨bO, 0, none⟩), .pointer (some ⟨bF, 0, none⟩), .pointer (some ⟨bM, 0, none⟩)]], some (152, 1, 1)), (bO, [.slice (some ⟨g, 0, none⟩) m m], some (90, 1, 1)), (bT, [.slice AT m cT], some (89, 1, 1)), (bM, [.int .i64 (mm : Nat)], some (3, 1, 1)), (bD, [.int .i64 d.most, .int .i64 d.rest, .int .i64 d.win, .int .i64 d.sum], some (74, 4, 1))]) (PV := TryP g m (List.replicate m []) 0 (some rs)) (k := 88) (hc := Try.call88)); exact rfl; exact rfl; exact hp_comm [(bF, [.func (.func 88) #[] #[.pointer (some ⟨bD, 0, none⟩), .pointer (some ⟨bT, 0, none⟩), .pointer (some ⟨bO, 0, none⟩), .pointer (some ⟨bF, 0, none⟩), .pointer (some ⟨bM, 0, none⟩)]], some (152, 1, 1)), (bO, [.slice (some ⟨g, 0, none⟩) m m], some (90, 1, 1)), (bT, [.slice AT m cT], some (89, 1, 1)), (bM, [.int .i64 (mm : Nat)], some (3, 1, 1)), (bD, [.int .i64 d.most, .int .i64 d.rest, .int .i64 d.win, .int .i64 d.sum], some (74, 4, 1))] _; exact fun D w1 hw1 hw2 => htry w1 (hr.ext hw1.ext.ext) (old_off (X := [(bF, [.func (.func 88) #[] #[.pointer (some ⟨bD, 0, none⟩), .pointer (some ⟨bT, 0, none⟩), .pointer (some ⟨bO, 0, none⟩), .pointer (some ⟨bF, 0, none⟩), .pointer (some ⟨bM, 0, none⟩)]], some (152, 1, 1)), (bO, [.slice (some ⟨g, 0, none⟩) m m], some (90, 1, 1)), (bT, [.slice AT m cT], some (89, 1, 1)), (bM, [.int .i64 (mm : Nat)], some (3, 1, 1)), (bD, [.int .i64 d.most, .int .i64 d.rest, .int .i64 d.win, .int .i64 d.sum], some (74, 4, 1))]) hw1 hr) ⟨hw1.cellAt (by (repeat (first | exact P0 | apply P1 | apply PA))) rfl, hw1.cellAt (by (repeat (first | exact P0 | apply P1 | apply PA))) rfl, hw1.cellAt (by (repeat (first | exact P0 | apply P1 | apply PA))) rfl, hw1.cellAt (by (repeat (first | exact P0 | apply P1 | apply PA))) rfl, hw1.cellAt (by (repeat (first | exact P0 | apply P1 | apply PA))) rfl, hw1.cellAt (by (repeat (first | exact P0 | apply P1 | apply PA))) rfl, hw1.cellAt (by (repeat (first | exact P0 | apply P1 | apply PA))) rfl, hw1.cellAt (by (repeat (first | exact P0 | apply P1 | apply PA))) rfl, hrT.ext hw1.ext.ext, Has.off2 (X := [(bF, [.func (.func 88) #[] #[.pointer (some ⟨bD, 0, none⟩), .pointer (some ⟨bT, 0, none⟩), .pointer (some ⟨bO, 0, none⟩), .pointer (some ⟨bF, 0, none⟩), .pointer (some ⟨bM, 0, none⟩)]], some (152, 1, 1)), (bO, [.slice (some ⟨g, 0, none⟩) m m], some (90, 1, 1)), (bT, [.slice AT m cT], some (89, 1, 1)), (bM, [.int .i64 (mm : Nat)], some (3, 1, 1)), (bD, [.int .i64 d.most, .int .i64 d.rest, .int .i64 d.win, .int .i64 d.sum], some (74, 4, 1))]) hw1 (by simp), Has.off2 (X := [(bF, [.func (.func 88) #[] #[.pointer (some ⟨bD, 0, none⟩), .pointer (some ⟨bT, 0, none⟩), .pointer (some ⟨bO, 0, none⟩), .pointer (some ⟨bF, 0, none⟩), .pointer (some ⟨bM, 0, none⟩)]], some (152, 1, 1)), (bO, [.slice (some ⟨g, 0, none⟩) m m], some (90, 1, 1)), (bT, [.slice AT m cT], some (89, 1, 1)), (bM, [.int .i64 (mm : Nat)], some (3, 1, 1)), (bD, [.int .i64 d.most, .int .i64 d.rest, .int .i64 d.win, .int .i64 d.sum], some (74, 4, 1))]) hw1 (by simp), Has.off2 (X := [(bF, [.func (.func 88) #[] #[.pointer (some ⟨bD, 0, none⟩), .pointer (some ⟨bT, 0, none⟩), .pointer (some ⟨bO, 0, none⟩), .pointer (some ⟨bF, 0, none⟩), .pointer (some ⟨bM, 0, none⟩)]], some (152, 1, 1)), (bO, [.slice (some ⟨g, 0, none⟩) m m], some (90, 1, 1)), (bT, [.slice AT m cT], some (89, 1, 1)), (bM, [.int .i64 (mm : Nat)], some (3, 1, 1)), (bD, [.int .i64 d.most, .int .i64 d.rest, .int .i64 d.win, .int .i64 d.sum], some (74, 4, 1))]) hw1 (by simp), Has.off2 (X := [(bF, [.func (.func 88) #[] #[.pointer (some ⟨bD, 0, none⟩), .pointer (some ⟨bT, 0, none⟩), .pointer (some ⟨bO, 0, none⟩), .pointer (some ⟨bF, 0, none⟩), .pointer (some ⟨bM, 0, none⟩)]], some (152, 1, 1)), (bO, [.slice (some ⟨g, 0, none⟩) m m], some (90, 1, 1)), (bT, [.slice AT m cT], some (89, 1, 1)), (bM, [.int .i64 (mm : Nat)], some (3, 1, 1)), (bD, [.int .i64 d.most, .int .i64 d.rest, .int .i64 d.win, .int .i64 d.sum], some (74, 4, 1))]) hw1 (by simp), Has.off2 (X := [(bF, [.func (.func 88) #[] #[.pointer (some ⟨bD, 0, none⟩), .pointer (some ⟨bT, 0, none⟩), .pointer (some ⟨bO, 0, none⟩), .pointer (some ⟨bF, 0, none⟩), .pointer (some ⟨bM, 0, none⟩)]], some (152, 1, 1)), (bO, [.slice (some ⟨g, 0, none⟩) m m], some (90, 1, 1)), (bT, [.slice AT m cT], some (89, 1, 1)), (bM, [.int .i64 (mm : Nat)], some (3, 1, 1)), (bD, [.int .i64 d.most, .int .i64 d.rest, .int .i64 d.win, .int .i64 d.sum], some (74, 4, 1))]) hw1 (by simp), old_off (X := [(bF, [.func (.func 88) #[] #[.pointer (some ⟨bD, 0, none⟩), .pointer (some ⟨bT, 0, none⟩), .pointer (some ⟨bO, 0, none⟩), .pointer (some ⟨bF, 0, none⟩), .pointer (some ⟨bM, 0, none⟩)]], some (152, 1, 1)), (bO, [.slice (some ⟨g, 0, none⟩) m m], some (90, 1, 1)), (bT, [.slice AT m cT], some (89, 1, 1)), (bM, [.int .i64 (mm : Nat)], some (3, 1, 1)), (bD, [.int .i64 d.most, .int .i64 d.rest, .int .i64 d.win, .int .i64 d.sum], some (74, 4, 1))]) hw1 hrT⟩ hw2; rintro v H1 ⟨R5, hok5, rfl, hcs5, rfl⟩; (simp only [Option.isSome_some, Option.isSome_none])) | ((with_reducible apply u_q); (iterate 4 exact rfl)) | (apply Rd.own; (repeat (first | exact P0 | apply P1 | apply PA)); exact rfl; done) | (with_reducible apply t_seq) | (apply t_region; kernel_rfl) | ((with_reducible apply t_condF); exact rfl) | (with_reducible apply t_ret) | (with_reducible apply t_skip) | with_reducible apply q_thenN | (with_reducible apply end_ret) | exact rvs_nil | (with_reducible apply rvs_cons) | ((with_reducible apply rv_tmp); exact rfl))
  all_goals (refine ⟨outH g m R5, .inr ⟨hE, g, R5, hok5, ?_, ?_, ?_⟩, hp_left⟩)
  ·rw [hL, hcs5]; rfl
  ·rw [hL, hrl]; rfl
  ·rw [hL, hrl]
end Go.Proofs.Ytmlmgipngbndgaa
namespace Go.Proofs.Ytmlmgipngbndgaa
def shR (x : Tr) (r : List Int) : List Sh := r.map fun p => ⟨p, x.fr, x.to⟩
def addF : List Tr → List (List Int) → List Sh
 | x :: ts, r :: rs => shR x r ++ addF ts rs
 | _, _ => []
/-- A row of people that may be. -/
def rwOk (mem : Nat) (r : List Int) : Prop := r.Pairwise (· < ·) ∧ ∀ p ∈ r, 0 ≤ p ∧ p < mem
/-- Trips that are manned. -/
def Mand (d : Du) (mem : Nat) : List Tr → List Int → List Sh → List (List Int) → Prop
 | [], _, l, [] => okB d l = true
 | x :: ts, cur, l, r :: rs => ∃ e, r = cur ++ e ∧ (r.length : Int) = x.crew ∧ rwOk mem r ∧ Mand d mem ts [] (l ++ shR x e) rs
 | _, _, _, _ => False
theorem Mand.at {d : Du} {mem : Nat} : ∀ {ts : List Tr} {l : List Sh} {R : List (List Int)}, Mand d mem ts [] l R → R.length = ts.length ∧ (∀ (i : Nat) x r, ts[i]? = some x → R[i]? = some r → (r.length : Int) = x.crew ∧ rwOk mem r) ∧ okB d (l ++ addF ts R) = true
 | [], l, [], h => ⟨rfl, fun i x r hx => by simp at hx, by have h' : okB d l = true := h; simpa [addF] using h'⟩
 | x :: ts, l, r :: R, ⟨e, he, h1, h2, h3⟩ => by
  obtain ⟨k1, k2, k3⟩ := h3.at
  simp only [List.nil_append] at he
  subst he
  refine ⟨by simp [k1], fun i y q hy hq => ?_, by simpa [addF] using k3⟩
  cases i with
  | zero => simp only [List.getElem?_cons_zero, Option.some.injEq] at hy hq; subst hy; subst hq; exact ⟨h1, h2⟩
  | succ i => simp only [List.getElem?_cons_succ] at hy hq; exact k2 i y q hy hq
 | [], l, r :: R, h => h.elim
 | x :: ts, l, [], h => h.elim
def ltL (m r : List Int) : Prop := ∃ k a b, m.take k = r.take k ∧ m[k]? = some a ∧ r[k]? = some b ∧ a < b
/-- One answer is no later than another. -/
def lexR : List (List Int) → List (List Int) → Prop
 | [], [] => True
 | m :: M, r :: R => m.length = r.length ∧ (ltL m r ∨ (m = r ∧ lexR M R))
 | _, _ => False
/-- Where they first differ. -/
theorem lexR.at : ∀ {M R : List (List Int)}, lexR M R → ∀ {i j : Nat} {m r : List Int} {b : Int}, M.take i = R.take i → M[i]? = some m → R[i]? = some r → m.take j = r.take j → r[j]? = some b → ∃ a, m[j]? = some a ∧ a ≤ b
 | [], [], _, i, j, m, r, b, _, hm, _, _, _ => by simp at hm
 | m0 :: M, r0 :: R, ⟨h1, h2⟩, 0, j, m, r, b, _, hm, hr, ht, hb => by
  simp only [List.getElem?_cons_zero, Option.some.injEq] at hm hr
  subst hm; subst hr
  rcases h2 with ⟨k, a, c, k1, k2, k3, k4⟩ | ⟨rfl, _⟩
  ·have hj := (List.getElem?_eq_some_iff.1 hb).1
   have hjm : j < m0.length := by omega
   refine ⟨m0[j], List.getElem?_eq_getElem hjm, ?_⟩
   by_cases hjk : j < k
   ·have e1 : (m0.take k)[j]? = (r0.take k)[j]? := by rw [k1]
    rw [List.getElem?_take_of_lt hjk, List.getElem?_take_of_lt hjk, hb, List.getElem?_eq_getElem hjm] at e1
    have := Option.some.inj e1; omega
   ·by_cases hjk2 : j = k
    ·subst hjk2
     rw [k3] at hb; rw [List.getElem?_eq_getElem hjm] at k2
     have := Option.some.inj k2; have := Option.some.inj hb; omega
    ·have e1 : (m0.take j)[k]? = (r0.take j)[k]? := by rw [ht]
     rw [List.getElem?_take_of_lt (by omega), List.getElem?_take_of_lt (by omega), k2, k3] at e1
     have := Option.some.inj e1; omega
  ·exact ⟨b, hb, Int.le_refl _⟩
 | m0 :: M, r0 :: R, ⟨h1, h2⟩, i + 1, j, m, r, b, hM, hm, hr, ht, hb => by
  simp only [List.take_succ_cons, List.cons.injEq] at hM
  simp only [List.getElem?_cons_succ] at hm hr
  rcases h2 with ⟨k, a, c, k1, k2, k3, k4⟩ | ⟨_, h3⟩
  ·rw [hM.1] at k2
   rw [k2] at k3; have := Option.some.inj k3; omega
  ·exact lexR.at h3 hM.2 hm hr ht hb
 | [], r0 :: R, h, _, _, _, _, _, _, _, _, _, _ => h.elim
 | m0 :: M, [], h, _, _, _, _, _, _, _, _, _, _ => h.elim
open Go.RowKit
theorem hp_leftX : ∀ (G R : Hp), HpSub (G ++ R) G
 | [], R => HpSub.nil
 | x :: G, R => HpSub.front (hp_leftX G R)
end Go.Proofs.Ytmlmgipngbndgaa
namespace Go.Proofs.Ytmlmgipngbndgaa
open Go.RowKit
section
variable {c : Cx} {F : Fr} {H H' : Hp} {K : Value → Hp → Prop} {d : Option Tmp} {ty : TypeId} {pos : String} {af : Array Edge} {gd : Option (Nat × Bool)} {t t' : TypeId} {x y : Operand} {a0 a1 : Bool} {s0 s1 : Nat} {z0 z1 : List Value} {k1 : TyK} {g : Nat} {tg : Tg} {C : List Value}
theorem os_copy {e od dLen dCap b2 o2 sLen sCap : Nat} {vs : List Value} (ht : tyAt c.tys t = some ⟨a0, s0, z0, .slice e⟩) (he : tyAt c.tys e = some ⟨a1, 1, z1, k1⟩) (hx : ev F x = some (.slice (some ⟨g, od, none⟩) dLen dCap)) (hy : ev F y = some (.slice (some ⟨b2, o2, none⟩) sLen sCap))
  (hp : Pick H g C tg H') (hr : Rds c H b2 o2 vs) (hn : vs.length = Nat.min sLen dLen) (ho : od + vs.length ≤ C.length) (h1 : ∀ v ∈ vs, v.oneCell' = true) (kk : K (.int .i64 (vs.length : Nat)) ((g, setL C od vs, tg) :: H')) : OS c ⟨d, .call ⟨.builtin .copy, #[x, y], #[t, t']⟩, ty, pos, af, gd⟩ F H K := by
 intro D a w ha hw
 have hw' := hw.perm hp.perm
 have hb := (hw'.blk _ (List.mem_cons_self ..)).2
 obtain ⟨w', h2, h3, h4⟩ := run_storeCells c.P g od vs 0 w C tg hb (by omega) h1
 have hk := (c.ty ht).kind w
 have hs := (c.ty he).size w
 have hl := run_loadCells_eq c.P w b2 o2 vs (fun j v hj => Rds.at_ hw vs o2 hr j v hj)
 have hl2 : (loadCells ⟨b2, o2, none⟩ (Nat.min sLen dLen)).run c.P w = .ok vs.toArray w := by rw [← hn]; exact hl
 have : (execOp a.eval ⟨d, .call ⟨.builtin .copy, #[x, y], #[t, t']⟩, ty, pos, af, gd⟩).run c.P w = .ok (.value (.int .i64 (vs.length : Nat))) w' := by
  simp [execOp, resolve, invoke, builtin, ha.ev hx, ha.ev hy, Builtin.copy_, Builtin.lenOf, Builtin.firstCells, Sem.run_bind, Sem.run_pure, Result.andThen, hk, hs, hl2, h2, goInt, hn]
 rw [this]
 exact ⟨_, by simpa using kk, hw'.wrote h4 h3⟩
theorem oq_sliceH {e b o len cap h : Nat} {k : IntKind} {hi : Int} (ht : tyAt c.tys t = some ⟨a0, s0, z0, .slice e⟩) (he : tyAt c.tys e = some ⟨a1, s1, z1, k1⟩)
  (hx : ev F x = some (.slice (some ⟨b, o, none⟩) len cap)) (hy : ev F y = some (.int k hi)) (hl : hi = h) (h1 : h ≤ cap) :
  OQ c ⟨d, .slice t x none (some y) none, ty, pos, af, gd⟩ F H (.slice (some ⟨b, o, none⟩) h cap) := .of fun D a w ha _ => by
 subst hl
 have hk := (c.ty ht).kind w
 have hs := (c.ty he).size w
 simp only [execOp, Option.map, ha.ev hx, ha.ev hy]
 by_cases h2 : cap = 0
 ·subst h2
  simp [Instr.sliceAt, Instr.slice, Instr.sliceBounds, Instr.sliceBound, asIntOf, Sem.run_bind, hk, hs, h1, Result.andThen, go_sem, add_eq]
 ·simp [Instr.sliceAt, Instr.slice, Instr.sliceBounds, Instr.sliceBound, asIntOf, Sem.run_bind, hk, hs, h1, h2, Result.andThen, go_sem, add_eq]
/-- k times x, then zeros. -/
def fillX (x : Int) (n k : Nat) : List Value := List.replicate k (Value.int .i64 x) ++ List.replicate (n - k) (Value.int .i64 0)
theorem fillX_len {x : Int} {n k : Nat} (h : k ≤ n) : (fillX x n k).length = n := by unfold fillX; simp; omega
theorem fillX_zero {x : Int} {n : Nat} : List.replicate n (Value.int .i64 0) = fillX x n 0 := by unfold fillX; simp
theorem fillX_done {x : Int} {n : Nat} : fillX x n n = (List.replicate n x).map iv := by unfold fillX; simp [iv]
theorem fillX_set {x : Int} {n : Nat} : ∀ (m k : Nat), k + m ≤ n → setL (fillX x n k) k (List.replicate m (Value.int .i64 x)) = fillX x n (k + m)
 | 0, k, _ => rfl
 | m + 1, k, h => by
  rw [List.replicate_succ]
  simp only [setL]
  have e : (fillX x n k).set k (Value.int .i64 x) = fillX x n (k + 1) := by
   unfold fillX
   rw [List.set_append_right _ _ (by simp), show n - k = (n - (k + 1)) + 1 by omega, List.replicate_succ]
   simp [List.replicate_succ']
  rw [e, fillX_set m (k + 1) (by omega), show k + 1 + m = k + (m + 1) by omega]
theorem Rds.own {b : Nat} (hp : Pick H b C tg H') : ∀ (vs : List Value) (o : Nat), (∀ j v, vs[j]? = some v → C[o + j]? = some v) → Rds c H b o vs
 | [], _, _ => trivial
 | v :: vs, o, h => ⟨Rd.own hp (h 0 v rfl), Rds.own hp vs (o + 1) fun j u hj => by have := h (j + 1) u (by simpa using hj); rw [← this]; congr 1; omega⟩
theorem fillX_at {x : Int} {n k m : Nat} (hm : m ≤ k) (j : Nat) (v : Value) (h : (List.replicate m (Value.int .i64 x))[j]? = some v) : (fillX x n k)[0 + j]? = some v := by
 have hj := (List.getElem?_eq_some_iff.1 h).1
 simp only [List.length_replicate] at hj
 unfold fillX
 rw [Nat.zero_add, List.getElem?_append_left (by simp; omega)]
 rw [List.getElem?_replicate] at h ⊢
 rw [if_pos hj] at h
 rw [if_pos (by omega)]
 exact h
/-- A list's front is copied onto what is behind it. -/
theorem os_copyX {e n k cap cap2 : Nat} {z : Int} (h1 : k ≤ n) (ht : tyAt c.tys t = some ⟨a0, s0, z0, .slice e⟩) (he : tyAt c.tys e = some ⟨a1, 1, z1, k1⟩) (hx : ev F x = some (.slice (some ⟨g, 0 + k * 1, none⟩) (n - k) cap)) (hy : ev F y = some (.slice (some ⟨g, 0, none⟩) k cap2))
  (hp : Pick H g (fillX z n k) tg H') (kk : K (.int .i64 (min k (n - k) : Nat)) ((g, fillX z n (k + min k (n - k)), tg) :: H')) : OS c ⟨d, .call ⟨.builtin .copy, #[x, y], #[t, t']⟩, ty, pos, af, gd⟩ F H K := by
 rw [Nat.zero_add, Nat.mul_one] at hx
 refine os_copy (vs := List.replicate (min k (n - k)) (Value.int .i64 z)) ht he hx hy hp (Rds.own hp _ _ fun j v hj => fillX_at (by omega) j v hj) (by simp) (by rw [fillX_len h1]; simp; omega) (by intro v hv; obtain rfl := (List.mem_replicate.1 hv).2; rfl) ?_
 rw [fillX_set _ _ (by omega)]
 simpa using kk
theorem os_copy1 {e n b2 o2 cap cap2 : Nat} {z : Int} (h1 : 1 ≤ n) (ht : tyAt c.tys t = some ⟨a0, s0, z0, .slice e⟩) (he : tyAt c.tys e = some ⟨a1, 1, z1, k1⟩) (hx : ev F x = some (.slice (some ⟨g, 0, none⟩) n cap)) (hy : ev F y = some (.slice (some ⟨b2, o2, none⟩) 1 cap2))
  (hp : Pick H g (List.replicate n (Value.int .i64 0)) tg H') (hr : Rd c H ⟨b2, o2, none⟩ (.int .i64 z)) (kk : K (.int .i64 (1 : Nat)) ((g, fillX z n 1, tg) :: H')) : OS c ⟨d, .call ⟨.builtin .copy, #[x, y], #[t, t']⟩, ty, pos, af, gd⟩ F H K := by
 refine os_copy (vs := [Value.int .i64 z]) ht he hx hy hp ⟨hr, trivial⟩ (by show 1 = min 1 n; omega) (by simp; omega) (by intro v hv; simp only [List.mem_singleton] at hv; rw [hv]; rfl) ?_
 have := fillX_set (x := z) (n := n) 1 0 (by omega)
 rw [fillX_zero (x := z)]
 rw [show ([Value.int .i64 z] : List Value) = List.replicate 1 (Value.int .i64 z) from rfl, this]
 exact kk
end
end Go.Proofs.Ytmlmgipngbndgaa
namespace Go.Proofs.Ytmlmgipngbndgaa
def never : Int := 1099511627776
/-- What has to be left before a flight, after the inspection, if there is one; r: what is needed behind it. -/
def befV (gr f r : Int) : Int := max (f - gr) (r + f)
/-- What has to be left at least, with k inspections from there on. -/
def ndL (ev gr : Int) : List Int → Nat → Int
 | [], k => if k = 0 then -never else never
 | f :: t, 0 => befV gr f (ndL ev gr t 0)
 | f :: t, k + 1 => if befV gr f (ndL ev gr t k) ≤ ev then min (befV gr f (ndL ev gr t (k + 1))) (befV gr f (ndL ev gr t k) - ev) else befV gr f (ndL ev gr t (k + 1))
theorem nd_zero (ev gr f : Int) (t : List Int) : ndL ev gr (f :: t) 0 = befV gr f (ndL ev gr t 0) := rfl
theorem nd_succ (ev gr f : Int) (t : List Int) (k : Nat) : ndL ev gr (f :: t) (k + 1) = if befV gr f (ndL ev gr t k) ≤ ev then min (befV gr f (ndL ev gr t (k + 1))) (befV gr f (ndL ev gr t k) - ev) else befV gr f (ndL ev gr t (k + 1)) := rfl
theorem nd_nil (ev gr : Int) (k : Nat) : ndL ev gr [] k = if k = 0 then -never else never := rfl
def FsOk (fs : List Int) : Prop := ∀ f ∈ fs, 1 ≤ f ∧ f ≤ 10000
theorem nd_in {ev gr : Int} (he : 1 ≤ ev ∧ ev ≤ 100000) (hg : 0 ≤ gr ∧ gr ≤ 100000) : ∀ {fs : List Int}, FsOk fs → ∀ k, -never ≤ ndL ev gr fs k ∧ ndL ev gr fs k ≤ never + 10000 * (fs.length : Int)
 | [], _, k => by rw [nd_nil]; unfold never; split <;> simp
 | f :: t, h, k => by
  have hf := h f (List.mem_cons_self ..)
  have ih := fun k => nd_in he hg (fs := t) (fun x hx => h x (List.mem_cons_of_mem _ hx)) k
  have hn : never = 1099511627776 := rfl
  rw [List.length_cons]
  cases k with
  | zero =>
   have i0 := ih 0
   rw [nd_zero]
   unfold befV
   omega
  | succ k =>
   have i0 := ih k
   have i1 := ih (k + 1)
   rw [nd_succ]
   unfold befV
   split <;> omega
theorem nd_iff {ev gr f L : Int} {t : List Int} {k : Nat} : ndL ev gr (f :: t) k ≤ L ↔ befV gr f (ndL ev gr t k) ≤ L ∨ ∃ j, k = j + 1 ∧ befV gr f (ndL ev gr t j) ≤ min L 0 + ev := by
 cases k with
 | zero =>
  rw [nd_zero]
  refine ⟨.inl, ?_⟩
  rintro (h | ⟨j, h, _⟩)
  ·exact h
  ·omega
 | succ k =>
  rw [nd_succ]
  obtain ⟨p, hp⟩ : ∃ p, befV gr f (ndL ev gr t k) = p := ⟨_, rfl⟩
  obtain ⟨q, hq⟩ : ∃ q, befV gr f (ndL ev gr t (k + 1)) = q := ⟨_, rfl⟩
  rw [hp, hq]
  constructor
  ·intro h
   by_cases h2 : q ≤ L
   ·exact .inl h2
   ·refine .inr ⟨k, rfl, ?_⟩
    rw [hp]
    split at h <;> omega
  ·rintro (h | ⟨j, hj, h⟩)
   ·split <;> omega
   ·obtain rfl : k = j := by omega
    rw [hp] at h
    rw [if_pos (by omega)]
    omega
/-! From the front -/
/-! The plan -/
/-- The fewest inspections; below zero: there is no plan. -/
def fewV (ev gr du : Int) (fs : List Int) : Int := idxV (fun x => decide (x ≤ du)) ((List.range (fs.length + 1)).map (ndL ev gr fs))
def insG (ev gr : Int) : List Int → Nat → Nat → Int → List Int
 | [], _, _, _ => []
 | f :: t, i, k, L => if befV gr f (ndL ev gr t k) ≤ L then insG ev gr t (i + 1) k (L - f) else (i : Int) :: insG ev gr t (i + 1) (k - 1) (min L 0 + ev - f)
/-- What Inspect returns: the plan, and the error. -/
def insE (ev gr du : Int) (fs : List Int) : Int := if caredE ev gr du fs = 0 then (if fewV ev gr du fs < 0 then 6 else 0) else caredE ev gr du fs
def insV (ev gr du : Int) (fs : List Int) : List Int := insG ev gr fs 0 (fewV ev gr du fs).toNat du
end Go.Proofs.Ytmlmgipngbndgaa
namespace Go.Proofs.Ytmlmgipngbndgaa
open Go.RowKit
attribute [local irreducible] OQ OS OX Rd T TL GX GL AL AI RV wpG SAny Calls
theorem info3 : (Try.prog.info? 3).map (fun i => i.zero) = some (some (.int .i64 0)) := by kernel_rfl
/-- A list that is filled, from the front. -/
def fillV (nx : Nat → Int) (m k : Nat) : List Value := ((List.range k).map nx).map iv ++ List.replicate (m - k) (Value.int .i64 0)
theorem fill_open {nx : Nat → Int} {m k : Nat} (h : k < m) : fillV nx m k = ((List.range k).map nx).map iv ++ Value.int .i64 0 :: List.replicate (m - (k + 1)) (Value.int .i64 0) := by
 unfold fillV
 rw [show m - k = (m - (k + 1)) + 1 by omega, List.replicate_succ]
theorem fill_close {nx : Nat → Int} {m k : Nat} {v : Int} (h : nx k = v) : ((List.range k).map nx).map iv ++ Value.int .i64 v :: List.replicate (m - (k + 1)) (Value.int .i64 0) = fillV nx m (k + 1) := by
 unfold fillV
 rw [List.range_succ]
 simp [h, iv]
theorem fill_done {nx : Nat → Int} {m : Nat} : fillV nx m m = ((List.range m).map nx).map iv := by unfold fillV; simp
theorem mul64_calls (x y : Int) (h0 : 0 ≤ x) (h1 : x < 4294967296) (h2 : 0 ≤ y) (h3 : y < 4294967296) (w : World) : Calls Try.prog 122 #[.int .u64 x, .int .u64 y] w fun e w' => e = .returned (.tuple #[.int .u64 0, .int .u64 (x * y)]) ∧ Ext w w' := by
 have hp : 0 ≤ x * y ∧ x * y ≤ 4294967295 * 4294967295 := ⟨Int.mul_nonneg h0 h2, Int.mul_le_mul (by omega) (by omega) h2 (by omega)⟩
 have hxy : InU (x * y) := ⟨by omega, by omega⟩
 refine enterQ (c := cx w 51) Try.func122 rfl rfl rfl rfl ?_
 repeat' (first | (apply oq_fn; exact rfl; try first | exact trivial | (and_intros <;> omega)) | (focus ((with_reducible apply oq_shrLow); exact rfl; exact rfl; (refine ⟨?_, ?_⟩ <;> omega))) | (focus ((with_reducible apply oq_andLow); exact rfl; exact rfl; (refine ⟨?_, ?_⟩ <;> omega))) | (focus ((with_reducible apply oq_shr32); exact rfl; exact rfl; omega)) | (focus ((with_reducible apply oq_addU); exact rfl; exact rfl; (first | exact hxy | (refine ⟨?_, ?_⟩ <;> omega)))) | (focus ((with_reducible apply oq_mulU); exact rfl; exact rfl; (first | exact hxy | (refine ⟨?_, ?_⟩ <;> omega)))) | (with_reducible apply tl_nil) | ((with_reducible apply u_q); (iterate 4 exact rfl)) | (with_reducible apply t_seq) | (apply t_region; kernel_rfl) | (with_reducible apply t_ret) | with_reducible apply q_thenN | (with_reducible apply end_ret) | exact rvs_nil | (with_reducible apply rvs_cons) | ((with_reducible apply rv_tmp); exact rfl))
 all_goals rfl
theorem mul_calls (y : Int) (h2 : 0 ≤ y) (h3 : y < 4294967296) (w : World) : Calls Try.prog 103 #[.int .u64 1, .int .u64 y] w fun e w' => e = .returned (.tuple #[.int .u64 0, .int .u64 y]) ∧ Ext w w' := by
 have HM := fun w1 => mul64_calls 1 y (by omega) (by omega) h2 h3 w1
 rw [Int.one_mul] at HM
 refine enterQ (c := cx w 30) Try.func103 rfl rfl rfl rfl ?_
 repeat' (first | (apply oq_fn; exact rfl; try first | exact trivial | (and_intros <;> omega)) | ((with_reducible apply oq_call (k := 122) (hc := Try.call122)); exact rfl; exact rfl; exact fun D w1 hw1 => HM w1) | (with_reducible apply tl_nil) | ((with_reducible apply u_q); (iterate 4 exact rfl)) | (with_reducible apply t_seq) | (apply t_region; kernel_rfl) | ((with_reducible apply t_condF); exact rfl) | (with_reducible apply t_ret) | (with_reducible apply t_skip) | with_reducible apply q_thenN | (with_reducible apply end_ret) | exact rvs_nil | (with_reducible apply rvs_cons) | ((with_reducible apply rv_tmp); exact rfl))
 all_goals rfl
def RepV (x : Int) (n : Nat) (V : Value) (H : Hp) : Prop := ∃ g, V = .slice (some ⟨g, 0, none⟩) n n ∧ H = [(g, (List.replicate n x).map iv, some (3, 1, n))]
theorem repeat_T (x : Int) (A : Option Addr) (n c : Nat) (w : World) (hr : RdS w 1 A 1 ([x].map inCells)) (hn0 : 1 ≤ n) (hn : n ≤ 1000) :
  Calls Try.prog 74 #[.slice A 1 c, .int .i64 (n : Int)] w fun e w' => ∃ V H', e = .returned V ∧ RepV x n V H' ∧ Has w ⟨[], []⟩ H' w' := by
 have HM := fun w1 => mul_calls (n : Int) (by omega) (by omega) w1
 obtain ⟨b1, o1, x', rfl, _, hx, c0⟩ := in_read hr (show 0 < 1 by omega)
 obtain rfl : x = x' := by simpa using hx
 refine enterF (c := cx w 48) Try.func74 rfl rfl rfl rfl ?_
 repeat' (first | (apply oq_fn; exact rfl; try first | exact trivial | (and_intros <;> omega)) | (focus ((with_reducible apply oq_convU); (iterate 3 exact rfl); (refine ⟨?_, ?_⟩ <;> omega))) | ((with_reducible apply oq_call (k := 103) (hc := Try.call103)); exact rfl; exact rfl; exact fun D w1 hw1 => HM w1) | (with_reducible apply tl_nil) | ((with_reducible apply u_s); (iterate 3 exact rfl); ((with_reducible apply os_copy1); omega; (iterate 4 exact rfl); (repeat (first | exact P0 | apply P1)))) | ((with_reducible apply u_q); (iterate 4 exact rfl)) | ((with_reducible apply u_s); (iterate 3 exact rfl)) | (apply Rd.old; (first | (with_reducible assumption) | exact c0 | exact c1 | exact c2 | exact c3 | exact c4 | exact c5 | exact c6 | exact c7 | exact c8 | exact d0 | exact d1 | exact d2 | exact d3 | exact d4 | exact d5); first | exact List.not_mem_nil | exact m0 | exact m1 | exact m2 | exact m3 | exact m4 | exact m5 | exact m6 | exact m7 | exact m8 | exact m9) | (with_reducible apply t_seq) | (apply t_region; kernel_rfl) | ((with_reducible apply t_condF); exact rfl) | ((with_reducible apply t_condD); exact rfl; all_goals first | (intro hp; try (exfalso; omega)) | skip) | (with_reducible apply t_skip) | (with_reducible apply t_block) | with_reducible apply q_thenN | ((with_reducible apply os_makeI (hk := app_ok41) (hz := info3)); exact rfl; exact rfl; omega; (unfold maxLen; omega); intro _))
 rename_i gN
 apply t_loopK (ι := Nat) [4, 7, 47] (fun k => [(8, .int .i64 (k : Nat))]) (fun k => [(gN, fillX x n k, some (3, 1, n))]) (fun k => 1 ≤ k ∧ k ≤ n) (fun k => n - k) (1)
 (repeat (first | exact KeepF.nil | (apply KeepF.cons; exact rfl) | apply KeepF.skip))
 (repeat (first | exact FrSub.nil | (apply FrSub.cons; exact rfl)))
 (repeat (first | exact HpSub.refl _ | (apply HpSub.consE; (repeat (first | exact P0 | apply P1)); exact rfl) | exact HpSub.nil))
 ·exact ⟨by omega, hn0⟩
 rintro k ⟨hk0, hk⟩
 try simp only [List.cons_append, List.nil_append]
 by_cases hlt : k < n
 ·have hm : k + min k (n - k) ≤ n := by omega
  repeat' (first | (focus ((with_reducible apply oq_sliceH (h := k)); (iterate 5 exact rfl); omega)) | (focus ((with_reducible apply oq_sliceL (l := k)); (iterate 5 exact rfl); omega; omega)) | ((with_reducible apply oq_addE (k := ((k + min k (n - k) : Nat) : Int))); exact rfl; exact rfl; omega) | (apply oq_fn; exact rfl; try first | exact trivial | (and_intros <;> omega)) | (with_reducible apply tl_nil) | ((with_reducible apply u_q); (iterate 4 exact rfl)) | (with_reducible apply v_nil) | ((with_reducible apply v_q); (iterate 3 exact rfl)) | ((with_reducible apply ai_s); (iterate 5 exact rfl); ((with_reducible apply os_copyX (n := n) (k := k)); omega; (iterate 4 exact rfl); (repeat (first | exact P0 | apply P1)))) | ((with_reducible apply ai_q); (iterate 5 exact rfl)) | (apply t_mix (id := 9) [1, 2, 3, 4, 5, 6] 4 #[false, false, false, false, false, false, false, true, false, false]; kernel_rfl; kernel_rfl; exact rfl) | (with_reducible apply t_seq) | (apply t_region; kernel_rfl) | ((with_reducible apply t_condD); exact rfl; all_goals first | (intro hp; try (exfalso; omega)) | skip) | (with_reducible apply t_skip) | (with_reducible apply t_block) | with_reducible apply q_thenN | with_reducible apply q_blockN | (apply al_done; decide +kernel) | (apply al_one 0; decide +kernel) | (apply al_one 7; decide +kernel) | (apply al_one 8; decide +kernel) | (apply al_one 9; decide +kernel) | (apply al_two 0 7; decide +kernel))
  all_goals (refine ⟨k + min k (n - k), ⟨by omega, hm⟩, by omega, ?_, ?_⟩)
  all_goals ((try simp only [List.cons_append, List.nil_append]); (repeat' (first | exact FrSub.nil | (apply FrSub.cons; exact rfl) | exact HpSub.refl _)))
 ·obtain rfl : k = n := by omega
  repeat' (first | (apply oq_fn; exact rfl; try first | exact trivial | (and_intros <;> omega)) | (with_reducible apply tl_nil) | ((with_reducible apply u_q); (iterate 4 exact rfl)) | (with_reducible apply t_seq) | (apply t_region; kernel_rfl) | ((with_reducible apply t_condD); exact rfl; all_goals first | (intro hp; try (exfalso; omega)) | skip) | (with_reducible apply t_ret) | (with_reducible apply t_exit) | with_reducible apply q_thenN | with_reducible apply q_thenE | ((with_reducible apply q_blockE); exact rfl) | (with_reducible apply end_ret) | exact rvs_nil | (with_reducible apply rvs_cons) | ((with_reducible apply rv_tmp); exact rfl))
  all_goals exact ⟨_, ⟨gN, rfl, by rw [← fillX_done]⟩, by (repeat (first | exact HpSub.refl _ | (apply HpSub.consE; (repeat (first | exact P0 | apply P1)); exact rfl) | exact HpSub.nil))⟩
end Go.Proofs.Ytmlmgipngbndgaa
namespace Go.Proofs.Ytmlmgipngbndgaa
theorem FsOk.drop {fs : List Int} (h : FsOk fs) (i : Nat) : FsOk (fs.drop i) := fun x hx => h x (List.mem_of_mem_drop hx)
theorem insG_skip {ev gr x : Int} {t : List Int} {i k : Nat} {L : Int} (h : befV gr x (ndL ev gr t k) ≤ L) : insG ev gr (x :: t) i k L = insG ev gr t (i + 1) k (L - x) := by
 rw [insG, if_pos h]
theorem insG_ins {ev gr x : Int} {t : List Int} {i k : Nat} {L : Int} (h : ¬ befV gr x (ndL ev gr t k) ≤ L) : insG ev gr (x :: t) i k L = (i : Int) :: insG ev gr t (i + 1) (k - 1) (min L 0 + ev - x) := by
 rw [insG, if_neg h]
/-- What is needed behind a flight, where there is an inspection before it or not. -/
theorem nd_skip {ev gr x : Int} {t : List Int} {k : Nat} {L : Int} (h : befV gr x (ndL ev gr t k) ≤ L) : ndL ev gr t k ≤ L - x := by unfold befV at h; omega
theorem nd_ins {ev gr x : Int} {t : List Int} {k : Nat} {L : Int} (h0 : ndL ev gr (x :: t) k ≤ L) (h : ¬ befV gr x (ndL ev gr t k) ≤ L) : 1 ≤ k ∧ ndL ev gr t (k - 1) ≤ min L 0 + ev - x ∧ x - gr ≤ min L 0 + ev := by
 rcases nd_iff.1 h0 with h1 | ⟨j, rfl, h1⟩
 ·exact absurd h1 h
 ·unfold befV at h1
  rw [Nat.add_sub_cancel]
  exact ⟨by omega, by omega, by omega⟩
end Go.Proofs.Ytmlmgipngbndgaa
namespace Go.Proofs.Ytmlmgipngbndgaa
open Go.RowKit
attribute [local irreducible] OQ OS OX Rd T TL GX GL AL AI RV wpG SAny Calls
section
variable {c : Cx} {F : Fr} {H : Hp} {d : Option Tmp} {ty t : TypeId} {pos : String} {af : Array Edge} {g : Option (Nat × Bool)} {x y : Operand}
end
/-- A list that is nil, or a block of the call's own. -/
def planS (pre : List Int) : Option (Nat × Nat) → Value
 | none => .slice none 0 0
 | some (g, cap) => .slice (some ⟨g, 0, none⟩) pre.length cap
def planH (pre : List Int) : Option (Nat × Nat) → Hp
 | none => []
 | some (g, cap) => [(g, pre.map iv, some (3, 1, cap))]
theorem planS_none (pre : List Int) : planS pre none = .slice none 0 0 := rfl
theorem planS_some (pre : List Int) (g cap : Nat) : planS pre (some (g, cap)) = .slice (some ⟨g, 0, none⟩) pre.length cap := rfl
theorem planH_none (pre : List Int) : planH pre none = [] := rfl
theorem planH_some (pre : List Int) (g cap : Nat) : planH pre (some (g, cap)) = [(g, pre.map iv, some (3, 1, cap))] := rfl
/-- What Inspect returns. -/
def InsO (E : Int) (pl : List Int) (V : Value) (H : Hp) : Prop :=
 (E ≠ 0 ∧ V = .tuple #[.slice none 0 0, .int .i64 E] ∧ H = []) ∨ (E = 0 ∧ ∃ o, (o = none → pl = []) ∧ V = .tuple #[planS pl o, .int .i64 0] ∧ H = planH pl o)
/-- What 'before' tells. -/
theorem bef_calls (b3 b2 b8 bN gR i k n : Nat) (A : Option Addr) (c cN cR : Nat) (fs : List Int) (gr x r : Int) (w : World) (hr : RdS w 1 A n (fs.map inCells)) (hx : fs[i]? = some x) (k0 : w.cell? ⟨b3, 0, none⟩ = some (.slice A n c)) (k1 : w.cell? ⟨b2, 0 + 1, none⟩ = some (.int .i64 gr)) (k2 : w.cell? ⟨b8, 0, none⟩ = some (.slice (some ⟨bN, 0, none⟩) (n + 1) cN))
  (k3 : w.cell? ⟨bN, 0 + (i + 1) * 1, none⟩ = some (.slice (some ⟨gR, 0, none⟩) (n + 1) cR)) (k4 : w.cell? ⟨gR, 0 + k * 1, none⟩ = some (.int .i64 r)) (hk : k ≤ n) (hn : n ≤ 1000) (hxx : 1 ≤ x ∧ x ≤ 10000) (hg : 0 ≤ gr ∧ gr ≤ 100000) (hrr : -1099511627776 ≤ r ∧ r ≤ 2199023255552) :
  Calls Try.prog 75 #[.int .i64 (i : Int), .int .i64 (k : Int), .pointer (some ⟨b3, 0, none⟩), .pointer (some ⟨b2, 0, none⟩), .pointer (some ⟨b8, 0, none⟩)] w fun e w' => e = .returned (.int .i64 (befV gr x r)) ∧ Ext w w' := by
 have hl := hr.len
 simp only [List.length_map] at hl
 have hi := (List.getElem?_eq_some_iff.1 hx).1
 obtain ⟨b1, o1, x', rfl, _, hx', c0⟩ := in_read hr (show i < n by omega)
 obtain rfl : x = x' := by rw [hx] at hx'; exact Option.some.inj hx'
 refine enterQ (c := cx w 29) Try.func75 rfl rfl rfl rfl ?_
 repeat' (first | (focus ((with_reducible apply oq_indexAddrN); (iterate 4 exact rfl); omega)) | ((with_reducible apply oq_addE (k := ((i + 1 : Nat) : Int))); exact rfl; exact rfl; omega) | (apply oq_fn; exact rfl; try first | exact trivial | (and_intros <;> omega)) | ((with_reducible apply oq_load); exact rfl; exact rfl) | (with_reducible apply tl_nil) | ((with_reducible apply u_q); (iterate 4 exact rfl)) | (with_reducible apply v_nil) | ((with_reducible apply v_q); (iterate 3 exact rfl)) | (apply Rd.old; (first | exact k0 | exact k1 | exact k2 | exact k3 | exact k4); exact List.not_mem_nil) | (apply Rd.old; (first | (with_reducible assumption) | exact c0 | exact c1 | exact c2 | exact c3 | exact c4 | exact c5 | exact c6 | exact c7 | exact c8 | exact d0 | exact d1 | exact d2 | exact d3 | exact d4 | exact d5); first | exact List.not_mem_nil | exact m0 | exact m1 | exact m2 | exact m3 | exact m4 | exact m5 | exact m6 | exact m7 | exact m8 | exact m9) | (with_reducible apply t_seq) | (apply t_region; kernel_rfl) | (apply t_drawn; kernel_rfl; decide +kernel; try simp only [List.append_eq, List.cons_append, List.nil_append]) | (with_reducible apply t_ret) | with_reducible apply q_thenN | (with_reducible apply end_ret) | exact rvs_nil | (with_reducible apply rvs_cons) | ((with_reducible apply rv_tmp); exact rfl))
 all_goals rfl
theorem most_calls (b2 : Nat) (du z : Int) (w : World) (c0 : w.cell? ⟨b2, 0 + 2, none⟩ = some (.int .i64 du)) : Calls Try.prog 77 #[.int .i64 z, .pointer (some ⟨b2, 0, none⟩)] w fun e w' => e = .returned (.bool (decide (z ≤ du))) ∧ Ext w w' := by
 refine enterQ (c := cx w 8) Try.func77 rfl rfl rfl rfl ?_
 repeat' (first | (apply oq_fn; exact rfl; try first | exact trivial | (and_intros <;> omega)) | ((with_reducible apply oq_load); exact rfl; exact rfl) | (with_reducible apply tl_nil) | ((with_reducible apply u_q); (iterate 4 exact rfl)) | (apply Rd.old; (first | (with_reducible assumption) | exact c0 | exact c1 | exact c2 | exact c3 | exact c4 | exact c5 | exact c6 | exact c7 | exact c8 | exact d0 | exact d1 | exact d2 | exact d3 | exact d4 | exact d5); first | exact List.not_mem_nil | exact m0 | exact m1 | exact m2 | exact m3 | exact m4 | exact m5 | exact m6 | exact m7 | exact m8 | exact m9) | (with_reducible apply t_seq) | (apply t_region; kernel_rfl) | (with_reducible apply t_ret) | with_reducible apply q_thenN | (with_reducible apply end_ret) | exact rvs_nil | (with_reducible apply rvs_cons) | ((with_reducible apply rv_tmp); exact rfl))
 all_goals rfl
theorem HpSub.skip {x : Nat × List Value × Tg} {H G : Hp} (h : HpSub H G) : HpSub (x :: H) G := by
 induction h with
 | nil => exact .nil
 | cons p _ ih => exact .cons (.tail p) ih
/-- The rows that are there, by the number of flights behind them: the table's tail, and the blocks. -/
def tailV (n : Nat) (gs : Nat → Nat) : Nat → List Value
 | 0 => []
 | m + 1 => .slice (some ⟨gs m, 0, none⟩) (n + 1) (n + 1) :: tailV n gs m
def rowV (ev gr : Int) (fs : List Int) (m : Nat) : List Value := ((List.range (fs.length + 1)).map (ndL ev gr (fs.drop (fs.length - m)))).map iv
def rowsH (n : Nat) (ev gr : Int) (fs : List Int) (gs : Nat → Nat) : Nat → Hp
 | 0 => []
 | m + 1 => (gs m, rowV ev gr fs m, some (3, 1, n + 1)) :: rowsH n ev gr fs gs m
theorem tailV_congr {n : Nat} {gs gs' : Nat → Nat} : ∀ {m : Nat}, (∀ j, j < m → gs j = gs' j) → tailV n gs m = tailV n gs' m
 | 0, _ => rfl
 | m + 1, h => by
  unfold tailV
  rw [h m (by omega), tailV_congr fun j hj => h j (by omega)]
theorem rowsH_congr {n : Nat} {ev gr : Int} {fs : List Int} {gs gs' : Nat → Nat} : ∀ {m : Nat}, (∀ j, j < m → gs j = gs' j) → rowsH n ev gr fs gs m = rowsH n ev gr fs gs' m
 | 0, _ => rfl
 | m + 1, h => by
  unfold rowsH
  rw [h m (by omega), rowsH_congr fun j hj => h j (by omega)]
theorem tailV_at {n : Nat} {gs : Nat → Nat} : ∀ {m j : Nat}, j < m → (tailV n gs m)[m - 1 - j]? = some (.slice (some ⟨gs j, 0, none⟩) (n + 1) (n + 1))
 | 0, _, h => by omega
 | m + 1, j, h => by
  unfold tailV
  rcases (by omega : j = m ∨ j < m) with rfl | hlt
  ·rw [show j + 1 - 1 - j = 0 by omega]; rfl
  ·rw [show m + 1 - 1 - j = (m - 1 - j) + 1 by omega, List.getElem?_cons_succ]
   exact tailV_at hlt
theorem rowsH_mem {n : Nat} {ev gr : Int} {fs : List Int} {gs : Nat → Nat} : ∀ {m j : Nat}, j < m → (gs j, rowV ev gr fs j, some (3, 1, n + 1)) ∈ rowsH n ev gr fs gs m
 | 0, _, h => by omega
 | m + 1, j, h => by
  unfold rowsH
  rcases (by omega : j = m ∨ j < m) with rfl | hlt
  ·exact List.mem_cons_self ..
  ·exact List.mem_cons_of_mem _ (rowsH_mem hlt)
theorem rowV_at {ev gr : Int} {fs : List Int} {m k : Nat} (hk : k ≤ fs.length) : (rowV ev gr fs m)[0 + k * 1]? = some (.int .i64 (ndL ev gr (fs.drop (fs.length - m)) k)) := by
 unfold rowV
 rw [Nat.zero_add, Nat.mul_one, List.getElem?_map, List.getElem?_map, List.getElem?_range (by omega)]
 rfl
section
variable {c : Cx} {F : Fr} {H H' : Hp} {K : Value → Hp → Prop} {d : Option Tmp} {ty : TypeId} {pos : String} {af : Array Edge} {gd : Option (Nat × Bool)} {t : TypeId} {x y : Operand} {a0 : Bool} {z0 : List Value} {k0 : TyK} {g k : Nat} {tg : Tg} {A B : List Value} {z u : Value}
theorem rdG (h : A.length = k) (p : Pick H g (A ++ z :: B) tg H') : Rd c H ⟨g, 0 + k * 1, none⟩ z := Rd.own p (by rw [Nat.zero_add, Nat.mul_one, ← h]; simp)
theorem os_storeG (h : A.length = k) (ht : tyAt c.tys t = some ⟨a0, 1, z0, k0⟩) (hx : ev F x = some (.pointer (some ⟨g, 0 + k * 1, none⟩))) (hy : ev F y = some u) (hu : u.oneCell' = true) (hp : Pick H g (A ++ z :: B) tg H')
  (kk : K undef ((g, A ++ u :: B, tg) :: H')) : OS c ⟨d, .store t x y, ty, pos, af, gd⟩ F H K :=
 store_gen (vs := [u]) ht hx hy (by cases u <;> first | rfl | (simp [Value.oneCell'] at hu)) rfl (by simpa using hu) hp (by simp; omega) (by
  have e : setL (A ++ z :: B) (0 + k * 1) [u] = A ++ u :: B := by
   simp only [setL]
   rw [Nat.zero_add, Nat.mul_one, ← h, List.set_append_right _ _ (by simp)]
   simp
  rw [e]; exact kk)
end
end Go.Proofs.Ytmlmgipngbndgaa
