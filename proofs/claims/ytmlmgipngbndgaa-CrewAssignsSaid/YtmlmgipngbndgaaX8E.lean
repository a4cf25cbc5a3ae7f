/- A part of the proof: rules for walks, and contracts of functions (5). -/
import Derived.Test.YtmlmgipngbndgaaX8D
import Derived.Test.YtmlmgipngbndgaaX8B
set_option linter.unusedVariables false
set_option linter.unusedSimpArgs false
set_option maxRecDepth 100000
set_option maxHeartbeats 2000000
namespace Go.Proofs.Ytmlmgipngbndgaa
open Go.RowKit
attribute [local irreducible] OQ OS OX Rd T TL GX GL AL AI RV wpG SAny Calls
theorem info41L : (Try.prog.info? 41).map (fun i => i.zero) = some (some (.slice none 0 0)) := by kernel_rfl
theorem os_makeL {w : World} {N n : Nat} {F : Fr} {H : Hp} {M : List Nat} {K : Value → Hp → Prop} {d : Option Tmp} {ty : TypeId} {pos : String} {af : Array Edge} {gd : Option (Nat × Bool)} {x y : Operand}
    (hx : ev F x = some (.int .i64 (n : Nat))) (hy : ev F y = some (.int .i64 (n : Nat))) (hn : n ≤ 1000) (k : ∀ b, K (.slice (some ⟨b, 0, none⟩) n n) ((b, List.replicate n (Value.slice none 0 0), some (41, 1, n)) :: H)) : OS (cxM M w N) ⟨d, .makeSlice 90 x y, ty, pos, af, gd⟩ F H K := by
  refine .ofX (ox_make (zs := [.slice none 0 0]) app_ok90 info41L rfl rfl hx hy (by omega) (by unfold maxLen; omega) fun b => ?_)
  have e : (List.replicate n [Value.slice none 0 0]).flatten = List.replicate n (Value.slice none 0 0) := by simp
  rw [e]
  exact k b
theorem odd_calls (x : Tr) (w : World) : Calls Try.prog 86 #[.agg #[.int .i64 x.fr, .int .i64 x.to, .int .i64 x.crew]] w fun e w' => e = .returned (.bool (!decide (trOk x))) ∧ Ext w w' := by
  obtain ⟨q, hq⟩ : ∃ q, allFrom 0 2 [x.crew] = q := ⟨_, rfl⟩
  have hqe : q = true ↔ 0 ≤ x.crew ∧ x.crew ≤ 2 := by rw [← hq]; exact allFrom_one
  by_cases h1 : x.fr < 0
  · rw [decide_eq_false (fun h => by unfold trOk at h; omega)]
    refine enterQ (c := cx w 25) Try.func86 rfl rfl rfl rfl ?_
    repeat' (first | ((with_reducible apply oq_id); first | ((with_reducible apply oq_lssT); exact rfl; exact rfl; omega) | (apply oq_fn; exact rfl; try first | exact trivial | (and_intros <;> omega)) | ((with_reducible apply oq_load); exact rfl; exact rfl)) | ((with_reducible apply tl_id); first | (with_reducible apply tl_nil) | ((with_reducible apply u_q); (iterate 4 exact rfl)) | ((with_reducible apply u_s); (iterate 3 exact rfl)) | ((with_reducible apply u_skip); (iterate 3 exact rfl))) | ((with_reducible apply os_x); exact rfl) | ((with_reducible apply ox_boxAgg); exact rfl; intro _) | ((with_reducible apply rd_id); first | (apply Rd.own; (repeat (first | exact P0 | apply P1)); exact rfl; done)) | ((with_reducible apply t_id); first | (with_reducible apply t_seq) | (apply t_region; kernel_rfl) | (with_reducible apply t_ret)) | with_reducible apply q_thenN | (with_reducible apply end_ret) | exact rvs_nil | (with_reducible apply rvs_cons) | ((with_reducible apply rv_tmp); exact rfl))
    all_goals rfl
  by_cases h2 : x.to ≤ x.fr
  · rw [decide_eq_false (fun h => by unfold trOk at h; omega)]
    refine enterQ (c := cx w 25) Try.func86 rfl rfl rfl rfl ?_
    repeat' (first | ((with_reducible apply oq_id); first | ((with_reducible apply oq_lssF); exact rfl; exact rfl; omega) | ((with_reducible apply oq_geqT); exact rfl; exact rfl; omega) | (apply oq_fn; exact rfl; try first | exact trivial | (and_intros <;> omega)) | ((with_reducible apply oq_load); exact rfl; exact rfl)) | ((with_reducible apply tl_id); first | (with_reducible apply tl_nil) | ((with_reducible apply u_q); (iterate 4 exact rfl)) | ((with_reducible apply u_s); (iterate 3 exact rfl)) | ((with_reducible apply u_skip); (iterate 3 exact rfl))) | ((with_reducible apply os_x); exact rfl) | ((with_reducible apply ox_boxAgg); exact rfl; intro _) | ((with_reducible apply rd_id); first | (apply Rd.own; (repeat (first | exact P0 | apply P1)); exact rfl; done)) | ((with_reducible apply t_id); first | (with_reducible apply t_seq) | (apply t_region; kernel_rfl) | (with_reducible apply t_ret)) | with_reducible apply q_thenN | (with_reducible apply end_ret) | exact rvs_nil | (with_reducible apply rvs_cons) | ((with_reducible apply rv_tmp); exact rfl))
    all_goals rfl
  by_cases h3 : 1000000 < x.to
  · rw [decide_eq_false (fun h => by unfold trOk at h; omega)]
    refine enterQ (c := cx w 25) Try.func86 rfl rfl rfl rfl ?_
    repeat' (first | ((with_reducible apply oq_id); first | ((with_reducible apply oq_lssF); exact rfl; exact rfl; omega) | ((with_reducible apply oq_geqF); exact rfl; exact rfl; omega) | ((with_reducible apply oq_gtrT); exact rfl; exact rfl; omega) | (apply oq_fn; exact rfl; try first | exact trivial | (and_intros <;> omega)) | ((with_reducible apply oq_load); exact rfl; exact rfl)) | ((with_reducible apply tl_id); first | (with_reducible apply tl_nil) | ((with_reducible apply u_q); (iterate 4 exact rfl)) | ((with_reducible apply u_s); (iterate 3 exact rfl)) | ((with_reducible apply u_skip); (iterate 3 exact rfl))) | ((with_reducible apply os_x); exact rfl) | ((with_reducible apply ox_boxAgg); exact rfl; intro _) | ((with_reducible apply rd_id); first | (apply Rd.own; (repeat (first | exact P0 | apply P1)); exact rfl; done)) | ((with_reducible apply t_id); first | (with_reducible apply t_seq) | (apply t_region; kernel_rfl) | (with_reducible apply t_ret)) | with_reducible apply q_thenN | (with_reducible apply end_ret) | exact rvs_nil | (with_reducible apply rvs_cons) | ((with_reducible apply rv_tmp); exact rfl))
    all_goals rfl
  cases q with
  | false =>
    rw [decide_eq_false (fun h => by unfold trOk at h; have := hqe.2 ⟨h.2.2.2.1, h.2.2.2.2⟩; cases this)]
    refine enterQ (c := cx w 25) Try.func86 rfl rfl rfl rfl ?_
    repeat' (first | ((with_reducible apply oq_id); first | ((with_reducible apply oq_lssF); exact rfl; exact rfl; omega) | ((with_reducible apply oq_geqF); exact rfl; exact rfl; omega) | ((with_reducible apply oq_gtrF); exact rfl; exact rfl; omega) | (apply oq_fn; exact rfl; try first | exact trivial | (and_intros <;> omega)) | ((with_reducible apply oq_load); exact rfl; exact rfl) | ((with_reducible apply oq_call (k := 63) (hc := Try.call63)); exact rfl; exact rfl; exact fun D w1 hw1 => fromOne hq hw1 (by (repeat (first | exact P0 | apply P1))))) | ((with_reducible apply tl_id); first | (with_reducible apply tl_nil) | ((with_reducible apply u_q); (iterate 4 exact rfl)) | ((with_reducible apply u_s); (iterate 3 exact rfl))) | ((with_reducible apply os_x); exact rfl) | ((with_reducible apply ox_id); first | ((with_reducible apply ox_boxAgg); exact rfl; intro _) | ((with_reducible apply ox_buildSlice1); (iterate 6 exact rfl); intro _)) | ((with_reducible apply rd_id); first | (apply Rd.own; (repeat (first | exact P0 | apply P1)); exact rfl; done)) | ((with_reducible apply t_id); first | (with_reducible apply t_seq) | (apply t_region; kernel_rfl) | (with_reducible apply t_ret)) | with_reducible apply q_thenN | (with_reducible apply end_ret) | exact rvs_nil | (with_reducible apply rvs_cons) | ((with_reducible apply rv_tmp); exact rfl))
    all_goals rfl
  | true =>
    rw [decide_eq_true (by have := hqe.1 rfl; unfold trOk; omega)]
    refine enterQ (c := cx w 25) Try.func86 rfl rfl rfl rfl ?_
    repeat' (first | ((with_reducible apply oq_id); first | ((with_reducible apply oq_lssF); exact rfl; exact rfl; omega) | ((with_reducible apply oq_geqF); exact rfl; exact rfl; omega) | ((with_reducible apply oq_gtrF); exact rfl; exact rfl; omega) | (apply oq_fn; exact rfl; try first | exact trivial | (and_intros <;> omega)) | ((with_reducible apply oq_load); exact rfl; exact rfl) | ((with_reducible apply oq_call (k := 63) (hc := Try.call63)); exact rfl; exact rfl; exact fun D w1 hw1 => fromOne hq hw1 (by (repeat (first | exact P0 | apply P1))))) | ((with_reducible apply tl_id); first | (with_reducible apply tl_nil) | ((with_reducible apply u_q); (iterate 4 exact rfl)) | ((with_reducible apply u_s); (iterate 3 exact rfl))) | ((with_reducible apply os_x); exact rfl) | ((with_reducible apply ox_id); first | ((with_reducible apply ox_boxAgg); exact rfl; intro _) | ((with_reducible apply ox_buildSlice1); (iterate 6 exact rfl); intro _)) | ((with_reducible apply rd_id); first | (apply Rd.own; (repeat (first | exact P0 | apply P1)); exact rfl; done)) | ((with_reducible apply t_id); first | (with_reducible apply t_seq) | (apply t_region; kernel_rfl) | (with_reducible apply t_ret)) | with_reducible apply q_thenN | (with_reducible apply end_ret) | exact rvs_nil | (with_reducible apply rvs_cons) | ((with_reducible apply rv_tmp); exact rfl))
    all_goals rfl
/-- Where the first odd trip is. -/
def oddI (l : List Tr) : Int := match l.findIdx? (fun x => !decide (trOk x)) with | some i => (i : Int) | none => -1
theorem oddI_at {l : List Tr} {i : Nat} {x : Tr} (hx : l[i]? = some x) (h : ¬ trOk x) (hb : ∀ j y, j < i → l[j]? = some y → trOk y) : oddI l = (i : Int) := by
  have : l.findIdx? (fun x => !decide (trOk x)) = some i := by
    rw [List.findIdx?_eq_some_iff_getElem]
    obtain ⟨h1, rfl⟩ := List.getElem?_eq_some_iff.1 hx
    exact ⟨h1, by simpa using h, fun j hj => by have := hb j _ hj (List.getElem?_eq_getElem (by omega)); simpa using this⟩
  unfold oddI; rw [this]
theorem oddI_no {l : List Tr} (h : ∀ x ∈ l, trOk x) : oddI l = -1 := by
  have : l.findIdx? (fun x => !decide (trOk x)) = none := by
    rw [List.findIdx?_eq_none_iff]
    intro x hx
    have := h x hx
    simpa using this
  unfold oddI; rw [this]
theorem oddI_neg {l : List Tr} : oddI l < 0 ↔ ∀ x ∈ l, trOk x := by
  constructor
  · intro h x hx
    unfold oddI at h
    cases hq : l.findIdx? (fun x => !decide (trOk x)) with
    | none =>
      have := List.findIdx?_eq_none_iff.1 hq x hx
      simpa using this
    | some i => rw [hq] at h; simp only at h; omega
  · intro h; rw [oddI_no h]; decide
theorem idxTr_calls (A : Option Addr) (n c : Nat) (l : List Tr) (w : World) (hr : RdS w 3 A n (l.map trCells)) (hn : n ≤ 1000000) : Calls Try.prog 114 #[.slice A n c, .func (.func 86) #[] #[]] w fun e w' => e = .returned (.int .i64 (oddI l)) ∧ Ext w w' := by
  have hl := hr.len
  simp only [List.length_map] at hl
  refine enterQ (c := cx w 19) Try.func114 rfl rfl rfl rfl ?_
  repeat' (first | ((with_reducible apply oq_id); first | (apply oq_fn; exact rfl; try first | exact trivial | (and_intros <;> omega))) | ((with_reducible apply tl_id); first | (with_reducible apply tl_nil) | ((with_reducible apply u_q); (iterate 4 exact rfl))) | ((with_reducible apply t_id); first | (with_reducible apply t_seq) | (apply t_region; kernel_rfl) | (with_reducible apply t_block)) | with_reducible apply q_thenN)
  apply t_loopK (ι := Nat) [0, 1, 6, 7] (fun i => [(8, .int .i64 (i : Nat))]) (fun _ => []) (fun i => i ≤ n ∧ ∀ j y, j < i → l[j]? = some y → trOk y) (fun i => n - i) (0)
  (repeat (first | exact KeepF.nil | (apply KeepF.cons; exact rfl) | apply KeepF.skip))
  (repeat (first | exact FrSub.nil | (apply FrSub.cons; exact rfl)))
  (repeat (first | exact HpSub.refl _ | (apply HpSub.consE; (repeat (first | exact P0 | apply P1)); exact rfl) | exact HpSub.nil))
  · exact ⟨Nat.zero_le _, fun j y hj => by omega⟩
  rintro i ⟨hi, hok⟩
  try simp only [List.cons_append, List.nil_append]
  by_cases hlt : i < n
  · obtain ⟨b, o, x, rfl, _, hx, c0, c1, c2⟩ := tr_read hr hlt
    have HO := fun w1 => odd_calls x w1
    by_cases ho : trOk x
    · rw [decide_eq_true ho] at HO
      repeat' (first | ((with_reducible apply oq_id); first | (focus ((with_reducible apply oq_indexAddrN); (iterate 4 exact rfl); omega)) | ((with_reducible apply oq_lssT); exact rfl; exact rfl; omega) | (apply oq_fn; exact rfl; try first | exact trivial | (and_intros <;> omega)) | ((with_reducible apply oq_loadAgg); exact rfl; exact rfl) | ((with_reducible apply oq_call (k := 86) (hc := Try.call86)); exact rfl; exact rfl; exact fun D w1 hw1 => HO w1)) | ((with_reducible apply tl_id); first | (with_reducible apply tl_nil) | ((with_reducible apply u_q); (iterate 4 exact rfl))) | ((with_reducible apply rd_id); first | (apply Rd.old; (first | exact c0 | exact c1 | exact c2); exact List.not_mem_nil)) | ((with_reducible apply t_id); first | (with_reducible apply t_seq) | (apply t_region; kernel_rfl) | ((with_reducible apply t_condT); exact rfl) | ((with_reducible apply t_condF); exact rfl) | (with_reducible apply t_skip) | (with_reducible apply t_block)) | with_reducible apply q_thenN | with_reducible apply q_blockN | exact Rdn.zero | apply Rdn.succ)
      all_goals (refine ⟨(i + 1), ⟨by omega, fun j y hj hy => by by_cases hji : j = i; (subst hji; rw [hx] at hy; cases hy; exact ho); exact hok j y (by omega) hy⟩, (by omega), ?_, ?_⟩ <;> (try simp only [List.cons_append, List.nil_append]) <;> (repeat' (first | exact FrSub.nil | (apply FrSub.cons; exact rfl) | exact HpSub.refl _)))
    · rw [decide_eq_false ho] at HO
      rw [oddI_at hx ho hok]
      repeat' (first | ((with_reducible apply oq_id); first | (focus ((with_reducible apply oq_indexAddrN); (iterate 4 exact rfl); omega)) | ((with_reducible apply oq_lssT); exact rfl; exact rfl; omega) | (apply oq_fn; exact rfl; try first | exact trivial | (and_intros <;> omega)) | ((with_reducible apply oq_loadAgg); exact rfl; exact rfl) | ((with_reducible apply oq_call (k := 86) (hc := Try.call86)); exact rfl; exact rfl; exact fun D w1 hw1 => HO w1)) | ((with_reducible apply tl_id); first | (with_reducible apply tl_nil) | ((with_reducible apply u_q); (iterate 4 exact rfl))) | ((with_reducible apply rd_id); first | (apply Rd.old; (first | exact c0 | exact c1 | exact c2); exact List.not_mem_nil)) | ((with_reducible apply t_id); first | (with_reducible apply t_seq) | (apply t_region; kernel_rfl) | ((with_reducible apply t_condT); exact rfl) | (with_reducible apply t_ret) | (with_reducible apply t_skip) | (with_reducible apply t_block)) | with_reducible apply q_thenN | with_reducible apply q_thenR | with_reducible apply q_blockR | exact Rdn.zero | apply Rdn.succ | (with_reducible apply end_ret) | exact rvs_nil | (with_reducible apply rvs_cons) | ((with_reducible apply rv_tmp); exact rfl))
      all_goals rfl
  · rw [oddI_no fun x hx => by
      obtain ⟨j, hj, rfl⟩ := List.getElem_of_mem hx
      exact hok j _ (by omega) (List.getElem?_eq_getElem hj)]
    repeat' (first | ((with_reducible apply oq_id); first | ((with_reducible apply oq_lssF); exact rfl; exact rfl; omega) | (apply oq_fn; exact rfl; try first | exact trivial | (and_intros <;> omega))) | ((with_reducible apply tl_id); first | (with_reducible apply tl_nil) | ((with_reducible apply u_q); (iterate 4 exact rfl))) | ((with_reducible apply t_id); first | (with_reducible apply t_seq) | (apply t_region; kernel_rfl) | ((with_reducible apply t_condF); exact rfl) | (with_reducible apply t_ret) | (with_reducible apply t_exit)) | with_reducible apply q_thenN | with_reducible apply q_thenE | ((with_reducible apply q_blockE); exact rfl) | (with_reducible apply end_ret) | exact rvs_nil | (with_reducible apply rvs_cons) | ((with_reducible apply rv_tmp); exact rfl))
    all_goals rfl
theorem contTr_calls (A : Option Addr) (n c : Nat) (l : List Tr) (w : World) (hr : RdS w 3 A n (l.map trCells)) (hn : n ≤ 1000000) : Calls Try.prog 87 #[.slice A n c, .func (.func 86) #[] #[]] w fun e w' => e = .returned (.bool (decide (0 ≤ oddI l))) ∧ Ext w w' := by
  by_cases h : 0 ≤ oddI l
  · rw [decide_eq_true h]
    refine enterQ (c := cx w 9) Try.func87 rfl rfl rfl rfl ?_
    repeat' (first | ((with_reducible apply oq_id); first | ((with_reducible apply oq_geqT); exact rfl; exact rfl; omega) | (apply oq_fn; exact rfl; try first | exact trivial | (and_intros <;> omega)) | ((with_reducible apply oq_call (k := 114) (hc := Try.call114)); exact rfl; exact rfl; exact fun D w1 hw1 => idxTr_calls A n c l w1 (hr.ext hw1.ext.ext) hn)) | ((with_reducible apply tl_id); first | (with_reducible apply tl_nil) | ((with_reducible apply u_q); (iterate 4 exact rfl))) | ((with_reducible apply t_id); first | (with_reducible apply t_seq) | (apply t_region; kernel_rfl) | (with_reducible apply t_ret)) | with_reducible apply q_thenN | (with_reducible apply end_ret) | exact rvs_nil | (with_reducible apply rvs_cons) | ((with_reducible apply rv_tmp); exact rfl))
    all_goals rfl
  · rw [decide_eq_false h]
    refine enterQ (c := cx w 9) Try.func87 rfl rfl rfl rfl ?_
    repeat' (first | ((with_reducible apply oq_id); first | ((with_reducible apply oq_geqF); exact rfl; exact rfl; omega) | (apply oq_fn; exact rfl; try first | exact trivial | (and_intros <;> omega)) | ((with_reducible apply oq_call (k := 114) (hc := Try.call114)); exact rfl; exact rfl; exact fun D w1 hw1 => idxTr_calls A n c l w1 (hr.ext hw1.ext.ext) hn)) | ((with_reducible apply tl_id); first | (with_reducible apply tl_nil) | ((with_reducible apply u_q); (iterate 4 exact rfl))) | ((with_reducible apply t_id); first | (with_reducible apply t_seq) | (apply t_region; kernel_rfl) | (with_reducible apply t_ret)) | with_reducible apply q_thenN | (with_reducible apply end_ret) | exact rvs_nil | (with_reducible apply rvs_cons) | ((with_reducible apply rv_tmp); exact rfl))
    all_goals rfl
/-- What Assign answers: the error. -/
def asgN (d : Du) (l : List Sh) (mem : Int) (ts : List Tr) : Option (List (List Int)) := tryF d mem.toNat 20 ts [] 0 l
def asgE (d : Du) (l : List Sh) (mem : Int) (ts : List Tr) : Int :=
  if tiE d l = 0 then (if 0 ≤ mem ∧ mem ≤ 6 then (if 4 < ts.length then 4 else if 0 ≤ oddI ts then 2 else if (asgN d l mem ts).isSome then 0 else 6) else 2) else tiE d l
def asgL (d : Du) (l : List Sh) (mem : Int) (ts : List Tr) : List (List Int) := if asgE d l mem ts = 0 then (asgN d l mem ts).getD [] else []
/-- What Assign hands out. -/
def AsgV (E : Int) (L : List (List Int)) (v : Value) (H : Hp) : Prop :=
  (E ≠ 0 ∧ v = .tuple #[.slice none 0 0, .int .i64 E] ∧ H = []) ∨ (E = 0 ∧ ∃ g R, (∀ r ∈ R, LrOk r) ∧ R.map Prod.fst = L ∧ v = .tuple #[.slice (some ⟨g, 0, none⟩) L.length L.length, .int .i64 0] ∧ H = outH g L.length R)
theorem out_none (g m : Nat) : outH g m (List.replicate m ([], none)) = [(g, List.replicate m (.slice none 0 0), some (41, 1, m))] := by
  unfold outH
  have h1 : ∀ k, rwsH (List.replicate k (([], none) : Row)) = [] := fun k => by
    induction k with
    | zero => rfl
    | succ k ih => rw [List.replicate_succ]; show rowH ([], none) ++ _ = []; rw [ih]; rfl
  rw [h1, List.map_replicate]
  rfl
theorem dep_le : ∀ {ts : List Tr}, (∀ x ∈ ts, trOk x) → dep ts ≤ 3 * ts.length + 1
  | [], _ => Nat.le_refl _
  | x :: ts, h => by
    have h1 := h x List.mem_cons_self
    unfold trOk at h1
    have := dep_le fun y hy => h y (List.mem_cons_of_mem _ hy)
    show x.crew.toNat + 1 + dep ts ≤ _
    simp only [List.length_cons]
    omega
theorem assign_T (d : Du) (A : Option Addr) (n c : Nat) (l : List Sh) (mem : Int) (AT : Option Addr) (m cT : Nat) (ts : List Tr) (w : World) (hr : RdS w 3 A n (l.map shCells)) (hA : A = none → n = 0 ∧ c = 0) (hrT : RdS w 3 AT m (ts.map trCells)) (hn : n ≤ 1000000) (hm : m ≤ 1000000) :
    Calls Try.prog 50 #[.agg #[.int .i64 d.most, .int .i64 d.rest, .int .i64 d.win, .int .i64 d.sum], .slice A n c, .int .i64 mem, .slice AT m cT] w fun e w' => ∃ v H', e = .returned v ∧ AsgV (asgE d l mem ts) (asgL d l mem ts) v H' ∧ Has w ⟨[], []⟩ H' w' := by
  have hl := hr.len
  simp only [List.length_map] at hl
  have hlT := hrT.len
  simp only [List.length_map] at hlT
  have HDu := fun w1 => dutyR_calls d w1
  have HRo := fun w1 h => rosR_calls A n c l w1 h hA hn
  obtain ⟨E0, hE0⟩ : ∃ E, tiE d l = E := ⟨_, rfl⟩
  have hEq := tiE_eq (d := d) (l := l)
  rw [hE0] at hEq
  obtain ⟨p, hp⟩ : ∃ p, duE d = p := ⟨_, rfl⟩
  obtain ⟨q', hq'⟩ : ∃ q, rosE l = q := ⟨_, rfl⟩
  rw [hp, hq'] at hEq
  rw [hp] at HDu
  rw [hq'] at HRo
  have HOr := fun A cp w c0 c1 => orE_calls p q' A cp w c0 c1
  rw [hEq] at HOr
  obtain ⟨q, hq⟩ : ∃ q, allFrom 0 6 [mem] = q := ⟨_, rfl⟩
  have hqe : q = true ↔ 0 ≤ mem ∧ mem ≤ 6 := by rw [← hq]; exact allFrom_one
  obtain ⟨E, hE⟩ : ∃ E, asgE d l mem ts = E := ⟨_, rfl⟩
  have hEd := hE
  unfold asgE at hEd
  rw [hE0] at hEd
  have hbad : E ≠ 0 → ∀ (H : Hp), ∃ H1, (AsgV (asgE d l mem ts) (asgL d l mem ts) (.tuple #[.slice none 0 0, .int .i64 E]) H1) ∧ HpSub H H1 := fun h H => ⟨[], .inl ⟨by rw [hE]; exact h, by rw [hE], rfl⟩, HpSub.nil⟩
  refine enterF (c := cx w 45) Try.func50 rfl rfl rfl rfl ?_
  refine t_cut (ι := Nat × Nat × Nat) (fun z => [(1, .slice A n c), (4, .pointer (some ⟨z.1, 0, none⟩)), (6, .pointer (some ⟨z.2.1, 0, none⟩)), (7, .pointer (some ⟨z.2.2, 0, none⟩))]) (fun z => [(z.2.2, [.slice AT m cT], some (89, 1, 1)), (z.2.1, [.int .i64 mem], some (3, 1, 1)), (z.1, [.int .i64 d.most, .int .i64 d.rest, .int .i64 d.win, .int .i64 d.sum], some (74, 4, 1))]) (fun _ => True) ?_ ?_
  · repeat' (first | ((with_reducible apply oq_id); first | (apply oq_fn; exact rfl; try first | exact trivial | (and_intros <;> omega))) | ((with_reducible apply tl_id); first | (with_reducible apply tl_nil) | ((with_reducible apply u_q); (iterate 4 exact rfl)) | ((with_reducible apply u_s); (iterate 3 exact rfl))) | ((with_reducible apply os_x); exact rfl) | ((with_reducible apply ox_id); first | ((with_reducible apply ox_box); exact rfl; exact rfl; intro _) | ((with_reducible apply ox_boxAgg); exact rfl; intro _)) | ((with_reducible apply t_id); first | (apply t_region; kernel_rfl)))
    all_goals exact ⟨rfl, (_, _, _), trivial, by (repeat (first | exact FrSub.nil | (apply FrSub.cons; exact rfl))), by (repeat (first | exact HpSub.refl _ | (apply HpSub.consE; (repeat (first | exact P0 | apply P1 | apply PA)); exact rfl) | apply hp_kA | apply HpSub.skipX | apply hp_skA | exact HpSub.nil))⟩
  rintro ⟨bD, bM, bT⟩ -
  try dsimp only
  by_cases h0 : E0 = 0
  rotate_left
  · rw [if_neg h0] at hEd
    subst hEd
    repeat' (first | ((with_reducible apply oq_id); first | ((with_reducible apply oq_neqT); exact rfl; exact rfl; omega) | (apply oq_fn; exact rfl; try first | exact trivial | (and_intros <;> omega)) | ((with_reducible apply oq_loadAgg); exact rfl; exact rfl) | ((with_reducible apply oq_call (k := 44) (hc := Try.call44)); exact rfl; exact rfl; exact fun D w1 hw1 => HDu w1) | ((with_reducible apply oq_call (k := 46) (hc := Try.call46)); exact rfl; exact rfl; exact fun D w1 hw1 => HRo w1 (hr.ext hw1.ext.ext)) | ((with_reducible apply oq_call (k := 81) (hc := Try.call81)); exact rfl; exact rfl; exact fun D w1 hw1 => HOr _ _ w1 (hw1.cellAt (by (repeat (first | exact P0 | apply P1 | apply PA))) rfl) (hw1.cellAt (by (repeat (first | exact P0 | apply P1 | apply PA))) rfl))) | ((with_reducible apply tl_id); first | (with_reducible apply tl_nil) | ((with_reducible apply u_q); (iterate 4 exact rfl)) | ((with_reducible apply u_s); (iterate 3 exact rfl))) | ((with_reducible apply os_x); exact rfl) | ((with_reducible apply ox_buildSlice1); (iterate 6 exact rfl); intro _) | ((with_reducible apply rd_id); first | (apply Rd.own; (repeat (first | exact P0 | apply P1 | apply PA)); exact rfl; done)) | ((with_reducible apply t_id); first | (with_reducible apply t_seq) | (apply t_region; kernel_rfl) | ((with_reducible apply t_condT); exact rfl) | (with_reducible apply t_ret)) | with_reducible apply q_thenN | with_reducible apply q_thenR | exact Rdn.zero | apply Rdn.succ | (with_reducible apply end_ret) | exact rvs_nil | (with_reducible apply rvs_cons) | ((with_reducible apply rv_tmp); exact rfl))
    all_goals exact hbad h0 _
  rw [if_pos h0] at hEd
  refine t_cut (ι := Unit) (fun _ => [(1, .slice A n c), (4, .pointer (some ⟨bD, 0, none⟩)), (6, .pointer (some ⟨bM, 0, none⟩)), (7, .pointer (some ⟨bT, 0, none⟩))]) (fun _ => [(bT, [.slice AT m cT], some (89, 1, 1)), (bM, [.int .i64 mem], some (3, 1, 1)), (bD, [.int .i64 d.most, .int .i64 d.rest, .int .i64 d.win, .int .i64 d.sum], some (74, 4, 1))]) (fun _ => True) ?_ ?_
  · repeat' (first | ((with_reducible apply oq_id); first | ((with_reducible apply oq_neqF); exact rfl; exact rfl; omega) | (apply oq_fn; exact rfl; try first | exact trivial | (and_intros <;> omega)) | ((with_reducible apply oq_loadAgg); exact rfl; exact rfl) | ((with_reducible apply oq_call (k := 44) (hc := Try.call44)); exact rfl; exact rfl; exact fun D w1 hw1 => HDu w1) | ((with_reducible apply oq_call (k := 46) (hc := Try.call46)); exact rfl; exact rfl; exact fun D w1 hw1 => HRo w1 (hr.ext hw1.ext.ext)) | ((with_reducible apply oq_call (k := 81) (hc := Try.call81)); exact rfl; exact rfl; exact fun D w1 hw1 => HOr _ _ w1 (hw1.cellAt (by (repeat (first | exact P0 | apply P1 | apply PA))) rfl) (hw1.cellAt (by (repeat (first | exact P0 | apply P1 | apply PA))) rfl))) | ((with_reducible apply tl_id); first | (with_reducible apply tl_nil) | ((with_reducible apply u_q); (iterate 4 exact rfl)) | ((with_reducible apply u_s); (iterate 3 exact rfl))) | ((with_reducible apply os_x); exact rfl) | ((with_reducible apply ox_buildSlice1); (iterate 6 exact rfl); intro _) | ((with_reducible apply rd_id); first | (apply Rd.own; (repeat (first | exact P0 | apply P1 | apply PA)); exact rfl; done)) | ((with_reducible apply t_id); first | (with_reducible apply t_seq) | (apply t_region; kernel_rfl) | ((with_reducible apply t_condF); exact rfl) | (with_reducible apply t_skip)) | with_reducible apply q_thenN | exact Rdn.zero | apply Rdn.succ)
    all_goals exact ⟨rfl, (), trivial, by (repeat (first | exact FrSub.nil | (apply FrSub.cons; exact rfl))), by (repeat (first | exact HpSub.refl _ | (apply HpSub.consE; (repeat (first | exact P0 | apply P1 | apply PA)); exact rfl) | apply hp_kA | apply HpSub.skipX | apply hp_skA | exact HpSub.nil))⟩
  rintro ⟨⟩ -
  refine t_cut (ι := Unit) (fun _ => [(1, .slice A n c), (4, .pointer (some ⟨bD, 0, none⟩)), (6, .pointer (some ⟨bM, 0, none⟩)), (7, .pointer (some ⟨bT, 0, none⟩)), (11, .func (.func 86) #[] #[])]) (fun _ => [(bT, [.slice AT m cT], some (89, 1, 1)), (bM, [.int .i64 mem], some (3, 1, 1)), (bD, [.int .i64 d.most, .int .i64 d.rest, .int .i64 d.win, .int .i64 d.sum], some (74, 4, 1))]) (fun _ => True) ?_ ?_
  · repeat' (first | ((with_reducible apply oq_id); first | (apply oq_fn; exact rfl; try first | exact trivial | (and_intros <;> omega))) | ((with_reducible apply tl_id); first | (with_reducible apply tl_nil) | ((with_reducible apply u_q); (iterate 4 exact rfl))) | ((with_reducible apply t_id); first | (apply t_region; kernel_rfl)))
    all_goals exact ⟨rfl, (), trivial, by (repeat (first | exact FrSub.nil | (apply FrSub.cons; exact rfl))), by (repeat (first | exact HpSub.refl _ | (apply HpSub.consE; (repeat (first | exact P0 | apply P1 | apply PA)); exact rfl) | apply hp_kA | apply HpSub.skipX | apply hp_skA | exact HpSub.nil))⟩
  rintro ⟨⟩ -
  by_cases h1 : q = true
  rotate_left
  · obtain rfl : q = false := by cases q; rfl; exact absurd rfl h1
    rw [if_neg (fun h => h1 (hqe.2 h))] at hEd
    subst hEd
    repeat' (first | ((with_reducible apply oq_id); first | (apply oq_fn; exact rfl; try first | exact trivial | (and_intros <;> omega)) | ((with_reducible apply oq_load); exact rfl; exact rfl) | ((with_reducible apply oq_call (k := 63) (hc := Try.call63)); exact rfl; exact rfl; exact fun D w1 hw1 => fromOne hq hw1 (by (repeat (first | exact P0 | apply P1 | apply PA))))) | ((with_reducible apply tl_id); first | (with_reducible apply tl_nil) | ((with_reducible apply u_q); (iterate 4 exact rfl)) | ((with_reducible apply u_s); (iterate 3 exact rfl))) | ((with_reducible apply os_x); exact rfl) | ((with_reducible apply ox_buildSlice1); (iterate 6 exact rfl); intro _) | ((with_reducible apply rd_id); first | (apply Rd.own; (repeat (first | exact P0 | apply P1 | apply PA)); exact rfl; done)) | ((with_reducible apply t_id); first | (with_reducible apply t_seq) | (apply t_region; kernel_rfl) | ((with_reducible apply t_condT); exact rfl) | (with_reducible apply t_ret) | (with_reducible apply t_block)) | with_reducible apply q_thenN | with_reducible apply q_thenR | with_reducible apply q_blockR | (with_reducible apply end_ret) | exact rvs_nil | (with_reducible apply rvs_cons) | ((with_reducible apply rv_tmp); exact rfl))
    all_goals exact hbad (by decide) _
  subst h1
  have hmem := hqe.1 rfl
  rw [if_pos hmem] at hEd
  by_cases h2 : 4 < ts.length
  · rw [if_pos h2] at hEd
    subst hEd
    repeat' (first | ((with_reducible apply oq_id); first | ((with_reducible apply oq_gtrT); exact rfl; exact rfl; omega) | (apply oq_fn; exact rfl; try first | exact trivial | (and_intros <;> omega)) | ((with_reducible apply oq_load); exact rfl; exact rfl) | ((with_reducible apply oq_call (k := 63) (hc := Try.call63)); exact rfl; exact rfl; exact fun D w1 hw1 => fromOne hq hw1 (by (repeat (first | exact P0 | apply P1 | apply PA))))) | ((with_reducible apply tl_id); first | (with_reducible apply tl_nil) | ((with_reducible apply u_q); (iterate 4 exact rfl)) | ((with_reducible apply u_s); (iterate 3 exact rfl))) | ((with_reducible apply os_x); exact rfl) | ((with_reducible apply ox_buildSlice1); (iterate 6 exact rfl); intro _) | ((with_reducible apply rd_id); first | (apply Rd.own; (repeat (first | exact P0 | apply P1 | apply PA)); exact rfl; done)) | ((with_reducible apply t_id); first | (with_reducible apply t_seq) | (apply t_region; kernel_rfl) | ((with_reducible apply t_condT); exact rfl) | ((with_reducible apply t_condF); exact rfl) | (with_reducible apply t_ret) | (with_reducible apply t_block)) | with_reducible apply q_thenN | with_reducible apply q_thenR | with_reducible apply q_blockR | (with_reducible apply end_ret) | exact rvs_nil | (with_reducible apply rvs_cons) | ((with_reducible apply rv_tmp); exact rfl))
    all_goals exact hbad (by decide) _
  rw [if_neg h2] at hEd
  have HCt := fun w1 h => contTr_calls AT m cT ts w1 h hm
  by_cases h3 : 0 ≤ oddI ts
  · rw [if_pos h3] at hEd
    subst hEd
    rw [decide_eq_true h3] at HCt
    repeat' (first | ((with_reducible apply oq_id); first | ((with_reducible apply oq_gtrF); exact rfl; exact rfl; omega) | (apply oq_fn; exact rfl; try first | exact trivial | (and_intros <;> omega)) | ((with_reducible apply oq_load); exact rfl; exact rfl) | ((with_reducible apply oq_call (k := 87) (hc := Try.call87)); exact rfl; exact rfl; exact fun D w1 hw1 => HCt w1 (hrT.ext hw1.ext.ext)) | ((with_reducible apply oq_call (k := 63) (hc := Try.call63)); exact rfl; exact rfl; exact fun D w1 hw1 => fromOne hq hw1 (by (repeat (first | exact P0 | apply P1 | apply PA))))) | ((with_reducible apply tl_id); first | (with_reducible apply tl_nil) | ((with_reducible apply u_q); (iterate 4 exact rfl)) | ((with_reducible apply u_s); (iterate 3 exact rfl))) | ((with_reducible apply os_x); exact rfl) | ((with_reducible apply ox_buildSlice1); (iterate 6 exact rfl); intro _) | ((with_reducible apply rd_id); first | (apply Rd.own; (repeat (first | exact P0 | apply P1 | apply PA)); exact rfl; done)) | ((with_reducible apply t_id); first | (with_reducible apply t_seq) | (apply t_region; kernel_rfl) | ((with_reducible apply t_condT); exact rfl) | ((with_reducible apply t_condF); exact rfl) | (with_reducible apply t_ret) | (with_reducible apply t_block)) | with_reducible apply q_thenN | with_reducible apply q_thenR | with_reducible apply q_blockR | (with_reducible apply end_ret) | exact rvs_nil | (with_reducible apply rvs_cons) | ((with_reducible apply rv_tmp); exact rfl))
    all_goals exact hbad (by decide) _
  rw [if_neg h3] at hEd
  rw [decide_eq_false h3] at HCt
  have hto := oddI_neg.1 (show oddI ts < 0 by omega)
  obtain ⟨hd, hl40, hRos⟩ := tiE_ok (hE0.trans h0)
  refine t_cut (ι := Unit) (fun _ => [(1, .slice A n c), (4, .pointer (some ⟨bD, 0, none⟩)), (6, .pointer (some ⟨bM, 0, none⟩)), (7, .pointer (some ⟨bT, 0, none⟩))]) (fun _ => [(bT, [.slice AT m cT], some (89, 1, 1)), (bM, [.int .i64 mem], some (3, 1, 1)), (bD, [.int .i64 d.most, .int .i64 d.rest, .int .i64 d.win, .int .i64 d.sum], some (74, 4, 1))]) (fun _ => True) ?_ ?_
  · repeat' (first | ((with_reducible apply oq_id); first | ((with_reducible apply oq_gtrF); exact rfl; exact rfl; omega) | (apply oq_fn; exact rfl; try first | exact trivial | (and_intros <;> omega)) | ((with_reducible apply oq_load); exact rfl; exact rfl) | ((with_reducible apply oq_call (k := 87) (hc := Try.call87)); exact rfl; exact rfl; exact fun D w1 hw1 => HCt w1 (hrT.ext hw1.ext.ext)) | ((with_reducible apply oq_call (k := 63) (hc := Try.call63)); exact rfl; exact rfl; exact fun D w1 hw1 => fromOne hq hw1 (by (repeat (first | exact P0 | apply P1 | apply PA))))) | ((with_reducible apply tl_id); first | (with_reducible apply tl_nil) | ((with_reducible apply u_q); (iterate 4 exact rfl)) | ((with_reducible apply u_s); (iterate 3 exact rfl))) | ((with_reducible apply os_x); exact rfl) | ((with_reducible apply ox_buildSlice1); (iterate 6 exact rfl); intro _) | ((with_reducible apply rd_id); first | (apply Rd.own; (repeat (first | exact P0 | apply P1 | apply PA)); exact rfl; done)) | ((with_reducible apply t_id); first | (with_reducible apply t_seq) | (apply t_region; kernel_rfl) | ((with_reducible apply t_condF); exact rfl) | (with_reducible apply t_skip) | (with_reducible apply t_block)) | with_reducible apply q_thenN | with_reducible apply q_blockN)
    all_goals exact ⟨rfl, (), trivial, by (repeat (first | exact FrSub.nil | (apply FrSub.cons; exact rfl))), by (repeat (first | exact HpSub.refl _ | (apply HpSub.consE; (repeat (first | exact P0 | apply P1 | apply PA)); exact rfl) | apply hp_kA | apply HpSub.skipX | apply hp_skA | exact HpSub.nil))⟩
  rintro ⟨⟩ -
  refine t_cut (ι := Nat × Nat) (fun z => [(1, .slice A n c), (4, .pointer (some ⟨bD, 0, none⟩)), (6, .pointer (some ⟨bM, 0, none⟩)), (7, .pointer (some ⟨bT, 0, none⟩)), (12, .pointer (some ⟨z.2, 0, none⟩))]) (fun z => (z.2, [.slice (some ⟨z.1, 0, none⟩) m m], some (90, 1, 1)) :: (z.1, List.replicate m (.slice none 0 0), some (41, 1, m)) :: [(bT, [.slice AT m cT], some (89, 1, 1)), (bM, [.int .i64 mem], some (3, 1, 1)), (bD, [.int .i64 d.most, .int .i64 d.rest, .int .i64 d.win, .int .i64 d.sum], some (74, 4, 1))]) (fun _ => True) ?_ ?_
  · repeat' (first | ((with_reducible apply oq_id); first | (apply oq_fn; exact rfl; try first | exact trivial | (and_intros <;> omega)) | ((with_reducible apply oq_load); exact rfl; exact rfl)) | ((with_reducible apply tl_id); first | (with_reducible apply tl_nil) | ((with_reducible apply u_s); (iterate 3 exact rfl); (with_reducible apply os_makeL); exact rfl; exact rfl; omega; intro gg) | ((with_reducible apply u_q); (iterate 4 exact rfl)) | ((with_reducible apply u_s0); exact rfl; exact rfl) | ((with_reducible apply u_s); (iterate 3 exact rfl))) | ((with_reducible apply os_id); first | ((with_reducible apply os_x); exact rfl) | ((with_reducible apply os_store); (iterate 4 exact rfl))) | ((with_reducible apply ox_alloc); exact rfl; intro _) | ((with_reducible apply rd_id); first | (apply Rd.own; (repeat (first | exact P0 | apply P1 | apply PA)); exact rfl; done)) | ((with_reducible apply t_id); first | (apply t_region; kernel_rfl)) | exact P0 | ((with_reducible apply Norm.nil); exact rfl) | ((with_reducible apply Norm.cons); exact rfl) | exact Nat.le_of_ble_eq_true rfl)
    all_goals exact ⟨by trivial, (_, _), trivial, by (repeat (first | exact FrSub.nil | (apply FrSub.cons; exact rfl))), by (repeat (first | exact HpSub.refl _ | (apply HpSub.consE; (repeat (first | exact P0 | apply P1 | apply PA)); exact rfl) | apply hp_kA | apply HpSub.skipX | apply hp_skA | exact HpSub.nil))⟩
  rintro ⟨g, bO⟩ -
  try dsimp only
  refine t_cut (ι := Nat) (fun bF => [(1, .slice A n c), (4, .pointer (some ⟨bD, 0, none⟩)), (6, .pointer (some ⟨bM, 0, none⟩)), (7, .pointer (some ⟨bT, 0, none⟩)), (12, .pointer (some ⟨bO, 0, none⟩)), (13, .pointer (some ⟨bF, 0, none⟩))]) (fun bF => (bF, [.nilFunc], some (152, 1, 1)) :: (bO, [.slice (some ⟨g, 0, none⟩) m m], some (90, 1, 1)) :: (g, List.replicate m (.slice none 0 0), some (41, 1, m)) :: [(bT, [.slice AT m cT], some (89, 1, 1)), (bM, [.int .i64 mem], some (3, 1, 1)), (bD, [.int .i64 d.most, .int .i64 d.rest, .int .i64 d.win, .int .i64 d.sum], some (74, 4, 1))]) (fun _ => True) ?_ ?_
  · repeat' (first | ((with_reducible apply tl_id); first | (with_reducible apply tl_nil) | ((with_reducible apply u_s); (iterate 3 exact rfl))) | ((with_reducible apply os_x); exact rfl) | ((with_reducible apply ox_alloc); exact rfl; intro _) | ((with_reducible apply t_id); first | (apply t_region; kernel_rfl)))
    all_goals exact ⟨by trivial, _, trivial, by (repeat (first | exact FrSub.nil | (apply FrSub.cons; exact rfl))), by (repeat (first | exact HpSub.refl _ | (apply HpSub.consE; (repeat (first | exact P0 | apply P1 | apply PA)); exact rfl) | apply hp_kA | apply HpSub.skipX | apply hp_skA | exact HpSub.nil))⟩
  rintro bF -
  try dsimp only
  refine t_cut (ι := Unit) (fun _ => [(1, .slice A n c), (4, .pointer (some ⟨bD, 0, none⟩)), (6, .pointer (some ⟨bM, 0, none⟩)), (7, .pointer (some ⟨bT, 0, none⟩)), (12, .pointer (some ⟨bO, 0, none⟩)), (13, .pointer (some ⟨bF, 0, none⟩))]) (fun _ => [(bF, [.func (.func 88) #[] #[.pointer (some ⟨bD, 0, none⟩), .pointer (some ⟨bT, 0, none⟩), .pointer (some ⟨bO, 0, none⟩), .pointer (some ⟨bF, 0, none⟩), .pointer (some ⟨bM, 0, none⟩)]], some (152, 1, 1)), (bO, [.slice (some ⟨g, 0, none⟩) m m], some (90, 1, 1)), (bT, [.slice AT m cT], some (89, 1, 1)), (bM, [.int .i64 mem], some (3, 1, 1)), (bD, [.int .i64 d.most, .int .i64 d.rest, .int .i64 d.win, .int .i64 d.sum], some (74, 4, 1))] ++ outH g m (List.replicate m ([], none))) (fun _ => True) ?_ ?_
  · repeat' (first | ((with_reducible apply oq_id); first | (apply oq_fn; exact rfl; try first | exact trivial | (and_intros <;> omega))) | ((with_reducible apply tl_id); first | (with_reducible apply tl_nil) | ((with_reducible apply u_q); (iterate 4 exact rfl)) | ((with_reducible apply u_s0); exact rfl; exact rfl)) | ((with_reducible apply os_store); (iterate 4 exact rfl)) | ((with_reducible apply t_id); first | (apply t_region; kernel_rfl)) | exact P0 | ((with_reducible apply Norm.nil); exact rfl) | ((with_reducible apply Norm.cons); exact rfl) | exact Nat.le_of_ble_eq_true rfl)
    all_goals exact ⟨by trivial, (), trivial, by (repeat (first | exact FrSub.nil | (apply FrSub.cons; exact rfl))), by (rw [out_none]; simp only [List.cons_append, List.nil_append]; (repeat (first | exact HpSub.refl _ | (apply HpSub.consE; (repeat (first | exact P0 | apply P1 | apply PA)); exact rfl) | apply hp_kA | apply HpSub.skipX | apply hp_skA | exact HpSub.nil)))⟩
  rintro ⟨⟩ -
  obtain ⟨R0, hR0⟩ : ∃ R : List Row, List.replicate m ([], none) = R := ⟨_, rfl⟩
  have hR0l : R0.length = m := by rw [← hR0]; simp
  have hR0e : ∀ (j : Nat) r, R0[j]? = some r → r = ([], none) := fun j r h => by
    rw [← hR0, List.getElem?_replicate] at h
    split at h
    · exact (Option.some.inj h).symm
    · cases h
  have hR0k : ∀ r ∈ R0, LrOk r := fun r h => by
    obtain ⟨j, hj, rfl⟩ := List.getElem_of_mem h
    rw [hR0e j _ (List.getElem?_eq_getElem hj)]
    exact ⟨fun _ => rfl, Nat.le_refl _⟩
  have hR0c : R0.map Prod.fst = List.replicate m [] := by rw [← hR0]; simp
  rw [hR0]
  obtain ⟨mm, hmm⟩ : ∃ k : Nat, mem = (k : Int) := ⟨mem.toNat, by omega⟩
  have hdep := dep_le hto
  obtain ⟨N, hN⟩ : ∃ N, asgN d l mem ts = N := ⟨_, rfl⟩
  have hNe := hN
  unfold asgN at hNe
  have htry := fun w1 h1 h2 h3 h4 => try_T d hd mm m (by omega) (by omega) ts hlT hto bD bT bO bF bM g AT cT 20 0 0 l R0 [] A n c w1 hR0l hR0k (Nat.zero_le _) (fun j r _ h => by rw [hR0e j r h]) (fun r h => by rw [hR0e 0 r h]) (fun _ => rfl) (fun x hx => by have := hto x (List.mem_of_getElem? hx); unfold trOk at this; simp only [List.length_nil]; omega) (by rw [List.drop_zero]; simp only [List.length_nil]; omega) (by omega) (by omega) h1 hA h2 h3 h4
  rw [List.drop_zero, show tryF d mm 20 ts [] 0 l = N by rw [← hNe, hmm]; rfl, hR0c] at htry
  subst hmm
  cases N with
  | none =>
    rw [hN] at hEd
    simp only [Option.isSome_none, Bool.false_eq_true, if_false] at hEd
    subst hEd
    repeat' (first | ((with_reducible apply oq_id); first | (apply oq_fn; exact rfl; try first | exact trivial | (and_intros <;> omega)) | ((with_reducible apply oq_load); exact rfl; exact rfl)) | ((with_reducible apply tl_id); first | (with_reducible apply tl_nil) | ((with_reducible apply u_s); (iterate 3 exact rfl); (with_reducible apply os_callM (G := outH g m R0) (R := [(bF, [.func (.func 88) #[] #[.pointer (some ⟨bD, 0, none⟩), .pointer (some ⟨bT, 0, none⟩), .pointer (some ⟨bO, 0, none⟩), .pointer (some ⟨bF, 0, none⟩), .pointer (some ⟨bM, 0, none⟩)]], some (152, 1, 1)), (bO, [.slice (some ⟨g, 0, none⟩) m m], some (90, 1, 1)), (bT, [.slice AT m cT], some (89, 1, 1)), (bM, [.int .i64 (mm : Nat)], some (3, 1, 1)), (bD, [.int .i64 d.most, .int .i64 d.rest, .int .i64 d.win, .int .i64 d.sum], some (74, 4, 1))]) (PV := TryP g m (List.replicate m []) 0 none) (k := 88) (hc := Try.call88)); exact rfl; exact rfl; exact hp_comm [(bF, [.func (.func 88) #[] #[.pointer (some ⟨bD, 0, none⟩), .pointer (some ⟨bT, 0, none⟩), .pointer (some ⟨bO, 0, none⟩), .pointer (some ⟨bF, 0, none⟩), .pointer (some ⟨bM, 0, none⟩)]], some (152, 1, 1)), (bO, [.slice (some ⟨g, 0, none⟩) m m], some (90, 1, 1)), (bT, [.slice AT m cT], some (89, 1, 1)), (bM, [.int .i64 (mm : Nat)], some (3, 1, 1)), (bD, [.int .i64 d.most, .int .i64 d.rest, .int .i64 d.win, .int .i64 d.sum], some (74, 4, 1))] _; exact fun D w1 hw1 hw2 => htry w1 (hr.ext hw1.ext.ext) (old_off (X := [(bF, [.func (.func 88) #[] #[.pointer (some ⟨bD, 0, none⟩), .pointer (some ⟨bT, 0, none⟩), .pointer (some ⟨bO, 0, none⟩), .pointer (some ⟨bF, 0, none⟩), .pointer (some ⟨bM, 0, none⟩)]], some (152, 1, 1)), (bO, [.slice (some ⟨g, 0, none⟩) m m], some (90, 1, 1)), (bT, [.slice AT m cT], some (89, 1, 1)), (bM, [.int .i64 (mm : Nat)], some (3, 1, 1)), (bD, [.int .i64 d.most, .int .i64 d.rest, .int .i64 d.win, .int .i64 d.sum], some (74, 4, 1))]) hw1 hr) ⟨hw1.cellAt (by (repeat (first | exact P0 | apply P1 | apply PA))) rfl, hw1.cellAt (by (repeat (first | exact P0 | apply P1 | apply PA))) rfl, hw1.cellAt (by (repeat (first | exact P0 | apply P1 | apply PA))) rfl, hw1.cellAt (by (repeat (first | exact P0 | apply P1 | apply PA))) rfl, hw1.cellAt (by (repeat (first | exact P0 | apply P1 | apply PA))) rfl, hw1.cellAt (by (repeat (first | exact P0 | apply P1 | apply PA))) rfl, hw1.cellAt (by (repeat (first | exact P0 | apply P1 | apply PA))) rfl, hw1.cellAt (by (repeat (first | exact P0 | apply P1 | apply PA))) rfl, hrT.ext hw1.ext.ext, Has.off2 (X := [(bF, [.func (.func 88) #[] #[.pointer (some ⟨bD, 0, none⟩), .pointer (some ⟨bT, 0, none⟩), .pointer (some ⟨bO, 0, none⟩), .pointer (some ⟨bF, 0, none⟩), .pointer (some ⟨bM, 0, none⟩)]], some (152, 1, 1)), (bO, [.slice (some ⟨g, 0, none⟩) m m], some (90, 1, 1)), (bT, [.slice AT m cT], some (89, 1, 1)), (bM, [.int .i64 (mm : Nat)], some (3, 1, 1)), (bD, [.int .i64 d.most, .int .i64 d.rest, .int .i64 d.win, .int .i64 d.sum], some (74, 4, 1))]) hw1 (by simp), Has.off2 (X := [(bF, [.func (.func 88) #[] #[.pointer (some ⟨bD, 0, none⟩), .pointer (some ⟨bT, 0, none⟩), .pointer (some ⟨bO, 0, none⟩), .pointer (some ⟨bF, 0, none⟩), .pointer (some ⟨bM, 0, none⟩)]], some (152, 1, 1)), (bO, [.slice (some ⟨g, 0, none⟩) m m], some (90, 1, 1)), (bT, [.slice AT m cT], some (89, 1, 1)), (bM, [.int .i64 (mm : Nat)], some (3, 1, 1)), (bD, [.int .i64 d.most, .int .i64 d.rest, .int .i64 d.win, .int .i64 d.sum], some (74, 4, 1))]) hw1 (by simp), Has.off2 (X := [(bF, [.func (.func 88) #[] #[.pointer (some ⟨bD, 0, none⟩), .pointer (some ⟨bT, 0, none⟩), .pointer (some ⟨bO, 0, none⟩), .pointer (some ⟨bF, 0, none⟩), .pointer (some ⟨bM, 0, none⟩)]], some (152, 1, 1)), (bO, [.slice (some ⟨g, 0, none⟩) m m], some (90, 1, 1)), (bT, [.slice AT m cT], some (89, 1, 1)), (bM, [.int .i64 (mm : Nat)], some (3, 1, 1)), (bD, [.int .i64 d.most, .int .i64 d.rest, .int .i64 d.win, .int .i64 d.sum], some (74, 4, 1))]) hw1 (by simp), Has.off2 (X := [(bF, [.func (.func 88) #[] #[.pointer (some ⟨bD, 0, none⟩), .pointer (some ⟨bT, 0, none⟩), .pointer (some ⟨bO, 0, none⟩), .pointer (some ⟨bF, 0, none⟩), .pointer (some ⟨bM, 0, none⟩)]], some (152, 1, 1)), (bO, [.slice (some ⟨g, 0, none⟩) m m], some (90, 1, 1)), (bT, [.slice AT m cT], some (89, 1, 1)), (bM, [.int .i64 (mm : Nat)], some (3, 1, 1)), (bD, [.int .i64 d.most, .int .i64 d.rest, .int .i64 d.win, .int .i64 d.sum], some (74, 4, 1))]) hw1 (by simp), Has.off2 (X := [(bF, [.func (.func 88) #[] #[.pointer (some ⟨bD, 0, none⟩), .pointer (some ⟨bT, 0, none⟩), .pointer (some ⟨bO, 0, none⟩), .pointer (some ⟨bF, 0, none⟩), .pointer (some ⟨bM, 0, none⟩)]], some (152, 1, 1)), (bO, [.slice (some ⟨g, 0, none⟩) m m], some (90, 1, 1)), (bT, [.slice AT m cT], some (89, 1, 1)), (bM, [.int .i64 (mm : Nat)], some (3, 1, 1)), (bD, [.int .i64 d.most, .int .i64 d.rest, .int .i64 d.win, .int .i64 d.sum], some (74, 4, 1))]) hw1 (by simp), old_off (X := [(bF, [.func (.func 88) #[] #[.pointer (some ⟨bD, 0, none⟩), .pointer (some ⟨bT, 0, none⟩), .pointer (some ⟨bO, 0, none⟩), .pointer (some ⟨bF, 0, none⟩), .pointer (some ⟨bM, 0, none⟩)]], some (152, 1, 1)), (bO, [.slice (some ⟨g, 0, none⟩) m m], some (90, 1, 1)), (bT, [.slice AT m cT], some (89, 1, 1)), (bM, [.int .i64 (mm : Nat)], some (3, 1, 1)), (bD, [.int .i64 d.most, .int .i64 d.rest, .int .i64 d.win, .int .i64 d.sum], some (74, 4, 1))]) hw1 hrT⟩ hw2; rintro v H1 ⟨R5, hok5, rfl, hcs5, rfl⟩; (simp only [Option.isSome_some, Option.isSome_none])) | ((with_reducible apply u_q); (iterate 4 exact rfl))) | ((with_reducible apply rd_id); first | (apply Rd.own; (repeat (first | exact P0 | apply P1 | apply PA)); exact rfl; done)) | ((with_reducible apply t_id); first | (with_reducible apply t_seq) | (apply t_region; kernel_rfl) | ((with_reducible apply t_condT); exact rfl) | (with_reducible apply t_ret)) | with_reducible apply q_thenN | with_reducible apply q_thenR | (with_reducible apply end_ret) | exact rvs_nil | (with_reducible apply rvs_cons) | ((with_reducible apply rv_tmp); exact rfl))
    all_goals exact hbad (by decide) _
  | some rs =>
    rw [hN] at hEd
    simp only [Option.isSome_some, if_true] at hEd
    subst hEd
    have hrl : rs.length = m := by rw [← hlT]; exact tryF_len hNe
    have hL : asgL d l (mm : Nat) ts = rs := by unfold asgL; rw [if_pos hE, hN]; rfl
    repeat' (first | ((with_reducible apply oq_id); first | (apply oq_fn; exact rfl; try first | exact trivial | (and_intros <;> omega)) | ((with_reducible apply oq_load); exact rfl; exact rfl)) | ((with_reducible apply tl_id); first | (with_reducible apply tl_nil) | ((with_reducible apply u_s); (iterate 3 exact rfl); (with_reducible apply os_callM (G := outH g m R0) (R := [(bF, [.func (.func 88) #[] #[.pointer (some ⟨bD, 0, none⟩), .pointer (some ⟨bT, 0, none⟩), .pointer (some ⟨bO, 0, none⟩), .pointer (some ⟨bF, 0, none⟩), .pointer (some ⟨bM, 0, none⟩)]], some (152, 1, 1)), (bO, [.slice (some ⟨g, 0, none⟩) m m], some (90, 1, 1)), (bT, [.slice AT m cT], some (89, 1, 1)), (bM, [.int .i64 (mm : Nat)], some (3, 1, 1)), (bD, [.int .i64 d.most, .int .i64 d.rest, .int .i64 d.win, .int .i64 d.sum], some (74, 4, 1))]) (PV := TryP g m (List.replicate m []) 0 (some rs)) (k := 88) (hc := Try.call88)); exact rfl; exact rfl; exact hp_comm [(bF, [.func (.func 88) #[] #[.pointer (some ⟨bD, 0, none⟩), .pointer (some ⟨bT, 0, none⟩), .pointer (some ⟨bO, 0, none⟩), .pointer (some ⟨bF, 0, none⟩), .pointer (some ⟨bM, 0, none⟩)]], some (152, 1, 1)), (bO, [.slice (some ⟨g, 0, none⟩) m m], some (90, 1, 1)), (bT, [.slice AT m cT], some (89, 1, 1)), (bM, [.int .i64 (mm : Nat)], some (3, 1, 1)), (bD, [.int .i64 d.most, .int .i64 d.rest, .int .i64 d.win, .int .i64 d.sum], some (74, 4, 1))] _; exact fun D w1 hw1 hw2 => htry w1 (hr.ext hw1.ext.ext) (old_off (X := [(bF, [.func (.func 88) #[] #[.pointer (some ⟨bD, 0, none⟩), .pointer (some ⟨bT, 0, none⟩), .pointer (some ⟨bO, 0, none⟩), .pointer (some ⟨bF, 0, none⟩), .pointer (some ⟨bM, 0, none⟩)]], some (152, 1, 1)), (bO, [.slice (some ⟨g, 0, none⟩) m m], some (90, 1, 1)), (bT, [.slice AT m cT], some (89, 1, 1)), (bM, [.int .i64 (mm : Nat)], some (3, 1, 1)), (bD, [.int .i64 d.most, .int .i64 d.rest, .int .i64 d.win, .int .i64 d.sum], some (74, 4, 1))]) hw1 hr) ⟨hw1.cellAt (by (repeat (first | exact P0 | apply P1 | apply PA))) rfl, hw1.cellAt (by (repeat (first | exact P0 | apply P1 | apply PA))) rfl, hw1.cellAt (by (repeat (first | exact P0 | apply P1 | apply PA))) rfl, hw1.cellAt (by (repeat (first | exact P0 | apply P1 | apply PA))) rfl, hw1.cellAt (by (repeat (first | exact P0 | apply P1 | apply PA))) rfl, hw1.cellAt (by (repeat (first | exact P0 | apply P1 | apply PA))) rfl, hw1.cellAt (by (repeat (first | exact P0 | apply P1 | apply PA))) rfl, hw1.cellAt (by (repeat (first | exact P0 | apply P1 | apply PA))) rfl, hrT.ext hw1.ext.ext, Has.off2 (X := [(bF, [.func (.func 88) #[] #[.pointer (some ⟨bD, 0, none⟩), .pointer (some ⟨bT, 0, none⟩), .pointer (some ⟨bO, 0, none⟩), .pointer (some ⟨bF, 0, none⟩), .pointer (some ⟨bM, 0, none⟩)]], some (152, 1, 1)), (bO, [.slice (some ⟨g, 0, none⟩) m m], some (90, 1, 1)), (bT, [.slice AT m cT], some (89, 1, 1)), (bM, [.int .i64 (mm : Nat)], some (3, 1, 1)), (bD, [.int .i64 d.most, .int .i64 d.rest, .int .i64 d.win, .int .i64 d.sum], some (74, 4, 1))]) hw1 (by simp), Has.off2 (X := [(bF, [.func (.func 88) #[] #[.pointer (some ⟨bD, 0, none⟩), .pointer (some ⟨bT, 0, none⟩), .pointer (some ⟨bO, 0, none⟩), .pointer (some ⟨bF, 0, none⟩), .pointer (some ⟨bM, 0, none⟩)]], some (152, 1, 1)), (bO, [.slice (some ⟨g, 0, none⟩) m m], some (90, 1, 1)), (bT, [.slice AT m cT], some (89, 1, 1)), (bM, [.int .i64 (mm : Nat)], some (3, 1, 1)), (bD, [.int .i64 d.most, .int .i64 d.rest, .int .i64 d.win, .int .i64 d.sum], some (74, 4, 1))]) hw1 (by simp), Has.off2 (X := [(bF, [.func (.func 88) #[] #[.pointer (some ⟨bD, 0, none⟩), .pointer (some ⟨bT, 0, none⟩), .pointer (some ⟨bO, 0, none⟩), .pointer (some ⟨bF, 0, none⟩), .pointer (some ⟨bM, 0, none⟩)]], some (152, 1, 1)), (bO, [.slice (some ⟨g, 0, none⟩) m m], some (90, 1, 1)), (bT, [.slice AT m cT], some (89, 1, 1)), (bM, [.int .i64 (mm : Nat)], some (3, 1, 1)), (bD, [.int .i64 d.most, .int .i64 d.rest, .int .i64 d.win, .int .i64 d.sum], some (74, 4, 1))]) hw1 (by simp), Has.off2 (X := [(bF, [.func (.func 88) #[] #[.pointer (some ⟨bD, 0, none⟩), .pointer (some ⟨bT, 0, none⟩), .pointer (some ⟨bO, 0, none⟩), .pointer (some ⟨bF, 0, none⟩), .pointer (some ⟨bM, 0, none⟩)]], some (152, 1, 1)), (bO, [.slice (some ⟨g, 0, none⟩) m m], some (90, 1, 1)), (bT, [.slice AT m cT], some (89, 1, 1)), (bM, [.int .i64 (mm : Nat)], some (3, 1, 1)), (bD, [.int .i64 d.most, .int .i64 d.rest, .int .i64 d.win, .int .i64 d.sum], some (74, 4, 1))]) hw1 (by simp), Has.off2 (X := [(bF, [.func (.func 88) #[] #[.pointer (some ⟨bD, 0, none⟩), .pointer (some ⟨bT, 0, none⟩), .pointer (some ⟨bO, 0, none⟩), .pointer (some ⟨bF, 0, none⟩), .pointer (some ⟨bM, 0, none⟩)]], some (152, 1, 1)), (bO, [.slice (some ⟨g, 0, none⟩) m m], some (90, 1, 1)), (bT, [.slice AT m cT], some (89, 1, 1)), (bM, [.int .i64 (mm : Nat)], some (3, 1, 1)), (bD, [.int .i64 d.most, .int .i64 d.rest, .int .i64 d.win, .int .i64 d.sum], some (74, 4, 1))]) hw1 (by simp), old_off (X := [(bF, [.func (.func 88) #[] #[.pointer (some ⟨bD, 0, none⟩), .pointer (some ⟨bT, 0, none⟩), .pointer (some ⟨bO, 0, none⟩), .pointer (some ⟨bF, 0, none⟩), .pointer (some ⟨bM, 0, none⟩)]], some (152, 1, 1)), (bO, [.slice (some ⟨g, 0, none⟩) m m], some (90, 1, 1)), (bT, [.slice AT m cT], some (89, 1, 1)), (bM, [.int .i64 (mm : Nat)], some (3, 1, 1)), (bD, [.int .i64 d.most, .int .i64 d.rest, .int .i64 d.win, .int .i64 d.sum], some (74, 4, 1))]) hw1 hrT⟩ hw2; rintro v H1 ⟨R5, hok5, rfl, hcs5, rfl⟩; (simp only [Option.isSome_some, Option.isSome_none])) | ((with_reducible apply u_q); (iterate 4 exact rfl))) | ((with_reducible apply rd_id); first | (apply Rd.own; (repeat (first | exact P0 | apply P1 | apply PA)); exact rfl; done)) | ((with_reducible apply t_id); first | (with_reducible apply t_seq) | (apply t_region; kernel_rfl) | ((with_reducible apply t_condF); exact rfl) | (with_reducible apply t_ret) | (with_reducible apply t_skip)) | with_reducible apply q_thenN | (with_reducible apply end_ret) | exact rvs_nil | (with_reducible apply rvs_cons) | ((with_reducible apply rv_tmp); exact rfl))
    all_goals (refine ⟨outH g m R5, .inr ⟨hE, g, R5, hok5, ?_, ?_, ?_⟩, hp_left⟩)
    · rw [hL, hcs5]; rfl
    · rw [hL, hrl]; rfl
    · rw [hL, hrl]
end Go.Proofs.Ytmlmgipngbndgaa
namespace Go.Proofs.Ytmlmgipngbndgaa
def shR (x : Tr) (r : List Int) : List Sh := r.map fun p => ⟨p, x.fr, x.to⟩
def addF : List Tr → List (List Int) → List Sh
  | x :: ts, r :: rs => shR x r ++ addF ts rs
  | _, _ => []
/-- A row of people that may be. -/
def rwOk (mem : Nat) (r : List Int) : Prop := r.Pairwise (· < ·) ∧ ∀ p ∈ r, 0 ≤ p ∧ p < mem
/-- Trips that are manned. -/
def Mand (d : Du) (mem : Nat) : List Tr → List Int → List Sh → List (List Int) → Prop
  | [], _, l, [] => okB d l = true
  | x :: ts, cur, l, r :: rs => ∃ e, r = cur ++ e ∧ (r.length : Int) = x.crew ∧ rwOk mem r ∧ Mand d mem ts [] (l ++ shR x e) rs
  | _, _, _, _ => False
theorem tryF_mand {d : Du} {mem : Nat} : ∀ {f : Nat} {ts : List Tr} {cur : List Int} {who : Nat} {l : List Sh} {R : List (List Int)}, tryF d mem f ts cur who l = some R → rwOk mem cur → (∀ p ∈ cur, p < who) → Mand d mem ts cur l R
  | 0, ts, cur, who, l, R, h, _, _ => by unfold tryF at h; cases h
  | f + 1, ts, cur, who, l, R, h, hc, hw => by
    cases ho : okB d l with
    | false => rw [tryF_bad ho] at h; cases h
    | true =>
      cases ts with
      | nil => rw [tryF_end ho] at h; cases h; exact ho
      | cons x ts =>
        by_cases hx : (cur.length : Int) = x.crew
        · rw [tryF_full ho hx] at h
          obtain ⟨R', h1, rfl⟩ := Option.map_eq_some_iff.1 h
          have := tryF_mand h1 ⟨List.Pairwise.nil, fun p hp => by cases hp⟩ (fun p hp => by cases hp)
          exact ⟨[], by simp, hx, hc, by simpa [shR] using this⟩
        · rw [tryF_loop ho hx] at h
          obtain ⟨k, hk, h1⟩ := List.exists_of_findSome?_eq_some h
          have hk' := List.mem_range'_1.1 hk
          have := tryF_mand h1 ⟨List.pairwise_append.2 ⟨hc.1, List.pairwise_singleton .., fun a ha b hb => by
              have := hw a ha
              simp only [List.mem_singleton] at hb
              omega⟩, fun p hp => by
            rcases List.mem_append.1 hp with hp | hp
            · exact hc.2 p hp
            · simp only [List.mem_singleton] at hp; omega⟩ (fun p hp => by
            rcases List.mem_append.1 hp with hp | hp
            · have := hw p hp; omega
            · simp only [List.mem_singleton] at hp; omega)
          cases R with
          | nil => exact this.elim
          | cons r R =>
            obtain ⟨e, he, h2, h3, h4⟩ := this
            refine ⟨(k : Int) :: e, by rw [he]; simp, h2, h3, ?_⟩
            have hs : l ++ shR x ((k : Int) :: e) = l ++ [⟨(k : Int), x.fr, x.to⟩] ++ shR x e := by simp [shR]
            rw [hs]; exact h4
theorem Mand.at {d : Du} {mem : Nat} : ∀ {ts : List Tr} {l : List Sh} {R : List (List Int)}, Mand d mem ts [] l R → R.length = ts.length ∧ (∀ (i : Nat) x r, ts[i]? = some x → R[i]? = some r → (r.length : Int) = x.crew ∧ rwOk mem r) ∧ okB d (l ++ addF ts R) = true
  | [], l, [], h => ⟨rfl, fun i x r hx => by simp at hx, by have h' : okB d l = true := h; simpa [addF] using h'⟩
  | x :: ts, l, r :: R, ⟨e, he, h1, h2, h3⟩ => by
    obtain ⟨k1, k2, k3⟩ := h3.at
    simp only [List.nil_append] at he
    subst he
    refine ⟨by simp [k1], fun i y q hy hq => ?_, by simpa [addF] using k3⟩
    cases i with
    | zero => simp only [List.getElem?_cons_zero, Option.some.injEq] at hy hq; subst hy; subst hq; exact ⟨h1, h2⟩
    | succ i => simp only [List.getElem?_cons_succ] at hy hq; exact k2 i y q hy hq
  | [], l, r :: R, h => h.elim
  | x :: ts, l, [], h => h.elim
def ltL (m r : List Int) : Prop := ∃ k a b, m.take k = r.take k ∧ m[k]? = some a ∧ r[k]? = some b ∧ a < b
/-- One answer is no later than another. -/
def lexR : List (List Int) → List (List Int) → Prop
  | [], [] => True
  | m :: M, r :: R => m.length = r.length ∧ (ltL m r ∨ (m = r ∧ lexR M R))
  | _, _ => False
/-- Where they first differ. -/
theorem lexR.at : ∀ {M R : List (List Int)}, lexR M R → ∀ {i j : Nat} {m r : List Int} {b : Int}, M.take i = R.take i → M[i]? = some m → R[i]? = some r → m.take j = r.take j → r[j]? = some b → ∃ a, m[j]? = some a ∧ a ≤ b
  | [], [], _, i, j, m, r, b, _, hm, _, _, _ => by simp at hm
  | m0 :: M, r0 :: R, ⟨h1, h2⟩, 0, j, m, r, b, _, hm, hr, ht, hb => by
    simp only [List.getElem?_cons_zero, Option.some.injEq] at hm hr
    subst hm; subst hr
    rcases h2 with ⟨k, a, c, k1, k2, k3, k4⟩ | ⟨rfl, _⟩
    · have hj := (List.getElem?_eq_some_iff.1 hb).1
      have hjm : j < m0.length := by omega
      refine ⟨m0[j], List.getElem?_eq_getElem hjm, ?_⟩
      by_cases hjk : j < k
      · have e1 : (m0.take k)[j]? = (r0.take k)[j]? := by rw [k1]
        rw [List.getElem?_take_of_lt hjk, List.getElem?_take_of_lt hjk, hb, List.getElem?_eq_getElem hjm] at e1
        have := Option.some.inj e1; omega
      · by_cases hjk2 : j = k
        · subst hjk2
          rw [k3] at hb; rw [List.getElem?_eq_getElem hjm] at k2
          have := Option.some.inj k2; have := Option.some.inj hb; omega
        · have e1 : (m0.take j)[k]? = (r0.take j)[k]? := by rw [ht]
          rw [List.getElem?_take_of_lt (by omega), List.getElem?_take_of_lt (by omega), k2, k3] at e1
          have := Option.some.inj e1; omega
    · exact ⟨b, hb, Int.le_refl _⟩
  | m0 :: M, r0 :: R, ⟨h1, h2⟩, i + 1, j, m, r, b, hM, hm, hr, ht, hb => by
    simp only [List.take_succ_cons, List.cons.injEq] at hM
    simp only [List.getElem?_cons_succ] at hm hr
    rcases h2 with ⟨k, a, c, k1, k2, k3, k4⟩ | ⟨_, h3⟩
    · rw [hM.1] at k2
      rw [k2] at k3; have := Option.some.inj k3; omega
    · exact lexR.at h3 hM.2 hm hr ht hb
  | [], r0 :: R, h, _, _, _, _, _, _, _, _, _, _ => h.elim
  | m0 :: M, [], h, _, _, _, _, _, _, _, _, _, _ => h.elim
theorem asgE_ok {d : Du} {l : List Sh} {mem : Int} {ts : List Tr} (h : asgE d l mem ts = 0) : tiE d l = 0 ∧ (0 ≤ mem ∧ mem ≤ 6) ∧ ts.length ≤ 4 ∧ (∀ x ∈ ts, trOk x) ∧ asgN d l mem ts = some (asgL d l mem ts) := by
  have h' := h
  unfold asgE at h
  by_cases h0 : tiE d l = 0
  · rw [if_pos h0] at h
    by_cases h1 : 0 ≤ mem ∧ mem ≤ 6
    · rw [if_pos h1] at h
      by_cases h2 : 4 < ts.length
      · rw [if_pos h2] at h; omega
      · rw [if_neg h2] at h
        by_cases h3 : 0 ≤ oddI ts
        · rw [if_pos h3] at h; omega
        · rw [if_neg h3] at h
          cases hN : asgN d l mem ts with
          | none => rw [hN] at h; simp at h
          | some N => exact ⟨h0, h1, by omega, oddI_neg.1 (by omega), by unfold asgL; rw [if_pos h', hN]; rfl⟩
    · rw [if_neg h1] at h; omega
  · rw [if_neg h0] at h; exact absurd h h0
theorem shR_len (x : Tr) (r : List Int) : (shR x r).length = r.length := by unfold shR; simp
open Go.RowKit
theorem rd_out {c : Cx} {H : Hp} {g m i : Nat} {R : List Row} {xs : List Int} {o : Option (Nat × Nat)} (h : R[i]? = some (xs, o)) (hs : HpSub H (outH g m R)) : Rd c H ⟨g, 0 + i * 1, none⟩ (.slice (clA o) xs.length (clC o)) := fun D w hw =>
  ((hw.sub hs).blk _ (List.mem_cons_self ..)).2.cell (by rw [Nat.zero_add, Nat.mul_one, List.getElem?_map, h]; rfl)
theorem row_nn {R : List Row} (h : ∀ r ∈ R, LrOk r) {i : Nat} {xs : List Int} {o : Option (Nat × Nat)} (hx : R[i]? = some (xs, o)) (hn : 0 < xs.length) : ∃ g c, o = some (g, c) := by
  cases o with
  | some p => exact ⟨p.1, p.2, rfl⟩
  | none =>
    have := (h _ (List.mem_of_getElem? hx)).1 rfl
    simp only at this
    omega
theorem hp_leftX : ∀ (G R : Hp), HpSub (G ++ R) G
  | [], R => HpSub.nil
  | x :: G, R => HpSub.front (hp_leftX G R)
theorem okB_pre {d : Du} {l m : List Sh} (h : okB d (l ++ m) = true) : okB d l = true := by
  unfold okB at h ⊢
  simp only [Bool.and_eq_true, decide_eq_true_eq, List.isEmpty_iff] at h ⊢
  refine ⟨h.1.sub, ?_⟩
  cases ht : tiV d l with
  | nil => rfl
  | cons y t =>
    have h1 : y ∈ tiV d l := by rw [ht]; exact List.mem_cons_self
    have h2 := (mem_tiV h.1).2 (((mem_tiV h.1.sub).1 h1).more m)
    rw [h.2] at h2; cases h2
/-- The pairs that begin with a person. -/
def pairsL (mem i : Nat) : List (List Int) := (List.range' (i + 1) (mem - (i + 1))).map fun j : Nat => [(i : Int), (j : Int)]
/-- The teams of so many people. -/
def teamsL (mem : Nat) (k : Int) : List (List Int) :=
  if k = 0 then [[]] else (List.range' 0 mem).flatMap fun i : Nat => (if k = 1 then [[(i : Int)]] else []) ++ (if k = 2 then pairsL mem i else [])
/-- The first way to man trips, team by team. -/
def manF (d : Du) (mem : Nat) : List Tr → List Sh → Option (List (List Int))
  | [], l => if okB d l = true then some [] else none
  | x :: ts, l => if okB d l = true then (teamsL mem x.crew).findSome? fun t => (manF d mem ts (l ++ shR x t)).map (t :: ·) else none
theorem manF_bad {d : Du} {mem : Nat} {ts : List Tr} {l : List Sh} (h : okB d l = false) : manF d mem ts l = none := by
  cases ts with
  | nil => unfold manF; rw [if_neg (by rw [h]; decide)]
  | cons x ts => unfold manF; rw [if_neg (by rw [h]; decide)]
theorem findSome_flat {α β γ : Type} {F : β → Option γ} {G : α → List β} : ∀ {L : List α}, (L.flatMap G).findSome? F = L.findSome? fun a => (G a).findSome? F
  | [] => rfl
  | a :: L => by
    rw [List.flatMap_cons, List.findSome?_append, List.findSome?_cons, findSome_flat]
    cases (G a).findSome? F <;> rfl
theorem findSome_cong {α β : Type} {F G : α → Option β} : ∀ {L : List α}, (∀ a ∈ L, F a = G a) → L.findSome? F = L.findSome? G
  | [], _ => rfl
  | a :: L, h => by
    rw [List.findSome?_cons, List.findSome?_cons, h a List.mem_cons_self, findSome_cong fun b hb => h b (List.mem_cons_of_mem _ hb)]
theorem findSome_none {α β : Type} {F : α → Option β} : ∀ {L : List α}, (∀ a ∈ L, F a = none) → L.findSome? F = none
  | [], _ => rfl
  | a :: L, h => by
    rw [List.findSome?_cons, h a List.mem_cons_self, findSome_none fun b hb => h b (List.mem_cons_of_mem _ hb)]
theorem findSome_one {α β : Type} {F : α → Option β} (a : α) : [a].findSome? F = F a := by
  rw [List.findSome?_cons]; cases F a <;> rfl
theorem manF_eq {d : Du} {mem : Nat} : ∀ {ts : List Tr} {f : Nat} {l : List Sh}, (∀ x ∈ ts, trOk x) → dep ts ≤ f → tryF d mem f ts [] 0 l = manF d mem ts l
  | [], 0, l, _, hf => by unfold dep at hf; omega
  | [], f + 1, l, _, _ => by
    cases ho : okB d l with
    | false => rw [tryF_bad ho, manF_bad ho]
    | true => rw [tryF_end ho]; unfold manF; rw [if_pos ho]
  | x :: ts, 0, l, _, hf => by unfold dep at hf; omega
  | x :: ts, f + 1, l, hk, hf => by
    have hx := hk x List.mem_cons_self
    have hk' : ∀ y ∈ ts, trOk y := fun y hy => hk y (List.mem_cons_of_mem _ hy)
    unfold trOk at hx
    unfold dep at hf
    cases ho : okB d l with
    | false => rw [tryF_bad ho, manF_bad ho]
    | true =>
      unfold manF
      rw [if_pos ho]
      by_cases h0 : x.crew = 0
      · rw [tryF_full ho (by simp [h0])]
        unfold teamsL
        rw [if_pos h0, findSome_one, manF_eq hk' (by omega)]
        simp [shR]
      · rw [tryF_loop ho (by simp; omega)]
        unfold teamsL
        rw [if_neg h0, findSome_flat, Nat.sub_zero]
        refine findSome_cong fun k hkm => ?_
        have hkk := List.mem_range'_1.1 hkm
        obtain ⟨g, rfl⟩ : ∃ g, f = g + 1 := ⟨f - 1, by have : 1 ≤ dep ts := dep_pos ts; omega⟩
        by_cases h1 : x.crew = 1
        · rw [if_pos h1, if_neg (by omega), List.append_nil, findSome_one]
          simp only [List.nil_append]
          have e : shR x [(k : Int)] = [⟨(k : Int), x.fr, x.to⟩] := rfl
          rw [e]
          cases hb : okB d (l ++ [⟨(k : Int), x.fr, x.to⟩]) with
          | false => rw [tryF_bad hb, manF_bad hb]; rfl
          | true => rw [tryF_full hb (by simp [h1]), manF_eq hk' (by omega)]
        · have h2 : x.crew = 2 := by omega
          rw [if_neg h1, if_pos h2, List.nil_append]
          simp only [List.nil_append]
          unfold pairsL
          rw [List.findSome?_map]
          have e2 : ∀ j : Nat, shR x [(k : Int), (j : Int)] = [⟨(k : Int), x.fr, x.to⟩] ++ [⟨(j : Int), x.fr, x.to⟩] := fun j => rfl
          cases hb : okB d (l ++ [⟨(k : Int), x.fr, x.to⟩]) with
          | false =>
            rw [tryF_bad hb]
            refine (findSome_none fun j _ => ?_).symm
            have hb2 : okB d (l ++ shR x [(k : Int), (j : Int)]) = false := by
              cases hq : okB d (l ++ shR x [(k : Int), (j : Int)]) with
              | false => rfl
              | true =>
                rw [e2, ← List.append_assoc] at hq
                rw [okB_pre hq] at hb; cases hb
            simp only [Function.comp]
            rw [manF_bad hb2]; rfl
          | true =>
            rw [tryF_loop hb (by simp [h2])]
            refine findSome_cong fun j hjm => ?_
            simp only [Function.comp]
            rw [e2, ← List.append_assoc]
            obtain ⟨q, rfl⟩ : ∃ q, g = q + 1 := ⟨g - 1, by have : 1 ≤ dep ts := dep_pos ts; omega⟩
            have e3 : [(k : Int)] ++ [(j : Int)] = [(k : Int), (j : Int)] := rfl
            rw [e3]
            cases hc : okB d (l ++ [⟨(k : Int), x.fr, x.to⟩] ++ [⟨(j : Int), x.fr, x.to⟩]) with
            | false => rw [tryF_bad hc, manF_bad hc]; rfl
            | true => rw [tryF_full hc (by simp [h2]), manF_eq hk' (by omega)]
theorem asgN_man {d : Du} {l : List Sh} {mem : Int} {ts : List Tr} (h : ∀ x ∈ ts, trOk x) (hl : ts.length ≤ 4) : asgN d l mem ts = manF d mem.toNat ts l := by
  unfold asgN
  exact manF_eq h (by have := dep_le h; omega)
end Go.Proofs.Ytmlmgipngbndgaa
namespace Go.Proofs.Ytmlmgipngbndgaa
open Go.RowKit
attribute [local irreducible] OQ OS OX Rd T TL GX GL AL AI RV wpG SAny Calls
theorem sh_read {w : World} {A : Option Addr} {n : Nat} {l : List Sh} (h : RdS w 3 A n (l.map shCells)) {i : Nat} (hi : i < n) :
    ∃ b o x, A = some ⟨b, o, none⟩ ∧ b < w.heap.size ∧ l[i]? = some x ∧ w.cell? ⟨b, o + i * 3, none⟩ = some (.int .i64 x.who) ∧ w.cell? ⟨b, o + i * 3 + 1, none⟩ = some (.int .i64 x.fr) ∧ w.cell? ⟨b, o + i * 3 + 2, none⟩ = some (.int .i64 x.to) := by
  obtain ⟨b, o, cs, hA, hb, hx, _, hc⟩ := h.row hi
  simp only [List.getElem?_map, Option.map_eq_some_iff] at hx
  obtain ⟨x, hx, rfl⟩ := hx
  exact ⟨b, o, x, hA, hb, hx, hc 0 _ rfl, hc 1 _ rfl, hc 2 _ rfl⟩
theorem allFrom_1 {lo hi z : Int} : allFrom lo hi [z] = true ↔ lo ≤ z ∧ z ≤ hi := by
  unfold allFrom; simp
theorem refDuty_calls (d : Du) (w : World) : Calls Try.prog 45 #[.agg #[.int .i64 d.most, .int .i64 d.rest, .int .i64 d.win, .int .i64 d.sum]] w fun e w' => e = .returned (.int .i64 (duE d)) ∧ Ext w w' := by
  obtain ⟨q1, hq1⟩ : ∃ q, allFrom 1 100000 [d.most] = q := ⟨_, rfl⟩
  obtain ⟨q2, hq2⟩ : ∃ q, allFrom 0 100000 [d.rest] = q := ⟨_, rfl⟩
  obtain ⟨q3, hq3⟩ : ∃ q, allFrom 1 100000 [d.win] = q := ⟨_, rfl⟩
  obtain ⟨q4, hq4⟩ : ∃ q, allFrom 0 d.win [d.sum] = q := ⟨_, rfl⟩
  have e1 : q1 = true ↔ 1 ≤ d.most ∧ d.most ≤ 100000 := by rw [← hq1]; exact allFrom_1
  have e2 : q2 = true ↔ 0 ≤ d.rest ∧ d.rest ≤ 100000 := by rw [← hq2]; exact allFrom_1
  have e3 : q3 = true ↔ 1 ≤ d.win ∧ d.win ≤ 100000 := by rw [← hq3]; exact allFrom_1
  have e4 : q4 = true ↔ 0 ≤ d.sum ∧ d.sum ≤ d.win := by rw [← hq4]; exact allFrom_1
  have hdu : duB d ↔ q1 = true ∧ q2 = true ∧ q3 = true ∧ q4 = true := by rw [e1, e2, e3, e4]; unfold duB; omega
  unfold duE
  cases q1 with
  | false =>
    rw [if_neg (fun h => by have := (hdu.1 h).1; cases this)]
    refine enterQ (c := cx w 27) Try.func45 rfl rfl rfl rfl ?_
    repeat' (first | ((with_reducible apply oq_id); first | (apply oq_fn; exact rfl; try first | exact trivial | (and_intros <;> omega)) | ((with_reducible apply oq_load); exact rfl; exact rfl) | ((with_reducible apply oq_call (k := 66) (hc := Try.call66)); exact rfl; exact rfl; exact fun D w1 hw1 => withinQ hq1 w1)) | ((with_reducible apply tl_id); first | (with_reducible apply tl_nil) | ((with_reducible apply u_q); (iterate 4 exact rfl)) | ((with_reducible apply u_s); (iterate 3 exact rfl)) | ((with_reducible apply u_skip); (iterate 3 exact rfl))) | ((with_reducible apply os_x); exact rfl) | ((with_reducible apply ox_boxAgg); exact rfl; intro _) | ((with_reducible apply rd_id); first | (apply Rd.own; (repeat (first | exact P0 | apply P1)); exact rfl; done)) | ((with_reducible apply t_id); first | (with_reducible apply t_seq) | (apply t_region; kernel_rfl) | ((with_reducible apply t_condT); exact rfl) | (with_reducible apply t_ret)) | with_reducible apply q_thenN | with_reducible apply q_thenR | (with_reducible apply end_ret) | exact rvs_nil | (with_reducible apply rvs_cons) | ((with_reducible apply rv_tmp); exact rfl))
    all_goals rfl
  | true =>
    cases q2 with
    | false =>
      rw [if_neg (fun h => by have := (hdu.1 h).2.1; cases this)]
      refine enterQ (c := cx w 27) Try.func45 rfl rfl rfl rfl ?_
      repeat' (first | ((with_reducible apply oq_id); first | (apply oq_fn; exact rfl; try first | exact trivial | (and_intros <;> omega)) | ((with_reducible apply oq_load); exact rfl; exact rfl) | ((with_reducible apply oq_call (k := 66) (hc := Try.call66)); exact rfl; exact rfl; exact fun D w1 hw1 => withinQ hq1 w1) | ((with_reducible apply oq_call (k := 66) (hc := Try.call66)); exact rfl; exact rfl; exact fun D w1 hw1 => withinQ hq2 w1)) | ((with_reducible apply tl_id); first | (with_reducible apply tl_nil) | ((with_reducible apply u_q); (iterate 4 exact rfl)) | ((with_reducible apply u_s); (iterate 3 exact rfl)) | ((with_reducible apply u_skip); (iterate 3 exact rfl))) | ((with_reducible apply os_x); exact rfl) | ((with_reducible apply ox_boxAgg); exact rfl; intro _) | ((with_reducible apply rd_id); first | (apply Rd.own; (repeat (first | exact P0 | apply P1)); exact rfl; done)) | ((with_reducible apply t_id); first | (with_reducible apply t_seq) | (apply t_region; kernel_rfl) | ((with_reducible apply t_condT); exact rfl) | (with_reducible apply t_ret)) | with_reducible apply q_thenN | with_reducible apply q_thenR | (with_reducible apply end_ret) | exact rvs_nil | (with_reducible apply rvs_cons) | ((with_reducible apply rv_tmp); exact rfl))
      all_goals rfl
    | true =>
      cases q3 with
      | false =>
        rw [if_neg (fun h => by have := (hdu.1 h).2.2.1; cases this)]
        refine enterQ (c := cx w 27) Try.func45 rfl rfl rfl rfl ?_
        repeat' (first | ((with_reducible apply oq_id); first | (apply oq_fn; exact rfl; try first | exact trivial | (and_intros <;> omega)) | ((with_reducible apply oq_load); exact rfl; exact rfl) | ((with_reducible apply oq_call (k := 66) (hc := Try.call66)); exact rfl; exact rfl; exact fun D w1 hw1 => withinQ hq1 w1) | ((with_reducible apply oq_call (k := 66) (hc := Try.call66)); exact rfl; exact rfl; exact fun D w1 hw1 => withinQ hq2 w1) | ((with_reducible apply oq_call (k := 66) (hc := Try.call66)); exact rfl; exact rfl; exact fun D w1 hw1 => withinQ hq3 w1)) | ((with_reducible apply tl_id); first | (with_reducible apply tl_nil) | ((with_reducible apply u_q); (iterate 4 exact rfl)) | ((with_reducible apply u_s); (iterate 3 exact rfl)) | ((with_reducible apply u_skip); (iterate 3 exact rfl))) | ((with_reducible apply os_x); exact rfl) | ((with_reducible apply ox_boxAgg); exact rfl; intro _) | ((with_reducible apply rd_id); first | (apply Rd.own; (repeat (first | exact P0 | apply P1)); exact rfl; done)) | ((with_reducible apply t_id); first | (with_reducible apply t_seq) | (apply t_region; kernel_rfl) | ((with_reducible apply t_condT); exact rfl) | (with_reducible apply t_ret)) | with_reducible apply q_thenN | with_reducible apply q_thenR | (with_reducible apply end_ret) | exact rvs_nil | (with_reducible apply rvs_cons) | ((with_reducible apply rv_tmp); exact rfl))
        all_goals rfl
      | true =>
        cases q4 with
        | false =>
          rw [if_neg (fun h => by have := (hdu.1 h).2.2.2; cases this)]
          refine enterQ (c := cx w 27) Try.func45 rfl rfl rfl rfl ?_
          repeat' (first | ((with_reducible apply oq_id); first | (apply oq_fn; exact rfl; try first | exact trivial | (and_intros <;> omega)) | ((with_reducible apply oq_load); exact rfl; exact rfl) | ((with_reducible apply oq_call (k := 66) (hc := Try.call66)); exact rfl; exact rfl; exact fun D w1 hw1 => withinQ hq1 w1) | ((with_reducible apply oq_call (k := 66) (hc := Try.call66)); exact rfl; exact rfl; exact fun D w1 hw1 => withinQ hq2 w1) | ((with_reducible apply oq_call (k := 66) (hc := Try.call66)); exact rfl; exact rfl; exact fun D w1 hw1 => withinQ hq3 w1) | ((with_reducible apply oq_call (k := 66) (hc := Try.call66)); exact rfl; exact rfl; exact fun D w1 hw1 => withinQ hq4 w1)) | ((with_reducible apply tl_id); first | (with_reducible apply tl_nil) | ((with_reducible apply u_q); (iterate 4 exact rfl)) | ((with_reducible apply u_s); (iterate 3 exact rfl))) | ((with_reducible apply os_x); exact rfl) | ((with_reducible apply ox_boxAgg); exact rfl; intro _) | ((with_reducible apply rd_id); first | (apply Rd.own; (repeat (first | exact P0 | apply P1)); exact rfl; done)) | ((with_reducible apply t_id); first | (with_reducible apply t_seq) | (apply t_region; kernel_rfl) | ((with_reducible apply t_condT); exact rfl) | (with_reducible apply t_ret)) | with_reducible apply q_thenN | with_reducible apply q_thenR | (with_reducible apply end_ret) | exact rvs_nil | (with_reducible apply rvs_cons) | ((with_reducible apply rv_tmp); exact rfl))
          all_goals rfl
        | true =>
          rw [if_pos (hdu.2 ⟨rfl, rfl, rfl, rfl⟩)]
          refine enterQ (c := cx w 27) Try.func45 rfl rfl rfl rfl ?_
          repeat' (first | ((with_reducible apply oq_id); first | (apply oq_fn; exact rfl; try first | exact trivial | (and_intros <;> omega)) | ((with_reducible apply oq_load); exact rfl; exact rfl) | ((with_reducible apply oq_call (k := 66) (hc := Try.call66)); exact rfl; exact rfl; exact fun D w1 hw1 => withinQ hq1 w1) | ((with_reducible apply oq_call (k := 66) (hc := Try.call66)); exact rfl; exact rfl; exact fun D w1 hw1 => withinQ hq2 w1) | ((with_reducible apply oq_call (k := 66) (hc := Try.call66)); exact rfl; exact rfl; exact fun D w1 hw1 => withinQ hq3 w1) | ((with_reducible apply oq_call (k := 66) (hc := Try.call66)); exact rfl; exact rfl; exact fun D w1 hw1 => withinQ hq4 w1)) | ((with_reducible apply tl_id); first | (with_reducible apply tl_nil) | ((with_reducible apply u_q); (iterate 4 exact rfl)) | ((with_reducible apply u_s); (iterate 3 exact rfl))) | ((with_reducible apply os_x); exact rfl) | ((with_reducible apply ox_boxAgg); exact rfl; intro _) | ((with_reducible apply rd_id); first | (apply Rd.own; (repeat (first | exact P0 | apply P1)); exact rfl; done)) | ((with_reducible apply t_id); first | (with_reducible apply t_seq) | (apply t_region; kernel_rfl) | ((with_reducible apply t_condF); exact rfl) | (with_reducible apply t_ret) | (with_reducible apply t_skip)) | with_reducible apply q_thenN | (with_reducible apply end_ret) | exact rvs_nil | (with_reducible apply rvs_cons) | ((with_reducible apply rv_tmp); exact rfl))
          all_goals rfl
theorem ros_bad {l : List Sh} {i : Nat} {x : Sh} (hx : l[i]? = some x) (h : ¬ shOk x ∨ ∃ j y, j < i ∧ l[j]? = some y ∧ lap y x) : ¬ Ros l := fun hr => by
  rcases h with h | ⟨j, y, hj, hy, hl⟩
  · exact h (hr.1 x (List.mem_of_getElem? hx))
  · obtain ⟨h1, rfl⟩ := List.getElem?_eq_some_iff.1 hx
    obtain ⟨h2, rfl⟩ := List.getElem?_eq_some_iff.1 hy
    exact List.pairwise_iff_getElem.1 hr.2 j i h2 h1 hj hl
theorem ros_next {l : List Sh} {i : Nat} {x : Sh} (hx : l[i]? = some x) (hr : Ros (l.take i)) (ho : shOk x) (hl : ∀ j y, j < i → l[j]? = some y → ¬ lap y x) : Ros (l.take (i + 1)) := by
  rw [List.take_add_one, hx]
  refine ⟨fun y hy => ?_, List.pairwise_append.2 ⟨hr.2, List.pairwise_singleton _ _, fun y hy z hz => ?_⟩⟩
  · rcases List.mem_append.1 hy with hy | hy
    · exact hr.1 y hy
    · obtain rfl : y = x := by simpa using hy
      exact ho
  · obtain rfl : z = x := by simpa using hz
    obtain ⟨j, hj, rfl⟩ := List.getElem_of_mem hy
    rw [List.getElem_take]
    simp only [List.length_take] at hj
    exact hl j _ (by omega) (List.getElem?_eq_getElem (by omega))
theorem refFits_calls (A : Option Addr) (n c : Nat) (l : List Sh) (w : World) (hr : RdS w 3 A n (l.map shCells)) (hn : n ≤ 1000000) :
    Calls Try.prog 85 #[.slice A n c] w fun e w' => e = .returned (.bool (decide (Ros l))) ∧ Ext w w' := by
  have hl := hr.len
  simp only [List.length_map] at hl
  refine enterQ (c := cx w 70) Try.func85 rfl rfl rfl rfl ?_
  repeat' (first | ((with_reducible apply oq_id); first | (apply oq_fn; exact rfl; try first | exact trivial | (and_intros <;> omega))) | ((with_reducible apply tl_id); first | (with_reducible apply tl_nil) | ((with_reducible apply u_q); (iterate 4 exact rfl))) | ((with_reducible apply t_id); first | (with_reducible apply t_seq) | (apply t_region; kernel_rfl) | (with_reducible apply t_block)) | with_reducible apply q_thenN)
  apply t_loopK (ι := Nat) [0] (fun i => [(3, .int .i64 (i : Nat))]) (fun _ => []) (fun i => i ≤ n ∧ Ros (l.take i)) (fun i => n - i) (0)
  (repeat (first | exact KeepF.nil | (apply KeepF.cons; exact rfl) | apply KeepF.skip))
  (repeat (first | exact FrSub.nil | (apply FrSub.cons; exact rfl)))
  (repeat (first | exact HpSub.refl _ | (apply HpSub.consE; (repeat (first | exact P0 | apply P1)); exact rfl) | exact HpSub.nil))
  · exact ⟨Nat.zero_le _, by simp [Ros]⟩
  rintro i ⟨hi, hri⟩
  try simp only [List.cons_append, List.nil_append]
  by_cases hlt : i < n
  · obtain ⟨b, o, x, rfl, _, hx, c0, c1, c2⟩ := sh_read hr hlt
    obtain ⟨q, hq⟩ : ∃ q, allFrom 0 5 [x.who] = q := ⟨_, rfl⟩
    by_cases ho : shOk x
    rotate_left
    · rw [decide_eq_false (ros_bad hx (.inl ho))]
      cases q with
      | false =>
        repeat' (first | ((with_reducible apply oq_id); first | (focus ((with_reducible apply oq_indexAddrN); (iterate 4 exact rfl); omega)) | ((with_reducible apply oq_lssT); exact rfl; exact rfl; omega) | (apply oq_fn; exact rfl; try first | exact trivial | (and_intros <;> omega)) | ((with_reducible apply oq_load); exact rfl; exact rfl) | ((with_reducible apply oq_loadAgg); exact rfl; exact rfl) | ((with_reducible apply oq_call (k := 66) (hc := Try.call66)); exact rfl; exact rfl; exact fun D w1 hw1 => withinQ hq w1)) | ((with_reducible apply tl_id); first | (with_reducible apply tl_nil) | ((with_reducible apply u_q); (iterate 4 exact rfl)) | ((with_reducible apply u_s0); exact rfl; exact rfl) | ((with_reducible apply u_s); (iterate 3 exact rfl)) | ((with_reducible apply u_skip); (iterate 3 exact rfl))) | ((with_reducible apply os_id); first | ((with_reducible apply os_x); exact rfl) | ((with_reducible apply os_storeAgg); (iterate 5 exact rfl))) | ((with_reducible apply ox_alloc); exact rfl; intro _) | ((with_reducible apply rd_id); first | (apply Rd.old; (first | exact c0 | exact c1 | exact c2 | exact d0 | exact d1 | exact d2); exact List.not_mem_nil) | (apply Rd.own; (repeat (first | exact P0 | apply P1)); exact rfl; done)) | ((with_reducible apply t_id); first | (with_reducible apply t_seq) | (apply t_region; kernel_rfl) | ((with_reducible apply t_condT); exact rfl) | (with_reducible apply t_ret) | (with_reducible apply t_skip) | (with_reducible apply t_block)) | with_reducible apply q_thenN | with_reducible apply q_thenR | with_reducible apply q_blockR | exact P0 | exact Rdn.zero | apply Rdn.succ | ((with_reducible apply Norm.nil); exact rfl) | ((with_reducible apply Norm.cons); exact rfl) | (with_reducible apply end_ret) | exact rvs_nil | (with_reducible apply rvs_cons) | ((with_reducible apply rv_tmp); exact rfl) | exact Nat.le_of_ble_eq_true rfl)
        all_goals rfl
      | true =>
        have hw : 0 ≤ x.who ∧ x.who ≤ 5 := allFrom_1.1 hq
        unfold shOk at ho
        by_cases h1 : x.fr < 0
        · repeat' (first | ((with_reducible apply oq_id); first | (focus ((with_reducible apply oq_indexAddrN); (iterate 4 exact rfl); omega)) | ((with_reducible apply oq_lssT); exact rfl; exact rfl; omega) | (apply oq_fn; exact rfl; try first | exact trivial | (and_intros <;> omega)) | ((with_reducible apply oq_load); exact rfl; exact rfl) | ((with_reducible apply oq_loadAgg); exact rfl; exact rfl) | ((with_reducible apply oq_call (k := 66) (hc := Try.call66)); exact rfl; exact rfl; exact fun D w1 hw1 => withinQ hq w1)) | ((with_reducible apply tl_id); first | (with_reducible apply tl_nil) | ((with_reducible apply u_q); (iterate 4 exact rfl)) | ((with_reducible apply u_s0); exact rfl; exact rfl) | ((with_reducible apply u_s); (iterate 3 exact rfl)) | ((with_reducible apply u_skip); (iterate 3 exact rfl))) | ((with_reducible apply os_id); first | ((with_reducible apply os_x); exact rfl) | ((with_reducible apply os_storeAgg); (iterate 5 exact rfl))) | ((with_reducible apply ox_alloc); exact rfl; intro _) | ((with_reducible apply rd_id); first | (apply Rd.old; (first | exact c0 | exact c1 | exact c2 | exact d0 | exact d1 | exact d2); exact List.not_mem_nil) | (apply Rd.own; (repeat (first | exact P0 | apply P1)); exact rfl; done)) | ((with_reducible apply t_id); first | (with_reducible apply t_seq) | (apply t_region; kernel_rfl) | ((with_reducible apply t_condT); exact rfl) | (with_reducible apply t_ret) | (with_reducible apply t_skip) | (with_reducible apply t_block)) | with_reducible apply q_thenN | with_reducible apply q_thenR | with_reducible apply q_blockR | exact P0 | exact Rdn.zero | apply Rdn.succ | ((with_reducible apply Norm.nil); exact rfl) | ((with_reducible apply Norm.cons); exact rfl) | (with_reducible apply end_ret) | exact rvs_nil | (with_reducible apply rvs_cons) | ((with_reducible apply rv_tmp); exact rfl) | exact Nat.le_of_ble_eq_true rfl)
          all_goals rfl
        by_cases h2 : x.to ≤ x.fr
        · repeat' (first | ((with_reducible apply oq_id); first | (focus ((with_reducible apply oq_indexAddrN); (iterate 4 exact rfl); omega)) | ((with_reducible apply oq_lssT); exact rfl; exact rfl; omega) | ((with_reducible apply oq_lssF); exact rfl; exact rfl; omega) | ((with_reducible apply oq_leqT); exact rfl; exact rfl; omega) | (apply oq_fn; exact rfl; try first | exact trivial | (and_intros <;> omega)) | ((with_reducible apply oq_load); exact rfl; exact rfl) | ((with_reducible apply oq_loadAgg); exact rfl; exact rfl) | ((with_reducible apply oq_call (k := 66) (hc := Try.call66)); exact rfl; exact rfl; exact fun D w1 hw1 => withinQ hq w1)) | ((with_reducible apply tl_id); first | (with_reducible apply tl_nil) | ((with_reducible apply u_q); (iterate 4 exact rfl)) | ((with_reducible apply u_s0); exact rfl; exact rfl) | ((with_reducible apply u_s); (iterate 3 exact rfl)) | ((with_reducible apply u_skip); (iterate 3 exact rfl))) | ((with_reducible apply os_id); first | ((with_reducible apply os_x); exact rfl) | ((with_reducible apply os_storeAgg); (iterate 5 exact rfl))) | ((with_reducible apply ox_alloc); exact rfl; intro _) | ((with_reducible apply rd_id); first | (apply Rd.old; (first | exact c0 | exact c1 | exact c2 | exact d0 | exact d1 | exact d2); exact List.not_mem_nil) | (apply Rd.own; (repeat (first | exact P0 | apply P1)); exact rfl; done)) | ((with_reducible apply t_id); first | (with_reducible apply t_seq) | (apply t_region; kernel_rfl) | ((with_reducible apply t_condT); exact rfl) | (with_reducible apply t_ret) | (with_reducible apply t_skip) | (with_reducible apply t_block)) | with_reducible apply q_thenN | with_reducible apply q_thenR | with_reducible apply q_blockR | exact P0 | exact Rdn.zero | apply Rdn.succ | ((with_reducible apply Norm.nil); exact rfl) | ((with_reducible apply Norm.cons); exact rfl) | (with_reducible apply end_ret) | exact rvs_nil | (with_reducible apply rvs_cons) | ((with_reducible apply rv_tmp); exact rfl) | exact Nat.le_of_ble_eq_true rfl)
          all_goals rfl
        have h3 : 1000000 < x.to := by omega
        repeat' (first | ((with_reducible apply oq_id); first | (focus ((with_reducible apply oq_indexAddrN); (iterate 4 exact rfl); omega)) | ((with_reducible apply oq_lssT); exact rfl; exact rfl; omega) | ((with_reducible apply oq_lssF); exact rfl; exact rfl; omega) | ((with_reducible apply oq_leqF); exact rfl; exact rfl; omega) | ((with_reducible apply oq_gtrT); exact rfl; exact rfl; omega) | (apply oq_fn; exact rfl; try first | exact trivial | (and_intros <;> omega)) | ((with_reducible apply oq_load); exact rfl; exact rfl) | ((with_reducible apply oq_loadAgg); exact rfl; exact rfl) | ((with_reducible apply oq_call (k := 66) (hc := Try.call66)); exact rfl; exact rfl; exact fun D w1 hw1 => withinQ hq w1)) | ((with_reducible apply tl_id); first | (with_reducible apply tl_nil) | ((with_reducible apply u_q); (iterate 4 exact rfl)) | ((with_reducible apply u_s0); exact rfl; exact rfl) | ((with_reducible apply u_s); (iterate 3 exact rfl))) | ((with_reducible apply os_id); first | ((with_reducible apply os_x); exact rfl) | ((with_reducible apply os_storeAgg); (iterate 5 exact rfl))) | ((with_reducible apply ox_alloc); exact rfl; intro _) | ((with_reducible apply rd_id); first | (apply Rd.old; (first | exact c0 | exact c1 | exact c2 | exact d0 | exact d1 | exact d2); exact List.not_mem_nil) | (apply Rd.own; (repeat (first | exact P0 | apply P1)); exact rfl; done)) | ((with_reducible apply t_id); first | (with_reducible apply t_seq) | (apply t_region; kernel_rfl) | ((with_reducible apply t_condT); exact rfl) | (with_reducible apply t_ret) | (with_reducible apply t_skip) | (with_reducible apply t_block)) | with_reducible apply q_thenN | with_reducible apply q_thenR | with_reducible apply q_blockR | exact P0 | exact Rdn.zero | apply Rdn.succ | ((with_reducible apply Norm.nil); exact rfl) | ((with_reducible apply Norm.cons); exact rfl) | (with_reducible apply end_ret) | exact rvs_nil | (with_reducible apply rvs_cons) | ((with_reducible apply rv_tmp); exact rfl) | exact Nat.le_of_ble_eq_true rfl)
        all_goals rfl
    have ho' := ho
    unfold shOk at ho'
    obtain rfl : q = true := by rw [← hq]; exact allFrom_1.2 ho'.1
    repeat' (first | ((with_reducible apply oq_id); first | (focus ((with_reducible apply oq_indexAddrN); (iterate 4 exact rfl); omega)) | ((with_reducible apply oq_lssT); exact rfl; exact rfl; omega) | ((with_reducible apply oq_lssF); exact rfl; exact rfl; omega) | ((with_reducible apply oq_leqF); exact rfl; exact rfl; omega) | ((with_reducible apply oq_gtrF); exact rfl; exact rfl; omega) | (apply oq_fn; exact rfl; try first | exact trivial | (and_intros <;> omega)) | ((with_reducible apply oq_load); exact rfl; exact rfl) | ((with_reducible apply oq_loadAgg); exact rfl; exact rfl) | ((with_reducible apply oq_call (k := 66) (hc := Try.call66)); exact rfl; exact rfl; exact fun D w1 hw1 => withinQ hq w1)) | ((with_reducible apply tl_id); first | (with_reducible apply tl_nil) | ((with_reducible apply u_q); (iterate 4 exact rfl)) | ((with_reducible apply u_s0); exact rfl; exact rfl) | ((with_reducible apply u_s); (iterate 3 exact rfl))) | ((with_reducible apply os_id); first | ((with_reducible apply os_x); exact rfl) | ((with_reducible apply os_storeAgg); (iterate 5 exact rfl))) | ((with_reducible apply ox_alloc); exact rfl; intro _) | ((with_reducible apply rd_id); first | (apply Rd.old; (first | exact c0 | exact c1 | exact c2 | exact d0 | exact d1 | exact d2); exact List.not_mem_nil) | (apply Rd.own; (repeat (first | exact P0 | apply P1)); exact rfl; done)) | ((with_reducible apply t_id); first | (with_reducible apply t_seq) | (apply t_region; kernel_rfl) | ((with_reducible apply t_condT); exact rfl) | ((with_reducible apply t_condF); exact rfl) | (with_reducible apply t_skip) | (with_reducible apply t_block)) | with_reducible apply q_thenN | exact P0 | exact Rdn.zero | apply Rdn.succ | ((with_reducible apply Norm.nil); exact rfl) | ((with_reducible apply Norm.cons); exact rfl) | exact Nat.le_of_ble_eq_true rfl)
    rename_i b4
    apply t_loopK (GH := []) (ι := Nat) [0, 3, 4] (fun k => [(5, .int .i64 (k : Nat))]) (fun _ => [(b4, [.int .i64 x.who, .int .i64 x.fr, .int .i64 x.to], some (101, 3, 1))]) (fun k => k ≤ i ∧ ∀ j y, j < k → l[j]? = some y → ¬ lap y x) (fun k => i - k) (0)
    (repeat (first | exact KeepF.nil | (apply KeepF.cons; exact rfl) | apply KeepF.skip))
    (repeat (first | exact FrSub.nil | (apply FrSub.cons; exact rfl)))
    (repeat (first | exact HpSub.refl _ | (apply HpSub.consE; (repeat (first | exact P0 | apply P1)); exact rfl) | exact HpSub.nil))
    · exact ⟨Nat.zero_le _, fun j y hj => by omega⟩
    rintro k ⟨hk, hno⟩
    try simp only [List.cons_append, List.nil_append]
    by_cases hki : k < i
    · obtain ⟨b', o', y, hbb, _, hy, d0, d1, d2⟩ := sh_read hr (show k < n by omega)
      cases hbb
      have hst : ¬ lap y x → ∀ j z, j < k + 1 → l[j]? = some z → ¬ lap z x := fun h j z hj hz => by
        by_cases hjk : j = k
        · subst hjk; rw [hy] at hz; cases hz; exact h
        · exact hno j z (by omega) hz
      by_cases h1 : y.who = x.who
      · by_cases h2 : y.fr < x.to
        · by_cases h3 : x.fr < y.to
          · rw [decide_eq_false (ros_bad hx (.inr ⟨k, y, hki, hy, h1, h2, h3⟩))]
            repeat' (first | ((with_reducible apply oq_id); first | (focus ((with_reducible apply oq_indexAddrN); (iterate 4 exact rfl); omega)) | ((with_reducible apply oq_lssT); exact rfl; exact rfl; omega) | ((with_reducible apply oq_eqlT); exact rfl; exact rfl; omega) | (apply oq_fn; exact rfl; try first | exact trivial | (and_intros <;> omega)) | ((with_reducible apply oq_load); exact rfl; exact rfl)) | ((with_reducible apply tl_id); first | (with_reducible apply tl_nil) | ((with_reducible apply u_q); (iterate 4 exact rfl))) | ((with_reducible apply gx_id); first | (with_reducible apply v_nil) | ((with_reducible apply v_q); (iterate 3 exact rfl))) | ((with_reducible apply rd_id); first | (apply Rd.old; (first | exact c0 | exact c1 | exact c2 | exact d0 | exact d1 | exact d2); exact List.not_mem_nil) | (apply Rd.own; (repeat (first | exact P0 | apply P1)); exact rfl; done)) | ((with_reducible apply t_id); first | (with_reducible apply t_seq) | (apply t_region; kernel_rfl) | (apply t_drawn; kernel_rfl; decide +kernel; try simp only [List.append_eq, List.cons_append, List.nil_append]) | ((with_reducible apply t_condT); exact rfl) | (with_reducible apply t_ret) | (with_reducible apply t_skip) | (with_reducible apply t_block)) | with_reducible apply q_thenN | with_reducible apply q_thenR | with_reducible apply q_blockR | (with_reducible apply end_ret) | exact rvs_nil | (with_reducible apply rvs_cons) | ((with_reducible apply rv_tmp); exact rfl))
            all_goals rfl
          · repeat' (first | ((with_reducible apply oq_id); first | (focus ((with_reducible apply oq_indexAddrN); (iterate 4 exact rfl); omega)) | ((with_reducible apply oq_lssT); exact rfl; exact rfl; omega) | ((with_reducible apply oq_lssF); exact rfl; exact rfl; omega) | ((with_reducible apply oq_eqlT); exact rfl; exact rfl; omega) | (apply oq_fn; exact rfl; try first | exact trivial | (and_intros <;> omega)) | ((with_reducible apply oq_load); exact rfl; exact rfl)) | ((with_reducible apply tl_id); first | (with_reducible apply tl_nil) | ((with_reducible apply u_q); (iterate 4 exact rfl))) | ((with_reducible apply gx_id); first | (with_reducible apply v_nil) | ((with_reducible apply v_q); (iterate 3 exact rfl))) | ((with_reducible apply rd_id); first | (apply Rd.old; (first | exact c0 | exact c1 | exact c2 | exact d0 | exact d1 | exact d2); exact List.not_mem_nil) | (apply Rd.own; (repeat (first | exact P0 | apply P1)); exact rfl; done)) | ((with_reducible apply t_id); first | (with_reducible apply t_seq) | (apply t_region; kernel_rfl) | (apply t_drawn; kernel_rfl; decide +kernel; try simp only [List.append_eq, List.cons_append, List.nil_append]) | ((with_reducible apply t_condT); exact rfl) | ((with_reducible apply t_condF); exact rfl) | (with_reducible apply t_skip) | (with_reducible apply t_block)) | with_reducible apply q_thenN | with_reducible apply q_blockN)
            all_goals (refine ⟨(k + 1), ⟨by omega, hst fun h => h3 h.2.2⟩, (by omega), ?_, ?_⟩ <;> (try simp only [List.cons_append, List.nil_append]) <;> (repeat' (first | exact FrSub.nil | (apply FrSub.cons; exact rfl) | exact HpSub.refl _)))
        · repeat' (first | ((with_reducible apply oq_id); first | (focus ((with_reducible apply oq_indexAddrN); (iterate 4 exact rfl); omega)) | ((with_reducible apply oq_lssT); exact rfl; exact rfl; omega) | ((with_reducible apply oq_lssF); exact rfl; exact rfl; omega) | ((with_reducible apply oq_eqlT); exact rfl; exact rfl; omega) | (apply oq_fn; exact rfl; try first | exact trivial | (and_intros <;> omega)) | ((with_reducible apply oq_load); exact rfl; exact rfl)) | ((with_reducible apply tl_id); first | (with_reducible apply tl_nil) | ((with_reducible apply u_q); (iterate 4 exact rfl))) | ((with_reducible apply gx_id); first | (with_reducible apply v_nil) | ((with_reducible apply v_q); (iterate 3 exact rfl)) | ((with_reducible apply v_skip); (iterate 3 exact rfl))) | ((with_reducible apply rd_id); first | (apply Rd.old; (first | exact c0 | exact c1 | exact c2 | exact d0 | exact d1 | exact d2); exact List.not_mem_nil) | (apply Rd.own; (repeat (first | exact P0 | apply P1)); exact rfl; done)) | ((with_reducible apply t_id); first | (with_reducible apply t_seq) | (apply t_region; kernel_rfl) | (apply t_drawn; kernel_rfl; decide +kernel; try simp only [List.append_eq, List.cons_append, List.nil_append]) | ((with_reducible apply t_condT); exact rfl) | ((with_reducible apply t_condF); exact rfl) | (with_reducible apply t_skip) | (with_reducible apply t_block)) | with_reducible apply q_thenN | with_reducible apply q_blockN)
          all_goals (refine ⟨(k + 1), ⟨by omega, hst fun h => h2 h.2.1⟩, (by omega), ?_, ?_⟩ <;> (try simp only [List.cons_append, List.nil_append]) <;> (repeat' (first | exact FrSub.nil | (apply FrSub.cons; exact rfl) | exact HpSub.refl _)))
      · repeat' (first | ((with_reducible apply oq_id); first | (focus ((with_reducible apply oq_indexAddrN); (iterate 4 exact rfl); omega)) | ((with_reducible apply oq_lssT); exact rfl; exact rfl; omega) | ((with_reducible apply oq_eqlF); exact rfl; exact rfl; omega) | (apply oq_fn; exact rfl; try first | exact trivial | (and_intros <;> omega)) | ((with_reducible apply oq_load); exact rfl; exact rfl)) | ((with_reducible apply tl_id); first | (with_reducible apply tl_nil) | ((with_reducible apply u_q); (iterate 4 exact rfl))) | ((with_reducible apply gx_id); first | (with_reducible apply v_nil) | ((with_reducible apply v_q); (iterate 3 exact rfl)) | ((with_reducible apply v_skip); (iterate 3 exact rfl))) | ((with_reducible apply rd_id); first | (apply Rd.old; (first | exact c0 | exact c1 | exact c2 | exact d0 | exact d1 | exact d2); exact List.not_mem_nil) | (apply Rd.own; (repeat (first | exact P0 | apply P1)); exact rfl; done)) | ((with_reducible apply t_id); first | (with_reducible apply t_seq) | (apply t_region; kernel_rfl) | (apply t_drawn; kernel_rfl; decide +kernel; try simp only [List.append_eq, List.cons_append, List.nil_append]) | ((with_reducible apply t_condT); exact rfl) | ((with_reducible apply t_condF); exact rfl) | (with_reducible apply t_skip) | (with_reducible apply t_block)) | with_reducible apply q_thenN | with_reducible apply q_blockN)
        all_goals (refine ⟨(k + 1), ⟨by omega, hst fun h => h1 h.1⟩, (by omega), ?_, ?_⟩ <;> (try simp only [List.cons_append, List.nil_append]) <;> (repeat' (first | exact FrSub.nil | (apply FrSub.cons; exact rfl) | exact HpSub.refl _)))
    · repeat' (first | ((with_reducible apply oq_id); first | ((with_reducible apply oq_lssF); exact rfl; exact rfl; omega) | (apply oq_fn; exact rfl; try first | exact trivial | (and_intros <;> omega))) | ((with_reducible apply tl_id); first | (with_reducible apply tl_nil) | ((with_reducible apply u_q); (iterate 4 exact rfl))) | ((with_reducible apply t_id); first | (with_reducible apply t_seq) | (apply t_region; kernel_rfl) | ((with_reducible apply t_condF); exact rfl) | (with_reducible apply t_exit)) | with_reducible apply q_thenN | with_reducible apply q_blockN | with_reducible apply q_thenE | ((with_reducible apply q_blockE); exact rfl))
      all_goals (refine ⟨(i + 1), ⟨by omega, ros_next hx hri ho fun j y hj hy => hno j y (by omega) hy⟩, (by omega), ?_, ?_⟩ <;> (try simp only [List.cons_append, List.nil_append]) <;> (repeat' (first | exact FrSub.nil | (apply FrSub.cons; exact rfl) | exact HpSub.nil)))
  · rw [decide_eq_true (by rw [List.take_of_length_le (by omega)] at hri; exact hri)]
    repeat' (first | ((with_reducible apply oq_id); first | ((with_reducible apply oq_lssF); exact rfl; exact rfl; omega) | (apply oq_fn; exact rfl; try first | exact trivial | (and_intros <;> omega))) | ((with_reducible apply tl_id); first | (with_reducible apply tl_nil) | ((with_reducible apply u_q); (iterate 4 exact rfl))) | ((with_reducible apply t_id); first | (with_reducible apply t_seq) | (apply t_region; kernel_rfl) | ((with_reducible apply t_condF); exact rfl) | (with_reducible apply t_ret) | (with_reducible apply t_exit)) | with_reducible apply q_thenN | with_reducible apply q_thenE | ((with_reducible apply q_blockE); exact rfl) | (with_reducible apply end_ret) | exact rvs_nil | (with_reducible apply rvs_cons) | ((with_reducible apply rv_tmp); exact rfl))
    all_goals rfl
theorem refRos_calls (A : Option Addr) (n c : Nat) (l : List Sh) (w : World) (hr : RdS w 3 A n (l.map shCells)) (hn : n ≤ 1000000) :
    Calls Try.prog 47 #[.slice A n c] w fun e w' => e = .returned (.int .i64 (rosE l)) ∧ Ext w w' := by
  have hl := hr.len
  simp only [List.length_map] at hl
  unfold rosE
  by_cases h1 : 40 < l.length
  · rw [if_pos h1]
    refine enterQ (c := cx w 9) Try.func47 rfl rfl rfl rfl ?_
    repeat' (first | ((with_reducible apply oq_id); first | ((with_reducible apply oq_gtrT); exact rfl; exact rfl; omega) | (apply oq_fn; exact rfl; try first | exact trivial | (and_intros <;> omega))) | ((with_reducible apply tl_id); first | (with_reducible apply tl_nil) | ((with_reducible apply u_q); (iterate 4 exact rfl))) | ((with_reducible apply t_id); first | (with_reducible apply t_seq) | (apply t_region; kernel_rfl) | ((with_reducible apply t_condT); exact rfl) | (with_reducible apply t_ret)) | with_reducible apply q_thenN | with_reducible apply q_thenR | (with_reducible apply end_ret) | exact rvs_nil | (with_reducible apply rvs_cons) | ((with_reducible apply rv_tmp); exact rfl))
    all_goals rfl
  · rw [if_neg h1]
    have HF := fun w1 h => refFits_calls A n c l w1 h hn
    by_cases h2 : Ros l
    · rw [if_pos h2]
      rw [decide_eq_true h2] at HF
      refine enterQ (c := cx w 9) Try.func47 rfl rfl rfl rfl ?_
      repeat' (first | ((with_reducible apply oq_id); first | ((with_reducible apply oq_gtrF); exact rfl; exact rfl; omega) | (apply oq_fn; exact rfl; try first | exact trivial | (and_intros <;> omega)) | ((with_reducible apply oq_call (k := 85) (hc := Try.call85)); exact rfl; exact rfl; exact fun D w1 hw1 => HF w1 (hr.ext hw1.ext.ext))) | ((with_reducible apply tl_id); first | (with_reducible apply tl_nil) | ((with_reducible apply u_q); (iterate 4 exact rfl))) | ((with_reducible apply t_id); first | (with_reducible apply t_seq) | (apply t_region; kernel_rfl) | ((with_reducible apply t_condF); exact rfl) | (with_reducible apply t_ret) | (with_reducible apply t_skip)) | with_reducible apply q_thenN | (with_reducible apply end_ret) | exact rvs_nil | (with_reducible apply rvs_cons) | ((with_reducible apply rv_tmp); exact rfl))
      all_goals rfl
    · rw [if_neg h2]
      rw [decide_eq_false h2] at HF
      refine enterQ (c := cx w 9) Try.func47 rfl rfl rfl rfl ?_
      repeat' (first | ((with_reducible apply oq_id); first | ((with_reducible apply oq_gtrF); exact rfl; exact rfl; omega) | (apply oq_fn; exact rfl; try first | exact trivial | (and_intros <;> omega)) | ((with_reducible apply oq_call (k := 85) (hc := Try.call85)); exact rfl; exact rfl; exact fun D w1 hw1 => HF w1 (hr.ext hw1.ext.ext))) | ((with_reducible apply tl_id); first | (with_reducible apply tl_nil) | ((with_reducible apply u_q); (iterate 4 exact rfl))) | ((with_reducible apply t_id); first | (with_reducible apply t_seq) | (apply t_region; kernel_rfl) | ((with_reducible apply t_condT); exact rfl) | ((with_reducible apply t_condF); exact rfl) | (with_reducible apply t_ret) | (with_reducible apply t_skip)) | with_reducible apply q_thenN | with_reducible apply q_thenR | (with_reducible apply end_ret) | exact rvs_nil | (with_reducible apply rvs_cons) | ((with_reducible apply rv_tmp); exact rfl))
      all_goals rfl
theorem work_take {l : List Sh} {i : Nat} {x : Sh} (hx : l[i]? = some x) (who fr to : Int) : workV (l.take (i + 1)) who fr to = workV (l.take i) who fr to + minS who fr to x := by
  unfold workV
  rw [List.take_add_one, hx]
  simp
theorem work_in {l : List Sh} (hs : ∀ y ∈ l, shOk y) (who fr to : Int) : ∀ {i : Nat}, i ≤ l.length → 0 ≤ workV (l.take i) who fr to ∧ workV (l.take i) who fr to ≤ (i : Int) * 1000000
  | 0, _ => by simp [workV]
  | i + 1, h => by
    obtain ⟨y, hy⟩ : ∃ y, l[i]? = some y := ⟨_, List.getElem?_eq_getElem (by omega)⟩
    have ih := work_in hs who fr to (show i ≤ l.length by omega)
    have ho := hs y (List.mem_of_getElem? hy)
    unfold shOk at ho
    rw [work_take hy]
    have : 0 ≤ minS who fr to y ∧ minS who fr to y ≤ 1000000 := by unfold minS; split <;> omega
    rw [show ((i + 1 : Nat) : Int) * 1000000 = (i : Int) * 1000000 + 1000000 by omega]
    omega
/-- What was worked: any shifts of a valid roster, any times. -/
theorem worked_calls (A : Option Addr) (n c : Nat) (l : List Sh) (who fr to : Int) (w : World) (hr : RdS w 3 A n (l.map shCells)) (hn : n ≤ 1000000) (hs : ∀ y ∈ l, shOk y) (h1 : -1000000000000 ≤ fr ∧ fr ≤ 1000000000000) (h2 : -1000000000000 ≤ to ∧ to ≤ 1000000000000) :
    Calls Try.prog 113 #[.slice A n c, .int .i64 who, .int .i64 fr, .int .i64 to] w fun e w' => e = .returned (.int .i64 (workV l who fr to)) ∧ Ext w w' := by
  have hl := hr.len
  simp only [List.length_map] at hl
  refine enterQ (c := cx w 43) Try.func113 rfl rfl rfl rfl ?_
  repeat' (first | ((with_reducible apply oq_id); first | (apply oq_fn; exact rfl; try first | exact trivial | (and_intros <;> omega))) | ((with_reducible apply tl_id); first | (with_reducible apply tl_nil) | ((with_reducible apply u_q); (iterate 4 exact rfl))) | ((with_reducible apply t_id); first | (with_reducible apply t_seq) | (apply t_region; kernel_rfl) | (with_reducible apply t_block)) | with_reducible apply q_thenN)
  apply t_loopK (ι := Nat) [0, 1, 2, 3, 8, 42] (fun i => [(10, .int .i64 (i : Nat)), (9, .int .i64 (workV (l.take i) who fr to))]) (fun _ => []) (fun i => i ≤ n) (fun i => n - i) (0)
  (repeat (first | exact KeepF.nil | (apply KeepF.cons; exact rfl) | apply KeepF.skip))
  (repeat (first | exact FrSub.nil | (apply FrSub.cons; exact rfl)))
  (repeat (first | exact HpSub.refl _ | (apply HpSub.consE; (repeat (first | exact P0 | apply P1)); exact rfl) | exact HpSub.nil))
  · exact Nat.zero_le _
  rintro i hi
  try simp only [List.cons_append, List.nil_append]
  have hwin := work_in hs who fr to (i := i) (by omega)
  by_cases hlt : i < n
  · obtain ⟨b, o, x, rfl, _, hx, c0, c1, c2⟩ := sh_read hr hlt
    have hxo := hs x (List.mem_of_getElem? hx)
    unfold shOk at hxo
    have hsu := work_take hx who fr to
    unfold minS at hsu
    by_cases hw : x.who = who
    · rw [if_pos hw] at hsu
      repeat' (first | ((with_reducible apply oq_id); first | (focus ((with_reducible apply oq_indexAddrN); (iterate 4 exact rfl); omega)) | ((with_reducible apply oq_addE (k := workV (l.take (i + 1)) who fr to)); exact rfl; exact rfl; omega) | ((with_reducible apply oq_lssT); exact rfl; exact rfl; omega) | ((with_reducible apply oq_eqlT); exact rfl; exact rfl; omega) | (apply oq_fn; exact rfl; try first | exact trivial | (and_intros <;> omega)) | ((with_reducible apply oq_load); exact rfl; exact rfl)) | ((with_reducible apply tl_id); first | (with_reducible apply tl_nil) | ((with_reducible apply u_q); (iterate 4 exact rfl))) | ((with_reducible apply gx_id); first | (with_reducible apply v_nil) | ((with_reducible apply v_q); (iterate 3 exact rfl))) | ((with_reducible apply rd_id); first | (apply Rd.old; (first | exact c0 | exact c1 | exact c2 | exact d0 | exact d1 | exact d2); exact List.not_mem_nil)) | ((with_reducible apply t_id); first | (with_reducible apply t_seq) | (apply t_region; kernel_rfl) | (apply t_drawn; kernel_rfl; decide +kernel; try simp only [List.append_eq, List.cons_append, List.nil_append]) | ((with_reducible apply t_condT); exact rfl) | (with_reducible apply t_skip) | (with_reducible apply t_block)) | with_reducible apply q_thenN | with_reducible apply q_blockN)
      all_goals (refine ⟨(i + 1), (by omega), (by omega), ?_, ?_⟩ <;> (try simp only [List.cons_append, List.nil_append]) <;> (repeat' (first | exact FrSub.nil | (apply FrSub.cons; exact rfl) | exact HpSub.refl _)))
    · rw [if_neg hw, Int.add_zero] at hsu
      rw [← hsu]
      repeat' (first | ((with_reducible apply oq_id); first | (focus ((with_reducible apply oq_indexAddrN); (iterate 4 exact rfl); omega)) | ((with_reducible apply oq_lssT); exact rfl; exact rfl; omega) | ((with_reducible apply oq_eqlF); exact rfl; exact rfl; omega) | (apply oq_fn; exact rfl; try first | exact trivial | (and_intros <;> omega)) | ((with_reducible apply oq_load); exact rfl; exact rfl)) | ((with_reducible apply tl_id); first | (with_reducible apply tl_nil) | ((with_reducible apply u_q); (iterate 4 exact rfl))) | ((with_reducible apply rd_id); first | (apply Rd.old; (first | exact c0 | exact c1 | exact c2 | exact d0 | exact d1 | exact d2); exact List.not_mem_nil)) | ((with_reducible apply t_id); first | (with_reducible apply t_seq) | (apply t_region; kernel_rfl) | ((with_reducible apply t_condT); exact rfl) | ((with_reducible apply t_condF); exact rfl) | (with_reducible apply t_skip) | (with_reducible apply t_block)) | with_reducible apply q_thenN | with_reducible apply q_blockN)
      all_goals (refine ⟨(i + 1), (by omega), (by omega), ?_, ?_⟩ <;> (try simp only [List.cons_append, List.nil_append]) <;> (repeat' (first | exact FrSub.nil | (apply FrSub.cons; exact rfl) | exact HpSub.refl _)))
  · obtain rfl : i = n := by omega
    rw [List.take_of_length_le (by omega)] at *
    repeat' (first | ((with_reducible apply oq_id); first | ((with_reducible apply oq_lssF); exact rfl; exact rfl; omega) | (apply oq_fn; exact rfl; try first | exact trivial | (and_intros <;> omega))) | ((with_reducible apply tl_id); first | (with_reducible apply tl_nil) | ((with_reducible apply u_q); (iterate 4 exact rfl))) | ((with_reducible apply t_id); first | (with_reducible apply t_seq) | (apply t_region; kernel_rfl) | ((with_reducible apply t_condF); exact rfl) | (with_reducible apply t_ret) | (with_reducible apply t_exit)) | with_reducible apply q_thenN | with_reducible apply q_thenE | ((with_reducible apply q_blockE); exact rfl) | (with_reducible apply end_ret) | exact rvs_nil | (with_reducible apply rvs_cons) | ((with_reducible apply rv_tmp); exact rfl))
    all_goals rfl
theorem split_last0 {α : Type} {l : List α} (h : l ≠ []) : ∃ S z, l = S ++ [z] := ⟨l.dropLast, l.getLast h, (List.dropLast_concat_getLast h).symm⟩
theorem ins_step0 {S S2 : List Sh} {z x : Sh} : (((S ++ [z]) ++ x :: S2).set (S.length + 1) z).set S.length x = S ++ x :: (z :: S2) := by
  have h := ins_step (P := []) (S := S) (S2 := S2) (Q := []) (z := z) (x := x)
  simp at h
  simp [h]
/-- What sorted hands out. -/
def SrtO (S : List Sh) (v : Value) (H : Hp) : Prop := ∃ x, (x = none → S.length = 0) ∧ v = .slice (clA x) S.length (clC x) ∧ H = clH 101 3 (shB S) x
theorem sorted_T (A : Option Addr) (n c : Nat) (l : List Sh) (w : World) (hr : RdS w 3 A n (l.map shCells)) (hn : n ≤ 1000000) :
    Calls Try.prog 112 #[.slice A n c] w fun e w' => ∃ v H', e = .returned v ∧ SrtO (srtS l) v H' ∧ Has w ⟨[], []⟩ H' w' := by
  have hl := hr.len
  simp only [List.length_map] at hl
  refine enterF (c := cx w 85) Try.func112 rfl rfl rfl rfl ?_
  repeat' (first | ((with_reducible apply oq_id); first | (apply oq_fn; exact rfl; try first | exact trivial | (and_intros <;> omega))) | ((with_reducible apply tl_id); first | (with_reducible apply tl_nil) | ((with_reducible apply u_q); (iterate 4 exact rfl))) | ((with_reducible apply t_id); first | (with_reducible apply t_seq) | (apply t_region; kernel_rfl) | (with_reducible apply t_block)) | with_reducible apply q_thenN)
  apply t_loopK (GH := []) (ι := Nat × Option (Nat × Nat)) [0] (fun z => [(4, .int .i64 (z.1 : Nat)), (3, .slice (clA z.2) z.1 (clC z.2))]) (fun z => clH 101 3 (shB (srtS (l.take z.1))) z.2) (fun z => z.1 ≤ n ∧ (z.2 = none → z.1 = 0)) (fun z => n - z.1) ((0, none))
  (repeat (first | exact KeepF.nil | (apply KeepF.cons; exact rfl) | apply KeepF.skip))
  (repeat (first | exact FrSub.nil | (apply FrSub.cons; exact rfl)))
  (repeat (first | exact HpSub.refl _ | (apply HpSub.consE; (repeat (first | exact P0 | apply P1)); exact rfl) | exact HpSub.nil))
  · exact ⟨Nat.zero_le _, fun _ => rfl⟩
  rintro ⟨i, o⟩ ⟨hi, ho⟩
  simp only at hi ho
  simp only [List.append_nil]
  have hsl : (srtS (l.take i)).length = i := by rw [srtS, srt_len]; simp; omega
  by_cases hlt : i < n
  · obtain ⟨b, o', x, hA, _, hx, c0, c1, c2⟩ := sh_read hr hlt
    subst hA
    have hxs : srtS (l.take (i + 1)) = mrg ltS (srtS (l.take i)) [x] := by rw [List.take_add_one, hx]; exact srt_snoc _ _
    refine t_cut (ι := Unit) (fun _ => [(0, .slice (some ⟨b, o', none⟩) n c), (4, .int .i64 (i : Nat)), (3, .slice (clA o) i (clC o))]) (fun _ => clH 101 3 (shB (srtS (l.take i))) o) (fun _ => True) ?_ ?_
    · repeat' (first | ((with_reducible apply oq_id); first | ((with_reducible apply oq_lssT); exact rfl; exact rfl; omega) | (apply oq_fn; exact rfl; try first | exact trivial | (and_intros <;> omega))) | ((with_reducible apply tl_id); first | (with_reducible apply tl_nil) | ((with_reducible apply u_q); (iterate 4 exact rfl))) | ((with_reducible apply t_id); first | (with_reducible apply t_seq) | (apply t_region; kernel_rfl) | ((with_reducible apply t_condT); exact rfl) | (with_reducible apply t_skip)) | with_reducible apply q_thenN)
      all_goals exact ⟨rfl, (), trivial, by (repeat (first | exact FrSub.nil | (apply FrSub.cons; exact rfl))), HpSub.refl _⟩
    rintro ⟨⟩ -
    refine t_cut (ι := Nat × Nat) (fun z => [(0, .slice (some ⟨b, o', none⟩) n c), (4, .int .i64 (i : Nat)), (3, .slice (some ⟨z.1, 0, none⟩) (i + 1) z.2)]) (fun z => [(z.1, shB (srtS (l.take (i + 1))), some (101, 3, z.2))]) (fun _ => True) ?_ ?_
    · refine t_block ?_
      refine t_cut (ι := Nat × Nat) (fun z => [(0, .slice (some ⟨b, o', none⟩) n c), (4, .int .i64 (i : Nat)), (3, .slice (some ⟨z.1, 0, none⟩) (i + 1) z.2)]) (fun z => [(z.1, shB (srtS (l.take i) ++ [x]), some (101, 3, z.2))]) (fun _ => True) ?_ ?_
      · rcases o with _ | ⟨go, co⟩
        · obtain rfl := ho rfl
          have e0 : srtS (l.take 0) = [] := rfl
          rw [e0]
          simp only [clA, clC, clH, List.nil_append]
          repeat' (first | ((with_reducible apply oq_id); first | (focus ((with_reducible apply oq_indexAddrN); (iterate 4 exact rfl); omega)) | (apply oq_fn; exact rfl; try first | exact trivial | (and_intros <;> omega)) | ((with_reducible apply oq_loadAgg); exact rfl; exact rfl)) | ((with_reducible apply tl_id); first | (with_reducible apply tl_nil) | ((with_reducible apply u_q); (iterate 4 exact rfl)) | ((with_reducible apply u_s); (iterate 3 exact rfl))) | ((with_reducible apply os_id); first | ((with_reducible apply os_x); exact rfl) | ((with_reducible apply os_appendNil (hk := app_ok75)); exact rfl; exact rfl)) | ((with_reducible apply ox_buildSlice); (iterate 4 exact rfl)) | ((with_reducible apply rd_id); first | (apply Rd.old; (first | exact c0 | exact c1 | exact c2 | exact d0 | exact d1 | exact d2); exact List.not_mem_nil) | (apply Rd.own; (repeat (first | exact P0 | apply P1)); exact rfl; done)) | ((with_reducible apply t_id); first | (apply t_region; kernel_rfl)) | exact Rdn.zero | apply Rdn.succ | ((with_reducible apply Norm.nil); exact rfl) | ((with_reducible apply Norm.cons); exact rfl) | (intro gN cN; with_reducible apply tl_id) | exact Nat.le_of_ble_eq_true rfl | exact (rfl : (_ : Bool) = true) | (intro _; with_reducible apply tl_id))
          all_goals (refine ⟨rfl, (gN, cN), trivial, ?_, ?_⟩)
          all_goals first
            | ((repeat (first | exact FrSub.nil | (apply FrSub.cons; exact rfl) | (apply FrSub.consE; exact rfl; (focus (simp; done))))); done)
            | ((repeat (first | exact HpSub.refl _ | (apply HpSub.consE; (repeat (first | exact P0 | apply P1)); first | exact rfl | ((focus (simp [shB, shCells]; done)))) | apply HpSub.skipX | exact HpSub.nil)); done)
        · obtain ⟨S0, hS0⟩ : ∃ S0, srtS (l.take i) = S0 := ⟨_, rfl⟩
          rw [hS0] at hsl ⊢
          have hfl : (shB S0).length = i * 3 := by rw [sh_flat_len, hsl]
          simp only [clA, clC, clH]
          repeat' (first | ((with_reducible apply oq_id); first | (focus ((with_reducible apply oq_indexAddrN); (iterate 4 exact rfl); omega)) | (apply oq_fn; exact rfl; try first | exact trivial | (and_intros <;> omega)) | ((with_reducible apply oq_loadAgg); exact rfl; exact rfl)) | ((with_reducible apply tl_id); first | (with_reducible apply tl_nil) | ((with_reducible apply u_q); (iterate 4 exact rfl)) | ((with_reducible apply u_s); (iterate 3 exact rfl))) | ((with_reducible apply os_id); first | ((with_reducible apply os_x); exact rfl) | ((with_reducible apply os_append (hk := app_ok75)); exact rfl; exact rfl; (repeat (first | exact P0 | apply P1)))) | ((with_reducible apply ox_buildSlice); (iterate 4 exact rfl)) | ((with_reducible apply rd_id); first | (apply Rd.old; (first | exact c0 | exact c1 | exact c2 | exact d0 | exact d1 | exact d2); exact List.not_mem_nil) | (apply Rd.own; (repeat (first | exact P0 | apply P1)); exact rfl; done)) | ((with_reducible apply t_id); first | (apply t_region; kernel_rfl)) | exact Rdn.zero | apply Rdn.succ | ((with_reducible apply Norm.nil); exact rfl) | ((with_reducible apply Norm.cons); exact rfl) | exact hfl | (intro gN cN; with_reducible apply tl_id) | exact Nat.le_of_ble_eq_true rfl | exact (rfl : (_ : Bool) = true) | omega | (intro _; with_reducible apply tl_id))
          all_goals (refine ⟨rfl, (gN, cN), trivial, ?_, ?_⟩)
          all_goals first
            | ((repeat (first | exact FrSub.nil | (apply FrSub.cons; exact rfl) | (apply FrSub.consE; exact rfl; (focus (simp; done))))); done)
            | ((repeat (first | exact HpSub.refl _ | (apply HpSub.consE; (repeat (first | exact P0 | apply P1)); first | exact rfl | ((focus (simp [shB, shCells]; done)))) | apply HpSub.skipX | exact HpSub.nil)); done)
      rintro ⟨g, cp⟩ -
      try dsimp only
      repeat' (first | ((with_reducible apply oq_id); first | ((with_reducible apply oq_subE (k := ((i : Nat) : Int))); exact rfl; exact rfl; omega) | (apply oq_fn; exact rfl; try first | exact trivial | (and_intros <;> omega))) | ((with_reducible apply tl_id); first | (with_reducible apply tl_nil) | ((with_reducible apply u_q); (iterate 4 exact rfl))) | ((with_reducible apply t_id); first | (with_reducible apply t_seq) | (apply t_region; kernel_rfl) | (with_reducible apply t_block)) | with_reducible apply q_thenN)
      apply t_loopK (GH := []) (ι := List Sh × List Sh) [0, 3, 4] (fun z => [(5, .int .i64 (z.1.length : Nat))]) (fun z => [(g, shB (z.1 ++ x :: z.2), some (101, 3, cp))]) (fun z => z.1 ++ z.2 = srtS (l.take i) ∧ ∀ y ∈ z.2, ltS x y = true) (fun z => z.1.length) ((srtS (l.take i), []))
      (repeat (first | exact KeepF.nil | (apply KeepF.cons; exact rfl) | apply KeepF.skip))
      (repeat (first | exact FrSub.nil | (apply FrSub.cons; exact rfl) | (apply FrSub.consE; exact rfl; (simp only [hsl]))))
      (repeat (first | exact HpSub.refl _ | (apply HpSub.consE; (repeat (first | exact P0 | apply P1)); exact rfl) | exact HpSub.nil))
      · exact ⟨List.append_nil _, fun y hy => by cases hy⟩
      rintro ⟨S1, S2⟩ ⟨hs, hgt⟩
      simp only at hs hgt
      try dsimp only
      simp only [List.append_nil]
      have hso : Srt ltS (S1 ++ S2) := by rw [hs]; exact srt_srt woS _
      have hl12 : S1.length + S2.length = i := by rw [← hsl, ← hs, List.length_append]
      by_cases h0 : S1 = []
      · subst h0
        have he : srtS (l.take (i + 1)) = [] ++ x :: S2 := by rw [hxs, ← hs, ins_done woS hso (.inl rfl) hgt]
        simp only [List.length_nil]
        repeat' (first | ((with_reducible apply oq_id); first | ((with_reducible apply oq_gtrF); exact rfl; exact rfl; omega) | (apply oq_fn; exact rfl; try first | exact trivial | (and_intros <;> omega))) | ((with_reducible apply gx_id); first | (with_reducible apply v_nil) | ((with_reducible apply v_q); (iterate 3 exact rfl)) | ((with_reducible apply v_skip); (iterate 3 exact rfl))) | ((with_reducible apply t_id); first | (with_reducible apply t_seq) | (apply t_drawn; kernel_rfl; decide +kernel; try simp only [List.append_eq, List.cons_append, List.nil_append]) | ((with_reducible apply t_condF); exact rfl) | (with_reducible apply t_exit)) | with_reducible apply q_thenN | with_reducible apply q_blockN | with_reducible apply q_thenE | ((with_reducible apply q_blockE); exact rfl))
        all_goals exact ⟨rfl, (g, cp), trivial, by (repeat (first | exact FrSub.nil | (apply FrSub.cons; exact rfl))), by (rw [he]; (repeat (first | exact HpSub.refl _ | (apply HpSub.consE; (repeat (first | exact P0 | apply P1)); exact rfl) | exact HpSub.nil)))⟩
      · obtain ⟨S, z, rfl⟩ := split_last0 h0
        simp only [List.length_append, List.length_cons, List.length_nil, Nat.zero_add] at hl12 ⊢
        have hst := ins_step0 (S := S) (S2 := S2) (z := z) (x := x)
        have hdx : ((S ++ [z]) ++ x :: S2)[S.length + 1]? = some x := get_at (by simp)
        have hdz : ((S ++ [z]) ++ x :: S2)[S.length]? = some z := by
          rw [show (S ++ [z]) ++ x :: S2 = S ++ z :: (x :: S2) by simp only [List.append_assoc, List.cons_append, List.nil_append]]
          exact get_at rfl
        have hstop : ltS x z = false → srtS (l.take (i + 1)) = (S ++ [z]) ++ x :: S2 := fun hc => by
          rw [hxs, ← hs, ins_done woS hso (.inr ⟨S, z, rfl, hc⟩) hgt]
        have hgo : ltS x z = true → (S ++ (z :: S2) = srtS (l.take i)) ∧ ∀ y ∈ z :: S2, ltS x y = true := fun hc => by
          refine ⟨by rw [← hs]; simp only [List.append_assoc, List.cons_append, List.nil_append], fun y hy => ?_⟩
          rcases List.mem_cons.1 hy with rfl | hy
          · exact hc
          · exact hgt y hy
        obtain ⟨D, hD⟩ : ∃ D, (S ++ [z]) ++ x :: S2 = D := ⟨_, rfl⟩
        rw [hD] at hdx hdz hst hstop ⊢
        have hdx2 : (D.set (S.length + 1) z)[S.length]? = some z := by rw [List.getElem?_set_ne (by omega)]; exact hdz
        obtain ⟨q0, q1, q2⟩ := sh_at hdx
        obtain ⟨r0, r1, r2⟩ := sh_at hdz
        by_cases h1 : x.who < z.who
        · obtain ⟨g1, g2⟩ := hgo (ltS_iff.2 (.inl h1))
          repeat' (first | ((with_reducible apply oq_id); first | ((with_reducible apply oq_subE (k := ((S.length : Nat) : Int))); exact rfl; exact rfl; omega) | (focus ((with_reducible apply oq_indexAddrN); (iterate 4 exact rfl); omega)) | ((with_reducible apply oq_lssT); exact rfl; exact rfl; omega) | ((with_reducible apply oq_gtrT); exact rfl; exact rfl; omega) | (apply oq_fn; exact rfl; try first | exact trivial | (and_intros <;> omega)) | ((with_reducible apply oq_load); exact rfl; exact rfl) | ((with_reducible apply oq_loadAgg); exact rfl; exact rfl)) | ((with_reducible apply tl_id); first | (with_reducible apply tl_nil) | ((with_reducible apply u_q); (iterate 4 exact rfl))) | ((with_reducible apply gx_id); first | (with_reducible apply v_nil) | ((with_reducible apply v_q); (iterate 3 exact rfl)) | ((with_reducible apply v_skip); (iterate 3 exact rfl))) | ((with_reducible apply os_id); first | ((with_reducible apply (os_storeSh z hdx rfl)); (iterate 3 exact rfl); (repeat (first | exact P0 | apply P1))) | ((with_reducible apply (os_storeSh x hdx2 hst)); (iterate 3 exact rfl); (repeat (first | exact P0 | apply P1)))) | ((with_reducible apply ai_id); first | ((with_reducible apply ai_q); (iterate 5 exact rfl)) | ((with_reducible apply ai_n0); (iterate 3 exact rfl))) | ((with_reducible apply al_keep); focus (repeat (first | exact HpSub.refl _ | (apply HpSub.cons; (repeat (first | exact P0 | apply P1))) | apply HpSub.skipX | exact HpSub.nil))) | ((with_reducible apply rd_id); first | (apply Rd.own; (repeat (first | exact P0 | apply P1)); first | exact q0 | exact q1 | exact q2 | exact r0 | exact r1 | exact r2; done)) | ((with_reducible apply t_id); first | (apply t_mixZ (id := 9) [0, 1, 2, 3, 4, 5, 6, 7, 8, 10, 11, 12] 6; kernel_rfl; kernel_rfl; exact rfl) | (with_reducible apply t_seq) | (apply t_region; kernel_rfl) | (apply t_drawn; kernel_rfl; decide +kernel; try simp only [List.append_eq, List.cons_append, List.nil_append]) | ((with_reducible apply t_condT); exact rfl) | (with_reducible apply t_skip) | (with_reducible apply t_block)) | with_reducible apply q_thenN | with_reducible apply q_blockN | exact Rdn.zero | apply Rdn.succ | ((with_reducible apply al_id); first | (apply al_done; decide +kernel) | (apply al_one 9; decide +kernel) | (apply al_one 13; decide +kernel) | (apply al_one 14; decide +kernel) | (apply al_one 15; decide +kernel) | (apply al_one 16; decide +kernel) | (apply al_one 17; decide +kernel) | (apply al_two 9 13; decide +kernel)))
          all_goals (refine ⟨(S, z :: S2), ⟨g1, g2⟩, (by simp only [List.length_append, List.length_cons, List.length_nil]; omega), ?_, ?_⟩ <;> (try simp only [List.cons_append, List.nil_append]) <;> (repeat' (first | exact FrSub.nil | (apply FrSub.cons; exact rfl) | exact HpSub.refl _)))
        by_cases h2 : x.who = z.who
        · by_cases h3 : x.fr < z.fr
          · obtain ⟨g1, g2⟩ := hgo (ltS_iff.2 (.inr ⟨h2, h3⟩))
            repeat' (first | ((with_reducible apply oq_id); first | ((with_reducible apply oq_subE (k := ((S.length : Nat) : Int))); exact rfl; exact rfl; omega) | (focus ((with_reducible apply oq_indexAddrN); (iterate 4 exact rfl); omega)) | ((with_reducible apply oq_lssT); exact rfl; exact rfl; omega) | ((with_reducible apply oq_lssF); exact rfl; exact rfl; omega) | ((with_reducible apply oq_gtrT); exact rfl; exact rfl; omega) | ((with_reducible apply oq_eqlT); exact rfl; exact rfl; omega) | (apply oq_fn; exact rfl; try first | exact trivial | (and_intros <;> omega)) | ((with_reducible apply oq_load); exact rfl; exact rfl) | ((with_reducible apply oq_loadAgg); exact rfl; exact rfl)) | ((with_reducible apply tl_id); first | (with_reducible apply tl_nil) | ((with_reducible apply u_q); (iterate 4 exact rfl))) | ((with_reducible apply gx_id); first | (with_reducible apply v_nil) | ((with_reducible apply v_q); (iterate 3 exact rfl))) | ((with_reducible apply os_id); first | ((with_reducible apply (os_storeSh z hdx rfl)); (iterate 3 exact rfl); (repeat (first | exact P0 | apply P1))) | ((with_reducible apply (os_storeSh x hdx2 hst)); (iterate 3 exact rfl); (repeat (first | exact P0 | apply P1)))) | ((with_reducible apply ai_id); first | ((with_reducible apply ai_q); (iterate 5 exact rfl)) | ((with_reducible apply ai_n0); (iterate 3 exact rfl))) | ((with_reducible apply al_keep); focus (repeat (first | exact HpSub.refl _ | (apply HpSub.cons; (repeat (first | exact P0 | apply P1))) | apply HpSub.skipX | exact HpSub.nil))) | ((with_reducible apply rd_id); first | (apply Rd.own; (repeat (first | exact P0 | apply P1)); first | exact q0 | exact q1 | exact q2 | exact r0 | exact r1 | exact r2; done)) | ((with_reducible apply t_id); first | (apply t_mixZ (id := 9) [0, 1, 2, 3, 4, 5, 6, 7, 8, 10, 11, 12] 6; kernel_rfl; kernel_rfl; exact rfl) | (with_reducible apply t_seq) | (apply t_region; kernel_rfl) | (apply t_drawn; kernel_rfl; decide +kernel; try simp only [List.append_eq, List.cons_append, List.nil_append]) | ((with_reducible apply t_condT); exact rfl) | (with_reducible apply t_skip) | (with_reducible apply t_block)) | with_reducible apply q_thenN | with_reducible apply q_blockN | exact Rdn.zero | apply Rdn.succ | ((with_reducible apply al_id); first | (apply al_done; decide +kernel) | (apply al_one 9; decide +kernel) | (apply al_one 13; decide +kernel) | (apply al_one 14; decide +kernel) | (apply al_one 15; decide +kernel) | (apply al_one 16; decide +kernel) | (apply al_one 17; decide +kernel) | (apply al_two 9 13; decide +kernel)))
            all_goals (refine ⟨(S, z :: S2), ⟨g1, g2⟩, (by simp only [List.length_append, List.length_cons, List.length_nil]; omega), ?_, ?_⟩ <;> (try simp only [List.cons_append, List.nil_append]) <;> (repeat' (first | exact FrSub.nil | (apply FrSub.cons; exact rfl) | exact HpSub.refl _)))
          · have he := hstop (ltS_no.2 (by omega))
            repeat' (first | ((with_reducible apply oq_id); first | ((with_reducible apply oq_subE (k := ((S.length : Nat) : Int))); exact rfl; exact rfl; omega) | (focus ((with_reducible apply oq_indexAddrN); (iterate 4 exact rfl); omega)) | ((with_reducible apply oq_lssF); exact rfl; exact rfl; omega) | ((with_reducible apply oq_gtrT); exact rfl; exact rfl; omega) | ((with_reducible apply oq_eqlT); exact rfl; exact rfl; omega) | (apply oq_fn; exact rfl; try first | exact trivial | (and_intros <;> omega)) | ((with_reducible apply oq_load); exact rfl; exact rfl)) | ((with_reducible apply gx_id); first | (with_reducible apply v_nil) | ((with_reducible apply v_q); (iterate 3 exact rfl))) | ((with_reducible apply rd_id); first | (apply Rd.own; (repeat (first | exact P0 | apply P1)); first | exact q0 | exact q1 | exact q2 | exact r0 | exact r1 | exact r2; done)) | ((with_reducible apply t_id); first | (with_reducible apply t_seq) | (apply t_drawn; kernel_rfl; decide +kernel; try simp only [List.append_eq, List.cons_append, List.nil_append]) | ((with_reducible apply t_condF); exact rfl) | (with_reducible apply t_exit)) | with_reducible apply q_thenN | with_reducible apply q_blockN | with_reducible apply q_thenE | ((with_reducible apply q_blockE); exact rfl))
            all_goals exact ⟨rfl, (g, cp), trivial, by (repeat (first | exact FrSub.nil | (apply FrSub.cons; exact rfl))), by (rw [he]; (repeat (first | exact HpSub.refl _ | (apply HpSub.consE; (repeat (first | exact P0 | apply P1)); exact rfl) | exact HpSub.nil)))⟩
        · have he := hstop (ltS_no.2 (by omega))
          repeat' (first | ((with_reducible apply oq_id); first | ((with_reducible apply oq_subE (k := ((S.length : Nat) : Int))); exact rfl; exact rfl; omega) | (focus ((with_reducible apply oq_indexAddrN); (iterate 4 exact rfl); omega)) | ((with_reducible apply oq_lssF); exact rfl; exact rfl; omega) | ((with_reducible apply oq_gtrT); exact rfl; exact rfl; omega) | ((with_reducible apply oq_eqlF); exact rfl; exact rfl; omega) | (apply oq_fn; exact rfl; try first | exact trivial | (and_intros <;> omega)) | ((with_reducible apply oq_load); exact rfl; exact rfl)) | ((with_reducible apply gx_id); first | (with_reducible apply v_nil) | ((with_reducible apply v_q); (iterate 3 exact rfl)) | ((with_reducible apply v_skip); (iterate 3 exact rfl))) | ((with_reducible apply rd_id); first | (apply Rd.own; (repeat (first | exact P0 | apply P1)); first | exact q0 | exact q1 | exact q2 | exact r0 | exact r1 | exact r2; done)) | ((with_reducible apply t_id); first | (with_reducible apply t_seq) | (apply t_drawn; kernel_rfl; decide +kernel; try simp only [List.append_eq, List.cons_append, List.nil_append]) | ((with_reducible apply t_condF); exact rfl) | (with_reducible apply t_exit)) | with_reducible apply q_thenN | with_reducible apply q_blockN | with_reducible apply q_thenE | ((with_reducible apply q_blockE); exact rfl))
          all_goals exact ⟨rfl, (g, cp), trivial, by (repeat (first | exact FrSub.nil | (apply FrSub.cons; exact rfl))), by (rw [he]; (repeat (first | exact HpSub.refl _ | (apply HpSub.consE; (repeat (first | exact P0 | apply P1)); exact rfl) | exact HpSub.nil)))⟩
    · rintro ⟨g, cp⟩ -
      try dsimp only
      repeat' (first | ((with_reducible apply oq_id); first | (apply oq_fn; exact rfl; try first | exact trivial | (and_intros <;> omega))) | ((with_reducible apply tl_id); first | (with_reducible apply tl_nil) | ((with_reducible apply u_q); (iterate 4 exact rfl))) | ((with_reducible apply t_id); first | (apply t_region; kernel_rfl)) | with_reducible apply q_thenN)
      all_goals (refine ⟨(i + 1, some (g, cp)), ⟨(by simp only; omega), fun h => by cases h⟩, (by simp only; omega), ?_, ?_⟩)
      all_goals (simp only [clA, clC, clH, List.append_nil])
      all_goals first
        | ((repeat (first | exact FrSub.nil | (apply FrSub.cons; exact rfl))); done)
        | ((repeat (first | exact HpSub.refl _ | (apply HpSub.consE; (repeat (first | exact P0 | apply P1)); exact rfl) | exact HpSub.nil)); done)
  · obtain rfl : i = n := by omega
    have hln : l.take i = l := List.take_of_length_le (by omega)
    rw [hln] at hsl ⊢
    repeat' (first | ((with_reducible apply oq_id); first | ((with_reducible apply oq_lssF); exact rfl; exact rfl; omega) | (apply oq_fn; exact rfl; try first | exact trivial | (and_intros <;> omega))) | ((with_reducible apply tl_id); first | (with_reducible apply tl_nil) | ((with_reducible apply u_q); (iterate 4 exact rfl))) | ((with_reducible apply t_id); first | (with_reducible apply t_seq) | (apply t_region; kernel_rfl) | ((with_reducible apply t_condF); exact rfl) | (with_reducible apply t_ret) | (with_reducible apply t_exit)) | with_reducible apply q_thenN | with_reducible apply q_thenE | ((with_reducible apply q_blockE); exact rfl) | (with_reducible apply end_ret) | exact rvs_nil | (with_reducible apply rvs_cons) | ((with_reducible apply rv_tmp); exact rfl))
    all_goals exact ⟨_, ⟨o, (fun h => by rw [hsl]; exact ho h), by rw [hsl]; rfl, rfl⟩, HpSub.refl _⟩
end Go.Proofs.Ytmlmgipngbndgaa
