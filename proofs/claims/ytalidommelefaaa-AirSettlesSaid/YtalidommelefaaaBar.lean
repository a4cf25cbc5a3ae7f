/- Barometers: the pressure at a height. -/
import Derived.Test.YtalidommelefaaaSet4
namespace Go.Proofs.Ytalidommelefaaa
open Go.RowKit
attribute [local irreducible] OQ OS OX Rd T TL GX GL AL AI RV wpG SAny Calls
set_option maxRecDepth 100000
set_option maxHeartbeats 2000000
set_option linter.unusedVariables false
set_option linter.unusedSimpArgs false


/-- The pressure at a height of a settled sounding. -/
def prV : List Lv → Int → Int × Int
  | a :: b :: r, h => if h = a.h then a.press else if h < b.h then (max (riseV a.press (h - a.h) (gapT a b)).1 b.plo, (riseV a.press (h - a.h) (gapT a b)).2) else prV (b :: r) h
  | [a], _ => a.press
  | [], _ => (0, 0)
/-- Heights grow. -/
def Hg (l : List Lv) : Prop := ∀ {i j : Nat} {x y : Lv}, i < j → l[i]? = some x → l[j]? = some y → x.h < y.h
theorem Hg.tail {a : Lv} {l : List Lv} (h : Hg (a :: l)) : Hg l := fun {i j x y} hij hx hy => h (i := i + 1) (j := j + 1) (by omega) (by simpa using hx) (by simpa using hy)
theorem prV_at : ∀ {l : List Lv}, Hg l → ∀ {i : Nat} {a : Lv}, l[i]? = some a → prV l a.h = a.press
  | [], _, i, a, h => by simp at h
  | [x], _, i, a, h => by
    cases i with
    | zero => obtain rfl : x = a := by simpa using h
              rfl
    | succ i => simp at h
  | x :: y :: r, hg, i, a, h => by
    cases i with
    | zero =>
      obtain rfl : x = a := by simpa using h
      unfold prV; rw [if_pos rfl]
    | succ i =>
      have h1 : x.h < a.h := hg (i := 0) (by omega) rfl h
      have h2 : ¬ a.h < y.h := by
        cases i with
        | zero => obtain rfl : y = a := by simpa using h
                  omega
        | succ i => have := hg (i := 1) (j := i + 2) (x := y) (by omega) rfl h; omega
      unfold prV
      rw [if_neg (by omega), if_neg h2]
      exact prV_at hg.tail (i := i) (by simpa using h)
theorem prV_mid : ∀ {l : List Lv}, Hg l → ∀ {i : Nat} {a b : Lv} {h : Int}, l[i]? = some a → l[i + 1]? = some b → a.h < h → h < b.h → prV l h = (max (riseV a.press (h - a.h) (gapT a b)).1 b.plo, (riseV a.press (h - a.h) (gapT a b)).2)
  | [], _, i, a, b, h, ha, _, _, _ => by simp at ha
  | [x], _, i, a, b, h, _, hb, _, _ => by simp at hb
  | x :: y :: r, hg, i, a, b, h, ha, hb, h1, h2 => by
    cases i with
    | zero =>
      obtain rfl : x = a := by simpa using ha
      obtain rfl : y = b := by simpa using hb
      unfold prV
      rw [if_neg (by omega), if_pos h2]
    | succ i =>
      have k1 : x.h < a.h := hg (i := 0) (by omega) rfl ha
      have k2 : y.h ≤ a.h := by
        cases i with
        | zero => obtain rfl : y = a := by simpa using ha
                  omega
        | succ i => have := hg (i := 1) (j := i + 2) (x := y) (by omega) rfl ha; omega
      unfold prV
      rw [if_neg (by omega), if_neg (by omega)]
      exact prV_mid hg.tail (i := i) (by simpa using ha) (by simpa using hb) h1 h2
theorem Snd.hg {l cur : List Lv} (hs : Snd l) (ht : Tt cur l) : Hg cur := fun {i j x y} hij hx hy => by
  have hl := ht.len
  have h1 := (List.getElem?_eq_some_iff.1 hx).1
  have h2 := (List.getElem?_eq_some_iff.1 hy).1
  have kx : l[i]? = some l[i] := List.getElem?_eq_getElem (by omega)
  have ky : l[j]? = some l[j] := List.getElem?_eq_getElem (by omega)
  have e1 := (ht.get hx kx).1
  have e2 := (ht.get hy ky).1
  have t1 : (tabOf l)[i]? = some (knOf l[i]) := by simp [tabOf, kx]
  have t2 : (tabOf l)[j]? = some (knOf l[j]) := by simp [tabOf, ky]
  have : (knOf l[i]).x < (knOf l[j]).x := hs.tab.inc.at_ hij t1 t2
  have a1 : (knOf l[i]).x = l[i].h := rfl
  have a2 : (knOf l[j]).x = l[j].h := rfl
  omega
/-- Where a height lies: the first level that is not below it. -/
theorem hg_find {l : List Lv} (hg : Hg l) (h : Int) : ∃ r, r ≤ l.length ∧ (∀ j x, j < r → l[j]? = some x → x.h < h) ∧ ∀ j x, r ≤ j → l[j]? = some x → h ≤ x.h := by
  obtain ⟨r, h1, h2, h3⟩ := mono_cut (p := fun j => match l[j]? with | some x => decide (h ≤ x.h) | none => true) l.length (fun i j hij hj => by
    have ei : l[i]? = some l[i] := List.getElem?_eq_getElem (by omega)
    have ej : l[j]? = some l[j] := List.getElem?_eq_getElem hj
    simp only [ei, ej, decide_eq_true_eq]
    intro k
    rcases Nat.lt_or_eq_of_le hij with e | e
    · have := hg e ei ej; omega
    · subst e; exact k)
  refine ⟨r, h1, fun j x hj hx => ?_, fun j x hj hx => ?_⟩
  · have := h2 j hj; simp only [hx, decide_eq_false_iff_not] at this; omega
  · have := h3 j hj (List.getElem?_eq_some_iff.1 hx).1; simp only [hx, decide_eq_true_eq] at this; exact this


theorem cmp_calls (h a b c d t : Int) (hh : -100000 ≤ h ∧ h ≤ 100000) (ht : -100000 ≤ t ∧ t ≤ 100000) (w : World) : Calls Try.prog 132 #[.agg #[.int .i64 h, .int .i64 a, .int .i64 b, .int .i64 c, .int .i64 d], .int .i64 t] w fun e w' => e = .returned (.int .i64 (h - t)) ∧ Ext w w' := by
  refine enterQ (c := cx w 9) Try.func132 rfl rfl rfl rfl ?_
  repeat' (first | ((with_reducible apply oq_id); first | (apply oq_fn; exact rfl; first | exact trivial | (refine ⟨?_, ?_⟩ <;> omega) | (refine ⟨?_, ?_, ?_⟩ <;> omega) | omega | skip) | ((with_reducible apply oq_load); exact rfl; exact rfl) | ((with_reducible apply oq_loadAgg); exact rfl; exact rfl)) | ((with_reducible apply tl_id); first | ((with_reducible apply tl_nil)) | ((with_reducible apply u_q); exact rfl; exact rfl; exact rfl; exact rfl) | ((with_reducible apply u_s); exact rfl; exact rfl; exact rfl)) | ((with_reducible apply os_id); first | ((with_reducible apply os_x); exact rfl)) | ((with_reducible apply ox_id); first | ((with_reducible apply ox_box); exact rfl; exact rfl; intro _) | ((with_reducible apply ox_boxAgg); exact rfl; intro _)) | ((with_reducible apply rd_id); first | (apply Rd.own; (repeat (first | exact P0 | apply P1)); exact rfl; done) | (apply Rd.old; (first | (with_reducible assumption)); first | exact List.not_mem_nil)) | ((with_reducible apply t_id); first | ((with_reducible apply t_seq)) | (apply t_region; kernel_rfl) | ((with_reducible apply t_ret))) | with_reducible apply q_thenN | with_reducible apply q_thenR | exact P0 | ((with_reducible apply P1)) | exact Rdn.zero | apply Rdn.succ | ((with_reducible apply Norm.nil); exact rfl) | ((with_reducible apply Norm.cons); exact rfl) | ((with_reducible apply end_ret)) | ((with_reducible apply end_normal)) | exact rvs_nil | ((with_reducible apply rvs_cons)) | ((with_reducible apply rv_tmp); exact rfl) | exact Nat.le_of_ble_eq_true rfl | exact (rfl : (_ : Bool) = true) | omega | (intro _ _; with_reducible apply tl_id) | (intro _; with_reducible apply tl_id) | (intro _ _; with_reducible apply al_id) | (intro _; with_reducible apply al_id))
  all_goals rfl


theorem bsearch_calls (A : Option Addr) (n c : Nat) (l : List Lv) (h : Int) (r : Nat) (w : World) (hr : RdS w 5 A n (l.map lvCells)) (hn : n ≤ 1000000) (hb : -100000 ≤ h ∧ h ≤ 100000) (hlb : ∀ x ∈ l, -100000 ≤ x.h ∧ x.h ≤ 100000)
    (hrn : r ≤ n) (h1 : ∀ j x, j < r → l[j]? = some x → x.h < h) (h2 : ∀ j x, r ≤ j → l[j]? = some x → h ≤ x.h) :
    Calls Try.prog 131 #[.slice A n c, .int .i64 h, .func (.func 132) #[] #[]] w fun e w' => e = .returned (.tuple #[.int .i64 (r : Int), .bool (match l[r]? with | some x => decide (x.h = h) | none => false)]) ∧ Ext w w' := by
  have hl := hr.len
  simp only [List.length_map] at hl
  refine enterQ (c := cx w 49) Try.func131 rfl rfl rfl rfl ?_
  repeat' (first | ((with_reducible apply oq_id); first | (apply oq_fn; exact rfl; first | exact trivial | (refine ⟨?_, ?_⟩ <;> omega) | (refine ⟨?_, ?_, ?_⟩ <;> omega) | omega | skip) | ((with_reducible apply oq_load); exact rfl; exact rfl) | ((with_reducible apply oq_loadAgg); exact rfl; exact rfl)) | ((with_reducible apply tl_id); first | ((with_reducible apply tl_nil)) | ((with_reducible apply u_q); exact rfl; exact rfl; exact rfl; exact rfl) | ((with_reducible apply u_s0); exact rfl; exact rfl) | ((with_reducible apply u_s); exact rfl; exact rfl; exact rfl) | ((with_reducible apply u_skip); exact rfl; exact rfl; exact rfl) | ((with_reducible apply u_splitD); exact rfl; exact rfl; all_goals first | (intro hp; try (exfalso; omega)) | skip) | ((with_reducible apply u_splitN); exact rfl; exact rfl; all_goals first | (intro hp; try (exfalso; omega)) | skip) | ((with_reducible apply u_split); exact rfl; exact rfl; all_goals first | intro hp | skip)) | ((with_reducible apply rd_id); first | (apply Rd.own; (repeat (first | exact P0 | apply P1)); exact rfl; done) | (apply Rd.old; (first | (with_reducible assumption) | exact c0 | exact c1 | exact c2 | exact c3 | exact c4); first | exact List.not_mem_nil)) | ((with_reducible apply t_id); first | ((with_reducible apply t_seq)) | (apply t_region; kernel_rfl) | ((with_reducible apply t_condT); exact rfl) | ((with_reducible apply t_condF); exact rfl) | ((with_reducible apply t_condD); exact rfl; all_goals first | (intro hp; try (exfalso; omega)) | skip) | ((with_reducible apply t_condN); exact rfl; all_goals first | (intro hp; try (exfalso; omega)) | skip) | ((with_reducible apply t_cond); exact rfl; all_goals first | intro hp | skip) | ((with_reducible apply t_ret)) | ((with_reducible apply t_skip)) | ((with_reducible apply t_exit)) | ((with_reducible apply t_block))) | with_reducible apply q_thenN | with_reducible apply q_thenR | with_reducible apply q_blockR | with_reducible apply q_blockN | with_reducible apply q_thenE | ((with_reducible apply q_blockE); exact rfl) | ((with_reducible apply q_blockO); exact rfl) | exact P0 | ((with_reducible apply P1)) | exact Rdn.zero | apply Rdn.succ | ((with_reducible apply Norm.nil); exact rfl) | ((with_reducible apply Norm.cons); exact rfl) | ((with_reducible apply end_ret)) | ((with_reducible apply end_normal)) | exact rvs_nil | ((with_reducible apply rvs_cons)) | ((with_reducible apply rv_tmp); exact rfl) | exact Nat.le_of_ble_eq_true rfl | exact (rfl : (_ : Bool) = true) | omega | (intro _ _; with_reducible apply tl_id) | (intro _; with_reducible apply tl_id) | (intro _ _; with_reducible apply al_id) | (intro _; with_reducible apply al_id))
  apply t_loopK (ι := (Nat × Nat)) [0, 1, 2, 6, 7, 8, 35, 36, 37, 38, 39, 40, 41, 42, 43, 44, 45, 46, 47, 48] (fun (i : Nat × Nat) => [(9, .int .i64 (i.1 : Int)), (10, .int .i64 (i.2 : Int))]) (fun _ => []) (fun i => i.1 ≤ r ∧ r ≤ i.2 ∧ i.2 ≤ n) (fun i => i.2 - i.1) ((0, n))
  (repeat (first | exact KeepF.nil | (apply KeepF.cons; exact rfl) | apply KeepF.skip))
  (repeat (first | exact FrSub.nil | (apply FrSub.cons; exact rfl)))
  (repeat (first | exact HpSub.refl _ | (apply HpSub.consE; (repeat (first | exact P0 | apply P1)); exact rfl) | exact HpSub.nil))
  · simp only; omega
  rintro ⟨i, j⟩ ⟨i0, i1, i2⟩
  simp only at i0 i1 i2
  dsimp only
  by_cases hij : i < j
  · obtain ⟨b, o, x, rfl, _, hx, c0, c1, c2, c3, c4⟩ := lv_read hr (show (i + j) / 2 < n by omega)
    have hxb := hlb x (List.mem_of_getElem? hx)
    by_cases hlt : x.h < h
    · have hlt2 : (i + j) / 2 < r := by
        rcases Nat.lt_or_ge ((i + j) / 2) r with k | k
        · exact k
        · have := h2 _ _ k hx; omega
      repeat' (first | ((with_reducible apply oq_id); first | (focus ((with_reducible apply oq_indexAddrN); exact rfl; exact rfl; exact rfl; exact rfl; omega)) | (apply oq_fn; exact rfl; first | exact trivial | (refine ⟨?_, ?_⟩ <;> omega) | (refine ⟨?_, ?_, ?_⟩ <;> omega) | omega | skip) | ((with_reducible apply oq_load); exact rfl; exact rfl) | ((with_reducible apply oq_loadAgg); exact rfl; exact rfl) | (focus ((with_reducible apply oq_shr1N (a := i + j)); exact rfl; exact rfl; omega)) | (focus ((with_reducible apply oq_convU); exact rfl; exact rfl; exact rfl; (refine ⟨?_, ?_⟩ <;> omega))) | ((with_reducible apply oq_call (k := 132) (hc := Try.call132)); exact rfl; exact rfl; exact fun D w1 hw1 => cmp_calls _ _ _ _ _ _ hxb hb w1)) | ((with_reducible apply tl_id); first | ((with_reducible apply tl_nil)) | ((with_reducible apply u_q); exact rfl; exact rfl; exact rfl; exact rfl) | ((with_reducible apply u_s0); exact rfl; exact rfl) | ((with_reducible apply u_s); exact rfl; exact rfl; exact rfl) | ((with_reducible apply u_skip); exact rfl; exact rfl; exact rfl) | ((with_reducible apply u_splitD); exact rfl; exact rfl; all_goals first | (intro hp; try (exfalso; omega)) | skip) | ((with_reducible apply u_splitN); exact rfl; exact rfl; all_goals first | (intro hp; try (exfalso; omega)) | skip) | ((with_reducible apply u_split); exact rfl; exact rfl; all_goals first | intro hp | skip)) | ((with_reducible apply rd_id); first | (apply Rd.own; (repeat (first | exact P0 | apply P1)); exact rfl; done) | (apply Rd.old; (first | (with_reducible assumption) | exact c0 | exact c1 | exact c2 | exact c3 | exact c4); first | exact List.not_mem_nil)) | ((with_reducible apply t_id); first | ((with_reducible apply t_seq)) | (apply t_region; kernel_rfl) | ((with_reducible apply t_condT); exact rfl) | ((with_reducible apply t_condF); exact rfl) | ((with_reducible apply t_condD); exact rfl; all_goals first | (intro hp; try (exfalso; omega)) | skip) | ((with_reducible apply t_condN); exact rfl; all_goals first | (intro hp; try (exfalso; omega)) | skip) | ((with_reducible apply t_cond); exact rfl; all_goals first | intro hp | skip) | ((with_reducible apply t_ret)) | ((with_reducible apply t_skip)) | ((with_reducible apply t_exit)) | ((with_reducible apply t_block))) | with_reducible apply q_thenN | with_reducible apply q_thenR | with_reducible apply q_blockR | with_reducible apply q_blockN | with_reducible apply q_thenE | ((with_reducible apply q_blockE); exact rfl) | ((with_reducible apply q_blockO); exact rfl) | exact P0 | ((with_reducible apply P1)) | exact Rdn.zero | apply Rdn.succ | ((with_reducible apply Norm.nil); exact rfl) | ((with_reducible apply Norm.cons); exact rfl) | ((with_reducible apply end_ret)) | ((with_reducible apply end_normal)) | exact rvs_nil | ((with_reducible apply rvs_cons)) | ((with_reducible apply rv_tmp); exact rfl) | exact Nat.le_of_ble_eq_true rfl | exact (rfl : (_ : Bool) = true) | omega | (intro _ _; with_reducible apply tl_id) | (intro _; with_reducible apply tl_id) | (intro _ _; with_reducible apply al_id) | (intro _; with_reducible apply al_id))
      all_goals (refine ⟨((i + j) / 2 + 1, j), ⟨by simp only; omega, i1, i2⟩, by simp only; omega, ?_, ?_⟩ <;> (repeat' (first | exact FrSub.nil | (apply FrSub.cons; exact rfl) | (apply FrSub.consE; exact rfl; (show Value.int _ _ = Value.int _ _; congr 1)) | exact HpSub.refl _ | (apply HpSub.consE; (repeat (first | exact P0 | apply P1)); exact rfl) | exact HpSub.nil)))
    · have hge : r ≤ (i + j) / 2 := by
        rcases Nat.lt_or_ge ((i + j) / 2) r with k | k
        · have := h1 _ _ k hx; omega
        · exact k
      repeat' (first | ((with_reducible apply oq_id); first | (focus ((with_reducible apply oq_indexAddrN); exact rfl; exact rfl; exact rfl; exact rfl; omega)) | (apply oq_fn; exact rfl; first | exact trivial | (refine ⟨?_, ?_⟩ <;> omega) | (refine ⟨?_, ?_, ?_⟩ <;> omega) | omega | skip) | ((with_reducible apply oq_load); exact rfl; exact rfl) | ((with_reducible apply oq_loadAgg); exact rfl; exact rfl) | (focus ((with_reducible apply oq_shr1N (a := i + j)); exact rfl; exact rfl; omega)) | (focus ((with_reducible apply oq_convU); exact rfl; exact rfl; exact rfl; (refine ⟨?_, ?_⟩ <;> omega))) | ((with_reducible apply oq_call (k := 132) (hc := Try.call132)); exact rfl; exact rfl; exact fun D w1 hw1 => cmp_calls _ _ _ _ _ _ hxb hb w1)) | ((with_reducible apply tl_id); first | ((with_reducible apply tl_nil)) | ((with_reducible apply u_q); exact rfl; exact rfl; exact rfl; exact rfl) | ((with_reducible apply u_s0); exact rfl; exact rfl) | ((with_reducible apply u_s); exact rfl; exact rfl; exact rfl) | ((with_reducible apply u_skip); exact rfl; exact rfl; exact rfl) | ((with_reducible apply u_splitD); exact rfl; exact rfl; all_goals first | (intro hp; try (exfalso; omega)) | skip) | ((with_reducible apply u_splitN); exact rfl; exact rfl; all_goals first | (intro hp; try (exfalso; omega)) | skip) | ((with_reducible apply u_split); exact rfl; exact rfl; all_goals first | intro hp | skip)) | ((with_reducible apply rd_id); first | (apply Rd.own; (repeat (first | exact P0 | apply P1)); exact rfl; done) | (apply Rd.old; (first | (with_reducible assumption) | exact c0 | exact c1 | exact c2 | exact c3 | exact c4); first | exact List.not_mem_nil)) | ((with_reducible apply t_id); first | ((with_reducible apply t_seq)) | (apply t_region; kernel_rfl) | ((with_reducible apply t_condT); exact rfl) | ((with_reducible apply t_condF); exact rfl) | ((with_reducible apply t_condD); exact rfl; all_goals first | (intro hp; try (exfalso; omega)) | skip) | ((with_reducible apply t_condN); exact rfl; all_goals first | (intro hp; try (exfalso; omega)) | skip) | ((with_reducible apply t_cond); exact rfl; all_goals first | intro hp | skip) | ((with_reducible apply t_ret)) | ((with_reducible apply t_skip)) | ((with_reducible apply t_exit)) | ((with_reducible apply t_block))) | with_reducible apply q_thenN | with_reducible apply q_thenR | with_reducible apply q_blockR | with_reducible apply q_blockN | with_reducible apply q_thenE | ((with_reducible apply q_blockE); exact rfl) | ((with_reducible apply q_blockO); exact rfl) | exact P0 | ((with_reducible apply P1)) | exact Rdn.zero | apply Rdn.succ | ((with_reducible apply Norm.nil); exact rfl) | ((with_reducible apply Norm.cons); exact rfl) | ((with_reducible apply end_ret)) | ((with_reducible apply end_normal)) | exact rvs_nil | ((with_reducible apply rvs_cons)) | ((with_reducible apply rv_tmp); exact rfl) | exact Nat.le_of_ble_eq_true rfl | exact (rfl : (_ : Bool) = true) | omega | (intro _ _; with_reducible apply tl_id) | (intro _; with_reducible apply tl_id) | (intro _ _; with_reducible apply al_id) | (intro _; with_reducible apply al_id))
      all_goals (refine ⟨(i, (i + j) / 2), ⟨i0, hge, by simp only; omega⟩, by simp only; omega, ?_, ?_⟩ <;> (repeat' (first | exact FrSub.nil | (apply FrSub.cons; exact rfl) | exact HpSub.refl _ | (apply HpSub.consE; (repeat (first | exact P0 | apply P1)); exact rfl) | exact HpSub.nil)))
  · obtain rfl : i = j := by omega
    obtain rfl : i = r := by omega
    by_cases hin : i < n
    · obtain ⟨b, o, x, rfl, _, hx, c0, c1, c2, c3, c4⟩ := lv_read hr hin
      have hxb := hlb x (List.mem_of_getElem? hx)
      simp only [hx]
      have e : decide (x.h = h) = decide (x.h - h = 0) := by rw [Bool.eq_iff_iff, decide_eq_true_eq, decide_eq_true_eq]; omega
      rw [e]
      repeat' (first | ((with_reducible apply oq_id); first | (focus ((with_reducible apply oq_indexAddrN); exact rfl; exact rfl; exact rfl; exact rfl; omega)) | (apply oq_fn; exact rfl; first | exact trivial | (refine ⟨?_, ?_⟩ <;> omega) | (refine ⟨?_, ?_, ?_⟩ <;> omega) | omega | skip) | ((with_reducible apply oq_load); exact rfl; exact rfl) | ((with_reducible apply oq_loadAgg); exact rfl; exact rfl) | (focus ((with_reducible apply oq_shr1N (a := i + j)); exact rfl; exact rfl; omega)) | (focus ((with_reducible apply oq_convU); exact rfl; exact rfl; exact rfl; (refine ⟨?_, ?_⟩ <;> omega))) | ((with_reducible apply oq_call (k := 132) (hc := Try.call132)); exact rfl; exact rfl; exact fun D w1 hw1 => cmp_calls _ _ _ _ _ _ hxb hb w1)) | ((with_reducible apply tl_id); first | ((with_reducible apply tl_nil)) | ((with_reducible apply u_q); exact rfl; exact rfl; exact rfl; exact rfl) | ((with_reducible apply u_s0); exact rfl; exact rfl) | ((with_reducible apply u_s); exact rfl; exact rfl; exact rfl) | ((with_reducible apply u_skip); exact rfl; exact rfl; exact rfl) | ((with_reducible apply u_splitD); exact rfl; exact rfl; all_goals first | (intro hp; try (exfalso; omega)) | skip) | ((with_reducible apply u_splitN); exact rfl; exact rfl; all_goals first | (intro hp; try (exfalso; omega)) | skip) | ((with_reducible apply u_split); exact rfl; exact rfl; all_goals first | intro hp | skip)) | ((with_reducible apply rd_id); first | (apply Rd.own; (repeat (first | exact P0 | apply P1)); exact rfl; done) | (apply Rd.old; (first | (with_reducible assumption) | exact c0 | exact c1 | exact c2 | exact c3 | exact c4); first | exact List.not_mem_nil)) | ((with_reducible apply t_id); first | ((with_reducible apply t_seq)) | (apply t_region; kernel_rfl) | ((with_reducible apply t_condT); exact rfl) | ((with_reducible apply t_condF); exact rfl) | ((with_reducible apply t_condD); exact rfl; all_goals first | (intro hp; try (exfalso; omega)) | skip) | ((with_reducible apply t_condN); exact rfl; all_goals first | (intro hp; try (exfalso; omega)) | skip) | ((with_reducible apply t_cond); exact rfl; all_goals first | intro hp | skip) | ((with_reducible apply t_ret)) | ((with_reducible apply t_skip)) | ((with_reducible apply t_exit)) | ((with_reducible apply t_block))) | with_reducible apply q_thenN | with_reducible apply q_thenR | with_reducible apply q_blockR | with_reducible apply q_blockN | with_reducible apply q_thenE | ((with_reducible apply q_blockE); exact rfl) | ((with_reducible apply q_blockO); exact rfl) | exact P0 | ((with_reducible apply P1)) | exact Rdn.zero | apply Rdn.succ | ((with_reducible apply Norm.nil); exact rfl) | ((with_reducible apply Norm.cons); exact rfl) | ((with_reducible apply end_ret)) | ((with_reducible apply end_normal)) | exact rvs_nil | ((with_reducible apply rvs_cons)) | ((with_reducible apply rv_tmp); exact rfl) | exact Nat.le_of_ble_eq_true rfl | exact (rfl : (_ : Bool) = true) | omega | (intro _ _; with_reducible apply tl_id) | (intro _; with_reducible apply tl_id) | (intro _ _; with_reducible apply al_id) | (intro _; with_reducible apply al_id))
      all_goals rfl
    · have : l[i]? = none := List.getElem?_eq_none (by omega)
      simp only [this]
      repeat' (first | ((with_reducible apply oq_id); first | (apply oq_fn; exact rfl; first | exact trivial | (refine ⟨?_, ?_⟩ <;> omega) | (refine ⟨?_, ?_, ?_⟩ <;> omega) | omega | skip) | ((with_reducible apply oq_load); exact rfl; exact rfl) | ((with_reducible apply oq_loadAgg); exact rfl; exact rfl)) | ((with_reducible apply tl_id); first | ((with_reducible apply tl_nil)) | ((with_reducible apply u_q); exact rfl; exact rfl; exact rfl; exact rfl) | ((with_reducible apply u_s0); exact rfl; exact rfl) | ((with_reducible apply u_s); exact rfl; exact rfl; exact rfl) | ((with_reducible apply u_skip); exact rfl; exact rfl; exact rfl) | ((with_reducible apply u_splitD); exact rfl; exact rfl; all_goals first | (intro hp; try (exfalso; omega)) | skip) | ((with_reducible apply u_splitN); exact rfl; exact rfl; all_goals first | (intro hp; try (exfalso; omega)) | skip) | ((with_reducible apply u_split); exact rfl; exact rfl; all_goals first | intro hp | skip)) | ((with_reducible apply rd_id); first | (apply Rd.own; (repeat (first | exact P0 | apply P1)); exact rfl; done) | (apply Rd.old; (first | (with_reducible assumption) | exact c0 | exact c1 | exact c2 | exact c3 | exact c4); first | exact List.not_mem_nil)) | ((with_reducible apply t_id); first | ((with_reducible apply t_seq)) | (apply t_region; kernel_rfl) | ((with_reducible apply t_condT); exact rfl) | ((with_reducible apply t_condF); exact rfl) | ((with_reducible apply t_condD); exact rfl; all_goals first | (intro hp; try (exfalso; omega)) | skip) | ((with_reducible apply t_condN); exact rfl; all_goals first | (intro hp; try (exfalso; omega)) | skip) | ((with_reducible apply t_cond); exact rfl; all_goals first | intro hp | skip) | ((with_reducible apply t_ret)) | ((with_reducible apply t_skip)) | ((with_reducible apply t_exit)) | ((with_reducible apply t_block))) | with_reducible apply q_thenN | with_reducible apply q_thenR | with_reducible apply q_blockR | with_reducible apply q_blockN | with_reducible apply q_thenE | ((with_reducible apply q_blockE); exact rfl) | ((with_reducible apply q_blockO); exact rfl) | exact P0 | ((with_reducible apply P1)) | exact Rdn.zero | apply Rdn.succ | ((with_reducible apply Norm.nil); exact rfl) | ((with_reducible apply Norm.cons); exact rfl) | ((with_reducible apply end_ret)) | ((with_reducible apply end_normal)) | exact rvs_nil | ((with_reducible apply rvs_cons)) | ((with_reducible apply rv_tmp); exact rfl) | exact Nat.le_of_ble_eq_true rfl | exact (rfl : (_ : Bool) = true) | omega | (intro _ _; with_reducible apply tl_id) | (intro _; with_reducible apply tl_id) | (intro _ _; with_reducible apply al_id) | (intro _; with_reducible apply al_id))
      all_goals rfl


theorem tell_calls (b1 b6 bk g cap gk ck n : Nat) (l cur : List Lv) (h : Int) (w : World) (hs : Snd l) (hl : l.length = n) (ho : OkL l cur) (hr : RdS w 5 (some ⟨g, 0, none⟩) n (cur.map lvCells)) (m0 : w.cell? ⟨b1, 0, none⟩ = some (.slice (some ⟨g, 0, none⟩) n cap))
    (m1 : w.cell? ⟨b6, 0, none⟩ = some (.func (.func 133) #[] #[.pointer (some ⟨bk, 0, none⟩)])) (m2 : w.cell? ⟨bk, 0, none⟩ = some (.slice (some ⟨gk, 0, none⟩) n ck)) (hk : RdS w 3 (some ⟨gk, 0, none⟩) n ((tabOf l).map knCells))
    (h0 : ∀ a, l[0]? = some a → a.h ≤ h) (h1 : ∀ a, l[n - 1]? = some a → h ≤ a.h) :
    Calls Try.prog 130 #[.int .i64 h, .pointer (some ⟨b1, 0, none⟩), .pointer (some ⟨b6, 0, none⟩)] w fun e w' => e = .returned (.agg #[.int .i64 (prV cur h).1, .int .i64 (prV cur h).2]) ∧ Ext w w' := by
  have hcl := ho.tt.len
  have n2 := hs.n2
  have n16 := hs.n16
  have hg : Hg cur := hs.hg ho.tt
  obtain ⟨r, hr1, hr2, hr3⟩ := hg_find hg h
  have k0 : l[0]? = some l[0] := List.getElem?_eq_getElem (by omega)
  have kn : l[n - 1]? = some l[n - 1] := List.getElem?_eq_getElem (by omega)
  have hb0 := hs.ok _ (List.mem_of_getElem? k0)
  have hbn := hs.ok _ (List.mem_of_getElem? kn)
  have hh0 := h0 _ k0
  have hhn := h1 _ kn
  have hrn : r < n := by
    rcases Nat.lt_or_ge r n with k | k
    · exact k
    · have kc : cur[n - 1]? = some cur[n - 1] := List.getElem?_eq_getElem (by omega)
      have := hr2 (n - 1) _ (by omega) kc
      have := (ho.tt.get kc kn).1
      omega
  have HB := fun w1 (hx : Ext w w1) => bsearch_calls (some ⟨g, 0, none⟩) n cap cur h r w1 (hr.ext hx) (by omega) (by omega) (fun x hx => by obtain ⟨y, hy, e, _⟩ := ho.tt.mem_of hx; have := hs.ok y hy; omega) (by omega) hr2 hr3
  obtain ⟨bb, ob, b, hA, _, hb, d0, d1, d2, d3, d4⟩ := lv_read hr hrn
  obtain ⟨rfl, rfl⟩ : g = bb ∧ 0 = ob := by simpa using hA
  by_cases heq : b.h = h
  · have hv : prV cur h = b.press := by rw [← heq]; exact prV_at hg hb
    simp only [hb, heq, decide_true] at HB
    rw [hv]
    refine enterQ (c := cx w 52) Try.func130 rfl rfl rfl rfl ?_
    repeat' (first | ((with_reducible apply oq_id); first | (focus ((with_reducible apply oq_indexAddrN); exact rfl; exact rfl; exact rfl; exact rfl; omega)) | (apply oq_fn; exact rfl; first | exact trivial | (refine ⟨?_, ?_⟩ <;> omega) | (refine ⟨?_, ?_, ?_⟩ <;> omega) | omega | skip) | ((with_reducible apply oq_load); exact rfl; exact rfl) | ((with_reducible apply oq_loadAgg); exact rfl; exact rfl) | ((with_reducible apply oq_call (k := 131) (hc := Try.call131)); exact rfl; exact rfl; exact fun D w1 hw1 => HB w1 hw1.ext.ext) | ((with_reducible apply oq_call (k := 133) (hc := Try.call133)); exact rfl; exact rfl; exact fun D w1 hw1 => HT w1 hw1.ext.ext) | ((with_reducible apply oq_call (k := 103) (hc := Try.call103)); exact rfl; exact rfl; exact fun D w1 hw1 => HK w1)) | ((with_reducible apply tl_id); first | ((with_reducible apply tl_nil)) | ((with_reducible apply u_q); exact rfl; exact rfl; exact rfl; exact rfl) | ((with_reducible apply u_s0); exact rfl; exact rfl) | ((with_reducible apply u_s); exact rfl; exact rfl; exact rfl)) | ((with_reducible apply gx_id); first | ((with_reducible apply v_nil)) | ((with_reducible apply v_q); exact rfl; exact rfl; exact rfl)) | ((with_reducible apply os_id); first | ((with_reducible apply os_x); exact rfl) | ((with_reducible apply os_store); exact rfl; exact rfl; exact rfl; exact rfl) | ((with_reducible apply os_storeAgg); exact rfl; exact rfl; exact rfl; exact rfl; exact rfl)) | ((with_reducible apply ox_id); first | ((with_reducible apply ox_alloc); exact rfl; intro _)) | ((with_reducible apply rd_id); first | (apply Rd.old; exact m0; exact List.not_mem_nil) | (apply Rd.old; exact m1; exact List.not_mem_nil) | (apply Rd.own; (repeat (first | exact P0 | apply P1)); exact rfl; done) | (apply Rd.old; (first | (with_reducible assumption) | exact c0 | exact c1 | exact c2 | exact c3 | exact c4 | exact d0 | exact d1 | exact d2 | exact d3 | exact d4); first | exact List.not_mem_nil | exact m0 | exact m1 | exact m2)) | ((with_reducible apply t_id); first | ((with_reducible apply t_seq)) | (apply t_region; kernel_rfl) | (apply t_drawn; kernel_rfl; decide +kernel) | ((with_reducible apply t_condT); exact rfl) | ((with_reducible apply t_condF); exact rfl) | ((with_reducible apply t_condD); exact rfl; all_goals first | (intro hp; try (exfalso; omega)) | skip) | ((with_reducible apply t_condN); exact rfl; all_goals first | (intro hp; try (exfalso; omega)) | skip) | ((with_reducible apply t_cond); exact rfl; all_goals first | intro hp | skip) | ((with_reducible apply t_ret)) | ((with_reducible apply t_skip))) | with_reducible apply q_thenN | with_reducible apply q_thenR | exact P0 | ((with_reducible apply P1)) | exact Rdn.zero | apply Rdn.succ | ((with_reducible apply Norm.nil); exact rfl) | ((with_reducible apply Norm.cons); exact rfl) | ((with_reducible apply end_ret)) | ((with_reducible apply end_normal)) | exact rvs_nil | ((with_reducible apply rvs_cons)) | ((with_reducible apply rv_cell); exact rfl; exact rfl) | ((with_reducible apply rv_cellAgg); exact rfl; exact rfl) | exact Nat.le_of_ble_eq_true rfl | exact (rfl : (_ : Bool) = true) | omega | (intro _ _; with_reducible apply tl_id) | (intro _; with_reducible apply tl_id) | (intro _ _; with_reducible apply al_id) | (intro _; with_reducible apply al_id))
    all_goals rfl
  · have hbh := hr3 r b (Nat.le_refl _) hb
    obtain ⟨j, rfl⟩ : ∃ j, r = j + 1 := by
      cases r with
      | zero =>
        have e := (ho.tt.get hb k0).1
        omega
      | succ j => exact ⟨j, rfl⟩
    obtain ⟨ba, oa, a, hA, _, ha, c0, c1, c2, c3, c4⟩ := lv_read hr (show j < n by omega)
    obtain ⟨rfl, rfl⟩ : g = ba ∧ 0 = oa := by simpa using hA
    have hah := hr2 j a (by omega) ha
    obtain ⟨x', y', kx, ky, e1, e2, e3, g1, g2, b1', b2', b3', b4'⟩ := okL_pair hs ho ha hb
    simp only [hb, heq, decide_false] at HB
    have hv := prV_mid hg ha hb hah (by omega)
    have HT : ∀ w1, Ext w w1 → Calls Try.prog 133 #[.int .i64 a.h, .int .i64 b.h, .pointer (some ⟨bk, 0, none⟩)] w1 fun e w' => e = .returned (.agg #[.int .i64 (gapT a b).1, .int .i64 (gapT a b).2]) ∧ Ext w1 w' := fun w1 hx => by
      have key := thermo1_calls bk gk ck n l a.h b.h w1 hs hl (hx.cell m2) (hk.ext hx) (fun z hz => by have := hs.mono hz kx (by omega); omega) (fun z hz => by
        have hi := (List.getElem?_eq_some_iff.1 ky).1
        have := hs.mono ky hz (by omega); omega)
      have e : valV (tabOf l) (min a.h b.h) (max a.h b.h) = gapT a b := by
        rw [e3, ← valV_adj hs kx ky]
        congr 1 <;> omega
      rw [e] at key
      exact key
    have HK := fun w1 => carry_up a.plo a.phi (h - a.h) (gapT a b).1 (gapT a b).2 ⟨by omega, by omega⟩ ⟨by omega, by omega⟩ ⟨by omega, by have := g1.c1; omega⟩ ⟨g1.t0, g1.t1, g1.t2⟩ w1
    rw [hv]
    refine enterQ (c := cx w 52) Try.func130 rfl rfl rfl rfl ?_
    repeat' (first | ((with_reducible apply oq_id); first | ((with_reducible apply oq_subE (k := (j : Int))); exact rfl; exact rfl; omega) | (focus ((with_reducible apply oq_indexAddrN); exact rfl; exact rfl; exact rfl; exact rfl; omega)) | (apply oq_fn; exact rfl; first | exact trivial | (refine ⟨?_, ?_⟩ <;> omega) | (refine ⟨?_, ?_, ?_⟩ <;> omega) | omega | skip) | ((with_reducible apply oq_load); exact rfl; exact rfl) | ((with_reducible apply oq_loadAgg); exact rfl; exact rfl) | ((with_reducible apply oq_call (k := 131) (hc := Try.call131)); exact rfl; exact rfl; exact fun D w1 hw1 => HB w1 hw1.ext.ext) | ((with_reducible apply oq_call (k := 133) (hc := Try.call133)); exact rfl; exact rfl; exact fun D w1 hw1 => HT w1 hw1.ext.ext) | ((with_reducible apply oq_call (k := 103) (hc := Try.call103)); exact rfl; exact rfl; exact fun D w1 hw1 => HK w1)) | ((with_reducible apply tl_id); first | ((with_reducible apply tl_nil)) | ((with_reducible apply u_q); exact rfl; exact rfl; exact rfl; exact rfl) | ((with_reducible apply u_s0); exact rfl; exact rfl) | ((with_reducible apply u_s); exact rfl; exact rfl; exact rfl)) | ((with_reducible apply gx_id); first | ((with_reducible apply v_nil)) | ((with_reducible apply v_q); exact rfl; exact rfl; exact rfl)) | ((with_reducible apply os_id); first | ((with_reducible apply os_x); exact rfl) | ((with_reducible apply os_store); exact rfl; exact rfl; exact rfl; exact rfl) | ((with_reducible apply os_storeAgg); exact rfl; exact rfl; exact rfl; exact rfl; exact rfl)) | ((with_reducible apply ox_id); first | ((with_reducible apply ox_alloc); exact rfl; intro _)) | ((with_reducible apply ai_id); first | ((with_reducible apply ai_q); exact rfl; exact rfl; exact rfl; exact rfl; exact rfl) | ((with_reducible apply ai_x); exact rfl; exact rfl; exact rfl; exact rfl; exact rfl) | ((with_reducible apply ai_s0); exact rfl; exact rfl; exact rfl; exact rfl) | ((with_reducible apply ai_n0); exact rfl; exact rfl; exact rfl) | ((with_reducible apply ai_s); exact rfl; exact rfl; exact rfl; exact rfl; exact rfl) | ((with_reducible apply ai_n); exact rfl; exact rfl; exact rfl; exact rfl)) | ((with_reducible apply al_keep); focus (repeat (first | exact HpSub.refl _ | (apply HpSub.cons; (repeat (first | exact P0 | apply P1))) | exact HpSub.nil))) | ((with_reducible apply rd_id); first | (apply Rd.old; exact m0; exact List.not_mem_nil) | (apply Rd.old; exact m1; exact List.not_mem_nil) | (apply Rd.own; (repeat (first | exact P0 | apply P1)); exact rfl; done) | (apply Rd.old; (first | (with_reducible assumption) | exact c0 | exact c1 | exact c2 | exact c3 | exact c4 | exact d0 | exact d1 | exact d2 | exact d3 | exact d4); first | exact List.not_mem_nil | exact m0 | exact m1 | exact m2)) | ((with_reducible apply t_id); first | (with_reducible apply t_cutK (ι := (Nat × Nat)) (rid := 4) [0, 1, 2, 4, 5] (fun i => [(7, .pointer (some ⟨i.1, 0, none⟩)), (8, .pointer (some ⟨i.2, 0, none⟩))]) (fun i => [(i.1, lvCells a, some (76, 5, 1)), (i.2, lvCells b, some (76, 5, 1))])); (repeat (first | exact KeepF.nil | (apply KeepF.cons; exact rfl) | apply KeepF.skip)) | ((with_reducible apply t_seq)) | (apply t_region; kernel_rfl) | (apply t_drawn; kernel_rfl; decide +kernel) | ((with_reducible apply t_condT); exact rfl) | ((with_reducible apply t_condF); exact rfl) | ((with_reducible apply t_condD); exact rfl; all_goals first | (intro hp; try (exfalso; omega)) | skip) | ((with_reducible apply t_condN); exact rfl; all_goals first | (intro hp; try (exfalso; omega)) | skip) | ((with_reducible apply t_cond); exact rfl; all_goals first | intro hp | skip) | ((with_reducible apply t_ret)) | ((with_reducible apply t_skip))) | with_reducible apply q_thenN | with_reducible apply q_thenR | exact P0 | ((with_reducible apply P1)) | exact Rdn.zero | apply Rdn.succ | ((with_reducible apply Norm.nil); exact rfl) | ((with_reducible apply Norm.cons); exact rfl) | ((with_reducible apply end_ret)) | ((with_reducible apply end_normal)) | exact rvs_nil | ((with_reducible apply rvs_cons)) | ((with_reducible apply rv_cell); exact rfl; exact rfl) | ((with_reducible apply rv_cellAgg); exact rfl; exact rfl) | ((with_reducible apply cut_in0) <;> (repeat' (first | exact FrSub.nil | (apply FrSub.cons; exact rfl) | exact HpSub.refl _ | (apply HpSub.consE; (repeat (first | exact P0 | apply P1)); exact rfl) | exact HpSub.nil))) | ((with_reducible apply cut_in1) <;> (repeat' (first | exact FrSub.nil | (apply FrSub.cons; exact rfl) | exact HpSub.refl _ | (apply HpSub.consE; (repeat (first | exact P0 | apply P1)); exact rfl) | exact HpSub.nil))) | ((with_reducible apply cut_in2) <;> (repeat' (first | exact FrSub.nil | (apply FrSub.cons; exact rfl) | exact HpSub.refl _ | (apply HpSub.consE; (repeat (first | exact P0 | apply P1)); exact rfl) | exact HpSub.nil))) | ((with_reducible apply cut_in3) <;> (repeat' (first | exact FrSub.nil | (apply FrSub.cons; exact rfl) | exact HpSub.refl _ | (apply HpSub.consE; (repeat (first | exact P0 | apply P1)); exact rfl) | exact HpSub.nil))) | (apply t_mix (id := 4) [0, 1, 2, 3, 4, 5, 6, 7, 8] 4 #[false, false, false, false, false, false, false, false, false, false, false, false, false]; kernel_rfl; kernel_rfl; exact rfl) | ((with_reducible apply al_id); first | (apply al_done; decide +kernel) | (apply al_one 9; decide +kernel) | (apply al_one 10; decide +kernel) | (apply al_one 11; decide +kernel) | (apply al_one 12; decide +kernel) | (apply al_two 9 10; decide +kernel)) | exact Nat.le_of_ble_eq_true rfl | exact (rfl : (_ : Bool) = true) | omega | (intro _ _; with_reducible apply tl_id) | (intro _; with_reducible apply tl_id) | (intro _ _; with_reducible apply al_id) | (intro _; with_reducible apply al_id))
    rintro ⟨b7, b8⟩
    try simp only [List.cons_append, List.nil_append]
    simp only [lvCells]
    repeat' (first | ((with_reducible apply oq_id); first | ((with_reducible apply oq_subE (k := (h - a.h))); exact rfl; exact rfl; omega) | (apply oq_fn; exact rfl; first | exact trivial | (refine ⟨?_, ?_⟩ <;> omega) | (refine ⟨?_, ?_, ?_⟩ <;> omega) | omega | skip) | ((with_reducible apply oq_load); exact rfl; exact rfl) | ((with_reducible apply oq_loadAgg); exact rfl; exact rfl) | ((with_reducible apply oq_call (k := 131) (hc := Try.call131)); exact rfl; exact rfl; exact fun D w1 hw1 => HB w1 hw1.ext.ext) | ((with_reducible apply oq_call (k := 133) (hc := Try.call133)); exact rfl; exact rfl; exact fun D w1 hw1 => HT w1 hw1.ext.ext) | ((with_reducible apply oq_call (k := 103) (hc := Try.call103)); exact rfl; exact rfl; exact fun D w1 hw1 => HK w1)) | ((with_reducible apply tl_id); first | ((with_reducible apply tl_nil)) | ((with_reducible apply u_q); exact rfl; exact rfl; exact rfl; exact rfl) | ((with_reducible apply u_s0); exact rfl; exact rfl) | ((with_reducible apply u_s); exact rfl; exact rfl; exact rfl)) | ((with_reducible apply gx_id); first | ((with_reducible apply v_nil)) | ((with_reducible apply v_q); exact rfl; exact rfl; exact rfl)) | ((with_reducible apply os_id); first | ((with_reducible apply os_x); exact rfl) | ((with_reducible apply os_store); exact rfl; exact rfl; exact rfl; exact rfl) | ((with_reducible apply os_storeAgg); exact rfl; exact rfl; exact rfl; exact rfl; exact rfl)) | ((with_reducible apply ox_id); first | ((with_reducible apply ox_alloc); exact rfl; intro _)) | ((with_reducible apply ai_id); first | ((with_reducible apply ai_q); exact rfl; exact rfl; exact rfl; exact rfl; exact rfl) | ((with_reducible apply ai_x); exact rfl; exact rfl; exact rfl; exact rfl; exact rfl) | ((with_reducible apply ai_s0); exact rfl; exact rfl; exact rfl; exact rfl) | ((with_reducible apply ai_n0); exact rfl; exact rfl; exact rfl) | ((with_reducible apply ai_s); exact rfl; exact rfl; exact rfl; exact rfl; exact rfl) | ((with_reducible apply ai_n); exact rfl; exact rfl; exact rfl; exact rfl)) | ((with_reducible apply al_keep); focus (repeat (first | exact HpSub.refl _ | (apply HpSub.cons; (repeat (first | exact P0 | apply P1))) | exact HpSub.nil))) | ((with_reducible apply rd_id); first | (apply Rd.old; exact m0; exact List.not_mem_nil) | (apply Rd.old; exact m1; exact List.not_mem_nil) | (apply Rd.own; (repeat (first | exact P0 | apply P1)); exact rfl; done) | (apply Rd.old; (first | (with_reducible assumption) | exact c0 | exact c1 | exact c2 | exact c3 | exact c4 | exact d0 | exact d1 | exact d2 | exact d3 | exact d4); first | exact List.not_mem_nil | exact m0 | exact m1 | exact m2)) | ((with_reducible apply t_id); first | ((with_reducible apply t_seq)) | (apply t_region; kernel_rfl) | (apply t_drawn; kernel_rfl; decide +kernel) | ((with_reducible apply t_condT); exact rfl) | ((with_reducible apply t_condF); exact rfl) | ((with_reducible apply t_condD); exact rfl; all_goals first | (intro hp; try (exfalso; omega)) | skip) | ((with_reducible apply t_condN); exact rfl; all_goals first | (intro hp; try (exfalso; omega)) | skip) | ((with_reducible apply t_cond); exact rfl; all_goals first | intro hp | skip) | ((with_reducible apply t_ret)) | ((with_reducible apply t_skip))) | with_reducible apply q_thenN | with_reducible apply q_thenR | exact P0 | ((with_reducible apply P1)) | exact Rdn.zero | apply Rdn.succ | ((with_reducible apply Norm.nil); exact rfl) | ((with_reducible apply Norm.cons); exact rfl) | ((with_reducible apply end_ret)) | ((with_reducible apply end_normal)) | exact rvs_nil | ((with_reducible apply rvs_cons)) | ((with_reducible apply rv_cell); exact rfl; exact rfl) | ((with_reducible apply rv_cellAgg); exact rfl; exact rfl) | (apply t_mix (id := 5) [0, 1, 2, 3, 4, 5, 6, 7, 8, 9, 10, 11, 12] 2 #[false, false, false, false, false, false, false, false, false, false, false, false, false, false, false]; kernel_rfl; kernel_rfl; exact rfl) | ((with_reducible apply al_id); first | (apply al_done; decide +kernel) | (apply al_one 13; decide +kernel) | (apply al_one 14; decide +kernel)) | exact Nat.le_of_ble_eq_true rfl | exact (rfl : (_ : Bool) = true) | omega | (intro _ _; with_reducible apply tl_id) | (intro _; with_reducible apply tl_id) | (intro _ _; with_reducible apply al_id) | (intro _; with_reducible apply al_id))
    all_goals rfl

end Go.Proofs.Ytalidommelefaaa
