/- Settling: what the reference computes. -/
import Derived.Test.YtalidommelefaaaRefS
namespace Go.Proofs.Ytalidommelefaaa
open Go.RowKit
attribute [local irreducible] OQ OS OX Rd T TL GX GL AL AI RV wpG SAny Calls
set_option maxRecDepth 100000
set_option maxHeartbeats 2000000
set_option linter.unusedVariables false
set_option linter.unusedSimpArgs false


/-- One level with what its neighbours say. -/
def betL (l : List Lv) : Nat → List Lv
  | 0 => takeDn l 0
  | j + 1 => takeDn (takeUp l j) (j + 1)
def betS (l : List Lv) (i : Nat) : Int × Int := match (betL l i)[i]? with | some x => x.press | none => (0, 0)
theorem betL_ge (l : List Lv) (i : Nat) : Tt (betL l i) l := by
  cases i with
  | zero => exact takeDn_ge _ _
  | succ j => exact (takeDn_ge _ _).trans (takeUp_ge _ _)
theorem betL_le {l f : List Lv} (hc : Ch f) (hf : Fix f) (h : Tt f l) (i : Nat) : Tt f (betL l i) := by
  cases i with
  | zero => exact takeDn_le hc hf h _
  | succ j => exact takeDn_le hc hf (takeUp_le hc hf h _) _
theorem set_eq {l : List Lv} {i : Nat} {y : Lv} (h : l[i]? = some y) : l.set i y = l := by
  apply List.ext_getElem?
  intro k
  rw [List.getElem?_set]
  split
  · rename_i e; subst e
    rw [if_pos (List.getElem?_eq_some_iff.1 h).1, h]
  · rfl
theorem put_self (y : Lv) : y.put y.press = y := rfl
/-- The four cases. -/
theorem bet_00 {l : List Lv} {y : Lv} (hy : l[0]? = some y) {z : Lv} (hz : l[1]? = some z) : betS l 0 = joinS y.press (dnI y z) ∧ betL l 0 = l.set 0 (y.put (betS l 0)) := by
  have h0 := (List.getElem?_eq_some_iff.1 hy).1
  have e : betL l 0 = l.set 0 (dnA y z) := by unfold betL takeDn; simp only [hy, hz]
  have e2 : betS l 0 = joinS y.press (dnI y z) := by unfold betS; rw [e, List.getElem?_set_self h0]; rfl
  exact ⟨e2, by rw [e, e2]; rfl⟩
theorem bet_s {l : List Lv} {j : Nat} {x y : Lv} (hx : l[j]? = some x) (hy : l[j + 1]? = some y) {z : Lv} (hz : l[j + 2]? = some z) : betS l (j + 1) = joinS (joinS y.press (upI x y)) (dnI y z) ∧ betL l (j + 1) = l.set (j + 1) (y.put (betS l (j + 1))) := by
  have h0 := (List.getElem?_eq_some_iff.1 hy).1
  have e0 : takeUp l j = l.set (j + 1) (upB x y) := by unfold takeUp; simp only [hx, hy]
  have e : betL l (j + 1) = l.set (j + 1) (dnA (upB x y) z) := by
    show takeDn (takeUp l j) (j + 1) = _
    rw [e0]
    unfold takeDn
    rw [List.getElem?_set_self h0, List.getElem?_set_ne (by omega), hz]
    simp
  have e2 : betS l (j + 1) = joinS (joinS y.press (upI x y)) (dnI y z) := by unfold betS; rw [e, List.getElem?_set_self h0]; rfl
  exact ⟨e2, by rw [e, e2]; rfl⟩
theorem bet_n {l : List Lv} {j : Nat} {x y : Lv} (hx : l[j]? = some x) (hy : l[j + 1]? = some y) (hz : l[j + 2]? = none) : betS l (j + 1) = joinS y.press (upI x y) ∧ betL l (j + 1) = l.set (j + 1) (y.put (betS l (j + 1))) := by
  have h0 := (List.getElem?_eq_some_iff.1 hy).1
  have e0 : takeUp l j = l.set (j + 1) (upB x y) := by unfold takeUp; simp only [hx, hy]
  have e : betL l (j + 1) = l.set (j + 1) (upB x y) := by
    show takeDn (takeUp l j) (j + 1) = _
    rw [e0]
    unfold takeDn
    rw [List.getElem?_set_self h0, List.getElem?_set_ne (by omega), hz]
  have e2 : betS l (j + 1) = joinS y.press (upI x y) := by unfold betS; rw [e, List.getElem?_set_self h0]; rfl
  exact ⟨e2, by rw [e, e2]; rfl⟩
theorem bet_set {l : List Lv} (h2 : 2 ≤ l.length) {i : Nat} {y : Lv} (hy : l[i]? = some y) : betL l i = l.set i (y.put (betS l i)) := by
  have hi := (List.getElem?_eq_some_iff.1 hy).1
  cases i with
  | zero => exact (bet_00 hy (List.getElem?_eq_getElem (show 1 < l.length by omega))).2
  | succ j =>
    have hx : l[j]? = some l[j] := List.getElem?_eq_getElem (by omega)
    by_cases hz : j + 2 < l.length
    · exact (bet_s hx hy (List.getElem?_eq_getElem hz)).2
    · exact (bet_n hx hy (List.getElem?_eq_none (by omega))).2
theorem bet_same {l : List Lv} (h2 : 2 ≤ l.length) {i : Nat} {y : Lv} (hy : l[i]? = some y) (h : betS l i = y.press) : betL l i = l := by
  rw [bet_set h2 hy, h, put_self, set_eq hy]
theorem bet_other {l : List Lv} (h2 : 2 ≤ l.length) {i : Nat} {y : Lv} (hy : l[i]? = some y) (h : betS l i ≠ y.press) : betL l i ≠ l := by
  intro e
  have hi := (List.getElem?_eq_some_iff.1 hy).1
  rw [bet_set h2 hy] at e
  have : (l.set i (y.put (betS l i)))[i]? = l[i]? := by rw [e]
  rw [List.getElem?_set_self hi, hy] at this
  have := congrArg Lv.press (Option.some.inj this)
  exact h this
/-- If no level has anything new it is settled. -/
theorem bet_fix {l : List Lv} (h2 : 2 ≤ l.length) (h : ∀ k, k < l.length → betL l k = l) : Fix l := by
  have key : ∀ (m : List Lv) (s : Nat), (∀ {i : Nat} {a b : Lv}, m[i]? = some a → m[i + 1]? = some b → SIn b.press (upI a b) ∧ SIn a.press (dnI a b)) → Fix m := by
    intro m
    induction m with
    | nil => intro _ _; exact .nil
    | cons a r ih =>
      intro s h
      cases r with
      | nil => exact .one a
      | cons b r => exact .cons (h (i := 0) rfl rfl).1 (h (i := 0) rfl rfl).2 (ih s (fun {i x y} hx hy => h (i := i + 1) (by simpa using hx) (by simpa using hy)))
  refine key l 0 (fun {i a b} ha hb => ?_)
  have hi := (List.getElem?_eq_some_iff.1 hb).1
  have val : ∀ {k : Nat} {y : Lv}, l[k]? = some y → betS l k = y.press := fun {k y} hy => by
    unfold betS
    rw [h k (List.getElem?_eq_some_iff.1 hy).1, hy]
  constructor
  · have e := val hb
    by_cases hz : i + 2 < l.length
    · rw [(bet_s ha hb (List.getElem?_eq_getElem hz)).1] at e
      rw [← e]
      exact (joinS_left _ _).trans (joinS_right _ _)
    · rw [(bet_n ha hb (List.getElem?_eq_none (by omega))).1] at e
      rw [← e]
      exact joinS_right _ _
  · have e := val ha
    cases i with
    | zero =>
      rw [(bet_00 ha hb).1] at e
      rw [← e]
      exact joinS_right _ _
    | succ j =>
      have hx : l[j]? = some l[j] := List.getElem?_eq_getElem (by omega)
      rw [(bet_s hx ha hb).1] at e
      rw [← e]
      exact joinS_right _ _
/-- How far it is from settled. -/
def gs : List Lv → List Lv → Nat
  | x :: c, y :: q => ((y.plo - x.plo) + (x.phi - y.phi)).toNat + gs c q
  | _, _ => 0
theorem gs_le : ∀ {c' c q : List Lv}, Tt c' c → Tt q c' → gs c' q ≤ gs c q
  | _, _, _, .nil, _ => by simp [gs]
  | _, _, _, .cons h k, .cons h' k' => by
    have ih := gs_le k k'
    have h1 := h.2.2.2
    have h2 := h'.2.2.2
    unfold SIn Lv.press at h1 h2
    simp only at h1 h2
    simp only [gs]; omega
theorem gs_lt : ∀ {c' c q : List Lv}, Tt c' c → Tt q c' → c' ≠ c → gs c' q < gs c q
  | _, _, _, .nil, _, hne => absurd rfl hne
  | _, _, _, .cons (y := y) (x := x) (m := m) (l := l) h k, .cons h' k', hne => by
    have ih := gs_le k k'
    have h1 := h.2.2.2
    have h2 := h'.2.2.2
    unfold SIn Lv.press at h1 h2
    simp only at h1 h2
    simp only [gs]
    by_cases hm : m = l
    · have hyx : y ≠ x := fun e => hne (by rw [e, hm])
      have : y.plo ≠ x.plo ∨ y.phi ≠ x.phi := by
        by_cases e1 : y.plo = x.plo
        · by_cases e2 : y.phi = x.phi
          · exact absurd (lv_ext.1 ⟨h.1, e1, e2, h.2.1, h.2.2.1⟩) hyx
          · exact .inr e2
        · exact .inl e1
      omega
    · have := gs_lt k k' hm
      omega
theorem tab_tt : ∀ {c l : List Lv}, Tt c l → tabOf c = tabOf l
  | _, _, .nil => rfl
  | _, _, .cons (y := y) (x := x) h k => by
    have := tab_tt k
    unfold tabOf at this ⊢
    rw [List.map_cons, List.map_cons, this]
    congr 1
    unfold knOf
    rw [h.1, h.2.1, h.2.2.1]


theorem tempAt (A : Option Addr) {n c : Nat} {l cur : List Lv} (hs : Snd l) (hl : l.length = n) (ho : OkL l cur) {w : World} (hr : RdS w 5 A n (cur.map lvCells)) {i : Nat} {x y : Lv} (hx : cur[i]? = some x) (hy : cur[i + 1]? = some y) (w1 : World) (he : Ext w w1) :
    Calls Try.prog 96 #[.slice A n c, .int .i64 x.h, .int .i64 y.h] w1 fun e w' => e = .returned (.agg #[.int .i64 (gapT x y).1, .int .i64 (gapT x y).2]) ∧ Ext w1 w' := by
  obtain ⟨x', y', kx, ky, e1, e2, e3, g1, g2, b1, b2, b3, b4⟩ := okL_pair hs ho hx hy
  have ht : TabOk (tabOf cur) := by rw [tab_tt ho.tt]; exact hs.tab
  have hcl := ho.tt.len
  have hi := (List.getElem?_eq_some_iff.1 hy).1
  have key := temp_calls A n c cur x.h y.h w1 (hr.ext he) ht (fun a ha => by
    have ka : l[0]? = some l[0] := List.getElem?_eq_getElem (by omega)
    have e := (ho.tt.get ha ka).1
    have := hs.mono ka kx (by omega); omega) (by omega) (fun a ha => by
    have ka : l[n - 1]? = some l[n - 1] := List.getElem?_eq_getElem (by omega)
    have e := (ho.tt.get ha ka).1
    have := hs.mono ky ka (by omega); omega)
  have e : valV (tabOf cur) x.h y.h = gapT x y := by rw [tab_tt ho.tt, e1, e2, e3]; exact valV_adj hs kx ky
  rw [e] at key
  exact key
theorem better_calls (b o n c : Nat) (l cur : List Lv) (i : Nat) (w : World) (hs : Snd l) (hl : l.length = n) (ho : OkL l cur) (hi : i < n) (hr : RdS w 5 (some ⟨b, o, none⟩) n (cur.map lvCells)) :
    Calls Try.prog 107 #[.slice (some ⟨b, o, none⟩) n c, .int .i64 (i : Int)] w fun e w' => e = .returned (.agg #[.int .i64 (betS cur i).1, .int .i64 (betS cur i).2]) ∧ Ext w w' := by
  have hcl := ho.tt.len
  have n2 := hs.n2
  have n16 := hs.n16
  obtain ⟨b', o', y, hA, _, hy, c0, c1, c2, c3, c4⟩ := lv_read hr hi
  obtain ⟨rfl, rfl⟩ : b = b' ∧ o = o' := by simpa using hA
  have up : ∀ {j : Nat} {x y : Lv}, cur[j]? = some x → cur[j + 1]? = some y → ∀ w1, Calls Try.prog 134 #[.agg #[.int .i64 x.plo, .int .i64 x.phi], .int .i64 (y.h - x.h), .agg #[.int .i64 (gapT x y).1, .int .i64 (gapT x y).2]] w1 fun e w' => e = .returned (.agg #[.int .i64 (upI x y).1, .int .i64 (upI x y).2]) ∧ Ext w1 w' := fun hx hy w1 => by
    obtain ⟨x', y', kx, ky, e1, e2, e3, g1, g2, b1, b2, b3, b4⟩ := okL_pair hs ho hx hy
    exact rise_calls _ _ _ _ _ ⟨by omega, by omega⟩ ⟨by omega, by omega⟩ ⟨g1.c0, g1.c1⟩ ⟨g1.t0, g1.t1, g1.t2⟩ w1
  have dn : ∀ {j : Nat} {x y : Lv}, cur[j]? = some x → cur[j + 1]? = some y → ∀ w1, Calls Try.prog 135 #[.agg #[.int .i64 y.plo, .int .i64 y.phi], .int .i64 (y.h - x.h), .agg #[.int .i64 (gapT x y).1, .int .i64 (gapT x y).2]] w1 fun e w' => e = .returned (.agg #[.int .i64 (dnI x y).1, .int .i64 (dnI x y).2]) ∧ Ext w1 w' := fun hx hy w1 => by
    obtain ⟨x', y', kx, ky, e1, e2, e3, g1, g2, b1, b2, b3, b4⟩ := okL_pair hs ho hx hy
    exact sink_calls _ _ _ _ _ ⟨by omega, by omega⟩ ⟨by omega, by omega⟩ ⟨g1.c0, g1.c1⟩ ⟨g1.t0, g1.t1, g1.t2⟩ w1
  cases i with
  | zero =>
    obtain ⟨b', o', z, hA, _, hz, d0, d1, d2, d3, d4⟩ := lv_read hr (show 1 < n by omega)
    obtain ⟨rfl, rfl⟩ : b = b' ∧ o = o' := by simpa using hA
    obtain ⟨_, _, _, _, _, _, _, _, g2, gx, gy, _⟩ := okL_pair hs ho hy hz
    rw [(bet_00 hy hz).1]
    have HT2 := tempAt _ (c := c) hs hl ho hr hy hz
    have HS2 := dn hy hz
    obtain ⟨i1, hi1⟩ : ∃ i1 : Nat, i1 = 1 := ⟨1, rfl⟩
    refine enterQ (c := cx w 87) Try.func107 rfl rfl rfl rfl ?_
    repeat' (first | ((with_reducible apply oq_id); first | ((with_reducible apply oq_addE (k := ((1 : Nat) : Int))); exact rfl; exact rfl; omega) | (focus ((with_reducible apply oq_indexAddrN); exact rfl; exact rfl; exact rfl; exact rfl; omega)) | ((with_reducible apply oq_subE (k := (z.h - y.h))); exact rfl; exact rfl; omega) | (apply oq_fn; exact rfl; first | exact trivial | (refine ⟨?_, ?_⟩ <;> omega) | (refine ⟨?_, ?_, ?_⟩ <;> omega) | omega | skip) | ((with_reducible apply oq_load); exact rfl; exact rfl) | ((with_reducible apply oq_loadAgg); exact rfl; exact rfl) | ((with_reducible apply oq_call (k := 96) (hc := Try.call96)); exact rfl; exact rfl; exact fun D w1 hw1 => HT2 w1 hw1.ext.ext) | ((with_reducible apply oq_call (k := 135) (hc := Try.call135)); exact rfl; exact rfl; exact fun D w1 hw1 => HS2 w1) | ((with_reducible apply oq_call (k := 68) (hc := Try.call68)); exact rfl; exact rfl; exact fun D w1 hw1 => both2_calls _ _ _ _ w1)) | ((with_reducible apply tl_id); first | ((with_reducible apply tl_nil)) | ((with_reducible apply u_q); exact rfl; exact rfl; exact rfl; exact rfl) | ((with_reducible apply u_s0); exact rfl; exact rfl) | ((with_reducible apply u_s); exact rfl; exact rfl; exact rfl)) | ((with_reducible apply gx_id); first | ((with_reducible apply v_nil)) | ((with_reducible apply v_q); exact rfl; exact rfl; exact rfl)) | ((with_reducible apply os_id); first | ((with_reducible apply os_x); exact rfl) | ((with_reducible apply os_store); exact rfl; exact rfl; exact rfl; exact rfl) | ((with_reducible apply os_storeAgg); exact rfl; exact rfl; exact rfl; exact rfl; exact rfl)) | ((with_reducible apply ox_id); first | ((with_reducible apply ox_alloc); exact rfl; intro _)) | ((with_reducible apply ai_id); first | ((with_reducible apply ai_q); exact rfl; exact rfl; exact rfl; exact rfl; exact rfl) | ((with_reducible apply ai_x); exact rfl; exact rfl; exact rfl; exact rfl; exact rfl) | ((with_reducible apply ai_s0); exact rfl; exact rfl; exact rfl; exact rfl) | ((with_reducible apply ai_n0); exact rfl; exact rfl; exact rfl) | ((with_reducible apply ai_s); exact rfl; exact rfl; exact rfl; exact rfl; exact rfl) | ((with_reducible apply ai_n); exact rfl; exact rfl; exact rfl; exact rfl)) | ((with_reducible apply al_keep); focus (repeat (first | exact HpSub.refl _ | (apply HpSub.cons; (repeat (first | exact P0 | apply P1))) | exact HpSub.nil))) | ((with_reducible apply rd_id); first | (apply Rd.own; (repeat (first | exact P0 | apply P1)); exact rfl; done) | (apply Rd.old; (first | (with_reducible assumption) | exact c0 | exact c1 | exact c2 | exact c3 | exact c4 | exact d0 | exact d1 | exact d2 | exact d3 | exact d4); first | exact List.not_mem_nil)) | ((with_reducible apply t_id); first | ((with_reducible apply t_seq)) | (apply t_region; kernel_rfl) | (apply t_drawn; kernel_rfl; decide +kernel) | ((with_reducible apply t_condT); exact rfl) | ((with_reducible apply t_condF); exact rfl) | ((with_reducible apply t_condD); exact rfl; all_goals first | (intro hp; try (exfalso; omega)) | skip) | ((with_reducible apply t_condN); exact rfl; all_goals first | (intro hp; try (exfalso; omega)) | skip) | ((with_reducible apply t_cond); exact rfl; all_goals first | intro hp | skip) | ((with_reducible apply t_ret)) | ((with_reducible apply t_skip))) | with_reducible apply q_thenN | with_reducible apply q_thenR | exact P0 | ((with_reducible apply P1)) | exact Rdn.zero | apply Rdn.succ | ((with_reducible apply Norm.nil); exact rfl) | ((with_reducible apply Norm.cons); exact rfl) | ((with_reducible apply end_ret)) | ((with_reducible apply end_normal)) | exact rvs_nil | ((with_reducible apply rvs_cons)) | ((with_reducible apply rv_cell); exact rfl; exact rfl) | ((with_reducible apply rv_cellAgg); exact rfl; exact rfl) | (apply t_mix (id := 3) [0, 1, 2, 3, 4, 5, 6, 7, 8, 9, 10, 11, 12, 13, 14, 15, 16, 17, 18, 19, 20, 21, 22, 23, 24, 25, 26, 27, 28, 29, 30, 31, 32, 33] 1 #[false, false, false, false, false, false, false, false, false, false, false, false, false, false, false, false, false, false, false, false, false, false, false, false, false, false, false, false, false, false, false, false, false, false, true]; kernel_rfl; kernel_rfl; exact rfl) | ((with_reducible apply al_id); first | (apply al_done; decide +kernel) | (apply al_one 34; decide +kernel)) | (apply t_mix (id := 5) [0, 1, 2, 3, 4, 5, 6, 7, 8, 9, 10, 11, 12, 13, 14, 15, 16, 17, 18, 19, 20, 21, 22, 23, 24, 25, 26, 27, 28, 29, 30, 31, 32, 33] 1 #[false, false, false, false, false, false, false, false, false, false, false, false, false, false, false, false, false, false, false, false, false, false, false, false, false, false, false, false, false, false, false, false, false, false, true]; kernel_rfl; kernel_rfl; exact rfl) | ((with_reducible apply al_id); first | (apply al_done; decide +kernel) | (apply al_one 34; decide +kernel)) | exact Nat.le_of_ble_eq_true rfl | exact (rfl : (_ : Bool) = true) | omega | (intro _ _; with_reducible apply tl_id) | (intro _; with_reducible apply tl_id) | (intro _ _; with_reducible apply al_id) | (intro _; with_reducible apply al_id))
    all_goals rfl
  | succ j =>
    obtain ⟨b', o', x, hA, _, hx, d0, d1, d2, d3, d4⟩ := lv_read hr (show j < n by omega)
    obtain ⟨rfl, rfl⟩ : b = b' ∧ o = o' := by simpa using hA
    obtain ⟨_, _, _, _, _, _, _, _, g2, gx, gy, _⟩ := okL_pair hs ho hx hy
    have HT1 := tempAt _ (c := c) hs hl ho hr hx hy
    have HR1 := up hx hy
    by_cases hlast : j + 2 < n
    · obtain ⟨b', o', z, hA, _, hz, z0, z1, z2, z3, z4⟩ := lv_read hr hlast
      obtain ⟨rfl, rfl⟩ : b = b' ∧ o = o' := by simpa using hA
      obtain ⟨_, _, _, _, _, _, _, _, g2', gx', gy', _⟩ := okL_pair hs ho hy hz
      have HT2 := tempAt _ (c := c) hs hl ho hr hy hz
      have HS2 := dn hy hz
      rw [(bet_s hx hy hz).1]
      refine enterQ (c := cx w 87) Try.func107 rfl rfl rfl rfl ?_
      repeat' (first | ((with_reducible apply oq_id); first | ((with_reducible apply oq_subE (k := (j : Int))); exact rfl; exact rfl; omega) | ((with_reducible apply oq_addE (k := ((j + 2 : Nat) : Int))); exact rfl; exact rfl; omega) | (focus ((with_reducible apply oq_indexAddrN); exact rfl; exact rfl; exact rfl; exact rfl; omega)) | ((with_reducible apply oq_subE (k := (y.h - x.h))); exact rfl; exact rfl; omega) | ((with_reducible apply oq_subE (k := (z.h - y.h))); exact rfl; exact rfl; omega) | (apply oq_fn; exact rfl; first | exact trivial | (refine ⟨?_, ?_⟩ <;> omega) | (refine ⟨?_, ?_, ?_⟩ <;> omega) | omega | skip) | ((with_reducible apply oq_load); exact rfl; exact rfl) | ((with_reducible apply oq_loadAgg); exact rfl; exact rfl) | ((with_reducible apply oq_call (k := 96) (hc := Try.call96)); exact rfl; exact rfl; exact fun D w1 hw1 => HT1 w1 hw1.ext.ext) | ((with_reducible apply oq_call (k := 134) (hc := Try.call134)); exact rfl; exact rfl; exact fun D w1 hw1 => HR1 w1) | ((with_reducible apply oq_call (k := 96) (hc := Try.call96)); exact rfl; exact rfl; exact fun D w1 hw1 => HT2 w1 hw1.ext.ext) | ((with_reducible apply oq_call (k := 135) (hc := Try.call135)); exact rfl; exact rfl; exact fun D w1 hw1 => HS2 w1) | ((with_reducible apply oq_call (k := 68) (hc := Try.call68)); exact rfl; exact rfl; exact fun D w1 hw1 => both2_calls _ _ _ _ w1)) | ((with_reducible apply tl_id); first | ((with_reducible apply tl_nil)) | ((with_reducible apply u_q); exact rfl; exact rfl; exact rfl; exact rfl) | ((with_reducible apply u_s0); exact rfl; exact rfl) | ((with_reducible apply u_s); exact rfl; exact rfl; exact rfl)) | ((with_reducible apply gx_id); first | ((with_reducible apply v_nil)) | ((with_reducible apply v_q); exact rfl; exact rfl; exact rfl)) | ((with_reducible apply os_id); first | ((with_reducible apply os_x); exact rfl) | ((with_reducible apply os_store); exact rfl; exact rfl; exact rfl; exact rfl) | ((with_reducible apply os_storeAgg); exact rfl; exact rfl; exact rfl; exact rfl; exact rfl)) | ((with_reducible apply ox_id); first | ((with_reducible apply ox_alloc); exact rfl; intro _)) | ((with_reducible apply ai_id); first | ((with_reducible apply ai_q); exact rfl; exact rfl; exact rfl; exact rfl; exact rfl) | ((with_reducible apply ai_x); exact rfl; exact rfl; exact rfl; exact rfl; exact rfl) | ((with_reducible apply ai_s0); exact rfl; exact rfl; exact rfl; exact rfl) | ((with_reducible apply ai_n0); exact rfl; exact rfl; exact rfl) | ((with_reducible apply ai_s); exact rfl; exact rfl; exact rfl; exact rfl; exact rfl) | ((with_reducible apply ai_n); exact rfl; exact rfl; exact rfl; exact rfl)) | ((with_reducible apply al_keep); focus (repeat (first | exact HpSub.refl _ | (apply HpSub.cons; (repeat (first | exact P0 | apply P1))) | exact HpSub.nil))) | ((with_reducible apply rd_id); first | (apply Rd.old; (first | exact z0 | exact z1 | exact z2 | exact z3 | exact z4); exact List.not_mem_nil) | (apply Rd.own; (repeat (first | exact P0 | apply P1)); exact rfl; done) | (apply Rd.old; (first | (with_reducible assumption) | exact c0 | exact c1 | exact c2 | exact c3 | exact c4 | exact d0 | exact d1 | exact d2 | exact d3 | exact d4); first | exact List.not_mem_nil)) | ((with_reducible apply t_id); first | ((with_reducible apply t_seq)) | (apply t_region; kernel_rfl) | (apply t_drawn; kernel_rfl; decide +kernel) | ((with_reducible apply t_condT); exact rfl) | ((with_reducible apply t_condF); exact rfl) | ((with_reducible apply t_condD); exact rfl; all_goals first | (intro hp; try (exfalso; omega)) | skip) | ((with_reducible apply t_condN); exact rfl; all_goals first | (intro hp; try (exfalso; omega)) | skip) | ((with_reducible apply t_cond); exact rfl; all_goals first | intro hp | skip) | ((with_reducible apply t_ret)) | ((with_reducible apply t_skip))) | with_reducible apply q_thenN | with_reducible apply q_thenR | exact P0 | ((with_reducible apply P1)) | exact Rdn.zero | apply Rdn.succ | ((with_reducible apply Norm.nil); exact rfl) | ((with_reducible apply Norm.cons); exact rfl) | ((with_reducible apply end_ret)) | ((with_reducible apply end_normal)) | exact rvs_nil | ((with_reducible apply rvs_cons)) | ((with_reducible apply rv_cell); exact rfl; exact rfl) | ((with_reducible apply rv_cellAgg); exact rfl; exact rfl) | (apply t_mix (id := 3) [0, 1, 2, 3, 4, 5, 6, 7, 8, 9, 10, 11, 12, 13, 14, 15, 16, 17, 18, 19, 20, 21, 22, 23, 24, 25, 26, 27, 28, 29, 30, 31, 32, 33] 1 #[false, false, false, false, false, false, false, false, false, false, false, false, false, false, false, false, false, false, false, false, false, false, false, false, false, false, false, false, false, false, false, false, false, false, true]; kernel_rfl; kernel_rfl; exact rfl) | ((with_reducible apply al_id); first | (apply al_done; decide +kernel) | (apply al_one 34; decide +kernel)) | (apply t_mix (id := 5) [0, 1, 2, 3, 4, 5, 6, 7, 8, 9, 10, 11, 12, 13, 14, 15, 16, 17, 18, 19, 20, 21, 22, 23, 24, 25, 26, 27, 28, 29, 30, 31, 32, 33] 1 #[false, false, false, false, false, false, false, false, false, false, false, false, false, false, false, false, false, false, false, false, false, false, false, false, false, false, false, false, false, false, false, false, false, false, true]; kernel_rfl; kernel_rfl; exact rfl) | ((with_reducible apply al_id); first | (apply al_done; decide +kernel) | (apply al_one 34; decide +kernel)) | exact Nat.le_of_ble_eq_true rfl | exact (rfl : (_ : Bool) = true) | omega | (intro _ _; with_reducible apply tl_id) | (intro _; with_reducible apply tl_id) | (intro _ _; with_reducible apply al_id) | (intro _; with_reducible apply al_id))
      all_goals rfl
    · rw [(bet_n hx hy (List.getElem?_eq_none (by omega))).1]
      refine enterQ (c := cx w 87) Try.func107 rfl rfl rfl rfl ?_
      repeat' (first | ((with_reducible apply oq_id); first | ((with_reducible apply oq_subE (k := (j : Int))); exact rfl; exact rfl; omega) | ((with_reducible apply oq_addE (k := ((j + 2 : Nat) : Int))); exact rfl; exact rfl; omega) | (focus ((with_reducible apply oq_indexAddrN); exact rfl; exact rfl; exact rfl; exact rfl; omega)) | ((with_reducible apply oq_subE (k := (y.h - x.h))); exact rfl; exact rfl; omega) | (apply oq_fn; exact rfl; first | exact trivial | (refine ⟨?_, ?_⟩ <;> omega) | (refine ⟨?_, ?_, ?_⟩ <;> omega) | omega | skip) | ((with_reducible apply oq_load); exact rfl; exact rfl) | ((with_reducible apply oq_loadAgg); exact rfl; exact rfl) | ((with_reducible apply oq_call (k := 96) (hc := Try.call96)); exact rfl; exact rfl; exact fun D w1 hw1 => HT1 w1 hw1.ext.ext) | ((with_reducible apply oq_call (k := 134) (hc := Try.call134)); exact rfl; exact rfl; exact fun D w1 hw1 => HR1 w1) | ((with_reducible apply oq_call (k := 68) (hc := Try.call68)); exact rfl; exact rfl; exact fun D w1 hw1 => both2_calls _ _ _ _ w1)) | ((with_reducible apply tl_id); first | ((with_reducible apply tl_nil)) | ((with_reducible apply u_q); exact rfl; exact rfl; exact rfl; exact rfl) | ((with_reducible apply u_s0); exact rfl; exact rfl) | ((with_reducible apply u_s); exact rfl; exact rfl; exact rfl)) | ((with_reducible apply gx_id); first | ((with_reducible apply v_nil)) | ((with_reducible apply v_q); exact rfl; exact rfl; exact rfl)) | ((with_reducible apply os_id); first | ((with_reducible apply os_x); exact rfl) | ((with_reducible apply os_store); exact rfl; exact rfl; exact rfl; exact rfl) | ((with_reducible apply os_storeAgg); exact rfl; exact rfl; exact rfl; exact rfl; exact rfl)) | ((with_reducible apply ox_id); first | ((with_reducible apply ox_alloc); exact rfl; intro _)) | ((with_reducible apply ai_id); first | ((with_reducible apply ai_q); exact rfl; exact rfl; exact rfl; exact rfl; exact rfl) | ((with_reducible apply ai_x); exact rfl; exact rfl; exact rfl; exact rfl; exact rfl) | ((with_reducible apply ai_s0); exact rfl; exact rfl; exact rfl; exact rfl) | ((with_reducible apply ai_n0); exact rfl; exact rfl; exact rfl) | ((with_reducible apply ai_s); exact rfl; exact rfl; exact rfl; exact rfl; exact rfl) | ((with_reducible apply ai_n); exact rfl; exact rfl; exact rfl; exact rfl)) | ((with_reducible apply al_keep); focus (repeat (first | exact HpSub.refl _ | (apply HpSub.cons; (repeat (first | exact P0 | apply P1))) | exact HpSub.nil))) | ((with_reducible apply rd_id); first | (apply Rd.own; (repeat (first | exact P0 | apply P1)); exact rfl; done) | (apply Rd.old; (first | (with_reducible assumption) | exact c0 | exact c1 | exact c2 | exact c3 | exact c4 | exact d0 | exact d1 | exact d2 | exact d3 | exact d4); first | exact List.not_mem_nil)) | ((with_reducible apply t_id); first | ((with_reducible apply t_seq)) | (apply t_region; kernel_rfl) | (apply t_drawn; kernel_rfl; decide +kernel) | ((with_reducible apply t_condT); exact rfl) | ((with_reducible apply t_condF); exact rfl) | ((with_reducible apply t_condD); exact rfl; all_goals first | (intro hp; try (exfalso; omega)) | skip) | ((with_reducible apply t_condN); exact rfl; all_goals first | (intro hp; try (exfalso; omega)) | skip) | ((with_reducible apply t_cond); exact rfl; all_goals first | intro hp | skip) | ((with_reducible apply t_ret)) | ((with_reducible apply t_skip))) | with_reducible apply q_thenN | with_reducible apply q_thenR | exact P0 | ((with_reducible apply P1)) | exact Rdn.zero | apply Rdn.succ | ((with_reducible apply Norm.nil); exact rfl) | ((with_reducible apply Norm.cons); exact rfl) | ((with_reducible apply end_ret)) | ((with_reducible apply end_normal)) | exact rvs_nil | ((with_reducible apply rvs_cons)) | ((with_reducible apply rv_cell); exact rfl; exact rfl) | ((with_reducible apply rv_cellAgg); exact rfl; exact rfl) | (apply t_mix (id := 3) [0, 1, 2, 3, 4, 5, 6, 7, 8, 9, 10, 11, 12, 13, 14, 15, 16, 17, 18, 19, 20, 21, 22, 23, 24, 25, 26, 27, 28, 29, 30, 31, 32, 33] 1 #[false, false, false, false, false, false, false, false, false, false, false, false, false, false, false, false, false, false, false, false, false, false, false, false, false, false, false, false, false, false, false, false, false, false, true]; kernel_rfl; kernel_rfl; exact rfl) | ((with_reducible apply al_id); first | (apply al_done; decide +kernel) | (apply al_one 34; decide +kernel)) | exact Nat.le_of_ble_eq_true rfl | exact (rfl : (_ : Bool) = true) | omega | (intro _ _; with_reducible apply tl_id) | (intro _; with_reducible apply tl_id) | (intro _ _; with_reducible apply al_id) | (intro _; with_reducible apply al_id))
      all_goals rfl

end Go.Proofs.Ytalidommelefaaa
