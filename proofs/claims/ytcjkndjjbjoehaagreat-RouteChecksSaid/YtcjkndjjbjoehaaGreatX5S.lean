/- A part of the proof: rules for walks, and contracts of functions (19). -/
import Derived.Test.YtcjkndjjbjoehaaGreatX5A
import Derived.Test.YtcjkndjjbjoehaaGreatX5R
import Derived.Test.YtcjkndjjbjoehaaGreatX5Q
import Derived.Test.YtcjkndjjbjoehaaGreatX5D
import Derived.Test.YtcjkndjjbjoehaaGreatX5M
import Derived.Test.YtcjkndjjbjoehaaGreatX5P
import Derived.Test.YtcjkndjjbjoehaaGreatX5L
set_option linter.unusedVariables false
set_option linter.unusedSimpArgs false
set_option maxRecDepth 100000
set_option maxHeartbeats 2000000
namespace Go.Proofs.YtcjkndjjbjoehaaGreat
theorem goR0 {G A1 A2 A3 A4 A5 A6 A7 A8 A9 A10 A11 A12 A13 A14 A15 A16 : Prop} (p : GoP A1 A2 A3 A4 A5 A6 A7 A8 A9 A10 A11 A12 A13 A14 A15 A16) (h : GoL A1 → GoL A2 → GoL A3 → GoL A4 → GoL A5 → GoL A6 → GoL A7 → GoL A8 → GoL A9 → GoL A10 → GoL A11 → GoL A12 → GoL A13 → GoL A14 → GoL A15 → GoL A16 → GoM → G := by intro m1 m2 m3 m4 m5 m6 m7 m8 m9 m10 m11 m12 m13 m14 m15 m16 _; (repeat' (first | ((with_reducible apply oq_id); first | (focus ((with_reducible apply oq_indexAddrN); exact rfl; exact rfl; exact rfl; exact rfl; omega)) | (apply oq_fn; exact rfl; first | exact trivial | (refine ⟨?_, ?_⟩ <;> omega) | (refine ⟨?_, ?_, ?_⟩ <;> omega) | omega | skip) | ((with_reducible apply oq_load); exact rfl; exact rfl)) | ((with_reducible apply tl_id); first | ((with_reducible apply tl_nil)) | ((with_reducible apply u_q); exact rfl; exact rfl; exact rfl; exact rfl) | ((with_reducible apply u_s0); exact rfl; exact rfl) | ((with_reducible apply u_s); exact rfl; exact rfl; exact rfl)) | ((with_reducible apply os_id); first | ((with_reducible apply os_x); exact rfl) | ((with_reducible apply os_storeAgg); exact rfl; exact rfl; exact rfl; exact rfl; exact rfl)) | ((with_reducible apply ox_id); first | ((with_reducible apply ox_alloc); exact rfl; intro _) | ((with_reducible apply ox_box); exact rfl; exact rfl; intro _)) | ((with_reducible apply rd_id); first | (apply Rd.old; (first | (with_reducible assumption) | exact c0 | exact c1 | exact c2 | exact c3 | exact c4 | exact c5 | exact c6 | exact c7 | exact c8 | exact d0 | exact d1 | exact d2 | exact d3 | exact d4 | exact d5); first | exact List.not_mem_nil | exact m0 | exact m1 | exact m2 | exact m3 | exact m4 | exact m5 | exact m6 | exact m7 | exact m8 | exact m9)) | ((with_reducible apply t_id); first | ((with_reducible apply t_seq)) | (apply t_region; kernel_rfl) | ((with_reducible apply t_ret))) | with_reducible apply q_thenN | exact P0 | ((with_reducible apply Norm.nil); exact rfl) | ((with_reducible apply Norm.cons); exact rfl) | ((with_reducible apply end_ret)) | exact rvs_nil | ((with_reducible apply rvs_cons)) | ((with_reducible apply rv_tmp); exact rfl) | exact Nat.le_of_ble_eq_true rfl)); (try focus (repeat (rename_i x; first | exact goD x m1.p | revert x))); (try focus (repeat (rename_i x; first | exact goD x m2.p | revert x))); (try focus (repeat (rename_i x; first | exact goD x m3.p | revert x))); (try focus (repeat (rename_i x; first | exact goD x m4.p | revert x))); (try focus (repeat (rename_i x; first | exact goD x m5.p | revert x))); (try focus (repeat (rename_i x; first | exact goD x m6.p | revert x))); (try focus (repeat (rename_i x; first | exact goD x m7.p | revert x))); (try focus (repeat (rename_i x; first | exact goD x m8.p | revert x))); (try focus (repeat (rename_i x; first | exact goD x m9.p | revert x))); (try focus (repeat (rename_i x; first | exact goD x m10.p | revert x))); (try focus (repeat (rename_i x; first | exact goD x m11.p | revert x))); (try focus (repeat (rename_i x; first | exact goD x m12.p | revert x))); (try focus (repeat (rename_i x; first | exact goD x m13.p | revert x))); (try focus (repeat (rename_i x; first | exact goD x m14.p | revert x))); (try focus (repeat (rename_i x; first | exact goD x m15.p | revert x))); (try focus (repeat (rename_i x; first | exact goD x m16.p | revert x)))) (e : GoTs A1 A2 A3 A4 A5 A6 A7 A8 A9 A10 A11 A12 A13 A14 A15 A16 := by constructor <;> first | (with_reducible exact GoT.t) | exact GoT.u) : G := p.run h
theorem goR1 {G A1 A2 A3 A4 A5 A6 A7 A8 A9 A10 A11 A12 A13 A14 A15 A16 : Prop} (p : GoP A1 A2 A3 A4 A5 A6 A7 A8 A9 A10 A11 A12 A13 A14 A15 A16) (h : GoL A1 → GoL A2 → GoL A3 → GoL A4 → GoL A5 → GoL A6 → GoL A7 → GoL A8 → GoL A9 → GoL A10 → GoL A11 → GoL A12 → GoL A13 → GoL A14 → GoL A15 → GoL A16 → GoM → G := by intro m1 m2 m3 m4 m5 m6 m7 m8 m9 m10 m11 m12 m13 m14 m15 m16 _; (repeat' (first | ((with_reducible apply oq_id); first | ((with_reducible apply oq_call (k := kf) (hc := hcf)); exact rfl; exact rfl; exact fun D w1 hw1 => HTk w1 hw1.ext.ext) | ((with_reducible apply oq_call (k := 108) (hc := Tryz.call108)); exact rfl; exact rfl; exact fun D w1 hw1 => HLs D w1 _ hw1 (by repeat (first | exact HpSub.refl _ | apply HpSub.skipX)) (by (repeat (first | exact P0 | apply P1)))) | ((with_reducible apply ob_id); first | ((with_reducible apply oq_eqlT); exact rfl; exact rfl; omega) | ((with_reducible apply oq_eqlF); exact rfl; exact rfl; omega) | ((with_reducible apply oq_lssT); exact rfl; exact rfl; omega) | ((with_reducible apply oq_lssF); exact rfl; exact rfl; omega)) | (focus ((with_reducible apply oq_indexAddrN); exact rfl; exact rfl; exact rfl; exact rfl; omega)) | (apply oq_fn; exact rfl; first | exact trivial | (refine ⟨?_, ?_⟩ <;> omega) | (refine ⟨?_, ?_, ?_⟩ <;> omega) | omega | skip) | ((with_reducible apply oq_load); exact rfl; exact rfl)) | ((with_reducible apply tl_id); first | ((with_reducible apply tl_nil)) | ((with_reducible apply u_q); exact rfl; exact rfl; exact rfl; exact rfl) | ((with_reducible apply u_s0); exact rfl; exact rfl)) | ((with_reducible apply gx_id); first | ((with_reducible apply v_nil)) | ((with_reducible apply v_q); exact rfl; exact rfl; exact rfl)) | ((with_reducible apply os_id); first | ((with_reducible apply (os_storePf (i := k) (u := if to k = false then nP else zP) (hz := hk1) (hl := hs))); exact rfl; exact rfl; exact rfl; exact rfl; (rw [hto]; exact rfl); (focus ((repeat (first | exact P0 | apply P1)); done))) | ((with_reducible apply (os_storePn (i := ys.length) (u := lstN x0 ls) (hz := up_get hx) (hl := up_set _ (by omega)))); exact rfl; exact rfl; exact rfl; (focus ((repeat (first | exact P0 | apply P1)); done))) | ((with_reducible apply os_store); exact rfl; exact rfl; exact rfl; exact rfl)) | ((with_reducible apply ai_id); first | ((with_reducible apply ai_s0); exact rfl; exact rfl; exact rfl; exact rfl)) | ((with_reducible apply rd_id); first | (apply Rd.own; (repeat (first | exact P0 | apply P1)); exact rfl; done) | (apply Rd.old; (first | (with_reducible assumption) | exact c0 | exact c1 | exact c2 | exact c3 | exact c4 | exact c5 | exact c6 | exact c7 | exact c8 | exact d0 | exact d1 | exact d2 | exact d3 | exact d4 | exact d5); first | exact List.not_mem_nil | exact m0 | exact m1 | exact m2 | exact m3 | exact m4 | exact m5 | exact m6 | exact m7 | exact m8 | exact m9)) | ((with_reducible apply t_id); first | (apply t_mix (id := 5) [0, 1, 2, 3, 4, 5, 6, 7] 1 #[false, false, false, false, false, false, false, false, true]; kernel_rfl; kernel_rfl; exact rfl) | ((with_reducible apply t_seq)) | (apply t_region; kernel_rfl) | ((with_reducible apply t_condT); exact rfl) | ((with_reducible apply t_condF); exact rfl) | ((with_reducible apply t_ret)) | ((with_reducible apply t_skip)) | ((with_reducible apply t_exit)) | ((with_reducible apply t_block))) | with_reducible apply q_thenN | with_reducible apply q_blockN | with_reducible apply q_thenE | ((with_reducible apply q_blockE); exact rfl) | exact P0 | ((with_reducible apply P1)) | ((with_reducible apply Norm.nil); exact rfl) | ((with_reducible apply Norm.cons); exact rfl) | ((with_reducible apply end_ret)) | exact rvs_nil | ((with_reducible apply rvs_cons)) | ((with_reducible apply rv_tmp); exact rfl) | ((with_reducible apply al_id); first | (apply al_done; decide +kernel) | (apply al_one 8; decide +kernel)) | exact Nat.le_of_ble_eq_true rfl)); (try focus (repeat (rename_i x; first | exact goD x m1.p | revert x))); (try focus (repeat (rename_i x; first | exact goD x m2.p | revert x))); (try focus (repeat (rename_i x; first | exact goD x m3.p | revert x))); (try focus (repeat (rename_i x; first | exact goD x m4.p | revert x))); (try focus (repeat (rename_i x; first | exact goD x m5.p | revert x))); (try focus (repeat (rename_i x; first | exact goD x m6.p | revert x))); (try focus (repeat (rename_i x; first | exact goD x m7.p | revert x))); (try focus (repeat (rename_i x; first | exact goD x m8.p | revert x))); (try focus (repeat (rename_i x; first | exact goD x m9.p | revert x))); (try focus (repeat (rename_i x; first | exact goD x m10.p | revert x))); (try focus (repeat (rename_i x; first | exact goD x m11.p | revert x))); (try focus (repeat (rename_i x; first | exact goD x m12.p | revert x))); (try focus (repeat (rename_i x; first | exact goD x m13.p | revert x))); (try focus (repeat (rename_i x; first | exact goD x m14.p | revert x))); (try focus (repeat (rename_i x; first | exact goD x m15.p | revert x))); (try focus (repeat (rename_i x; first | exact goD x m16.p | revert x)))) (e : GoTs A1 A2 A3 A4 A5 A6 A7 A8 A9 A10 A11 A12 A13 A14 A15 A16 := by constructor <;> first | (with_reducible exact GoT.t) | exact GoT.u) : G := p.run h
open Go.RowKit
/-- A route as it lies: its block, its tracks, the room. -/
abbrev Rb := Nat × List Nat × Nat
def rbH (r : Rb) : Nat × List Value × Tg := (r.1, (cI r.2.1).map iv, some (3, 1, r.2.2))
def poolH (P : List Rb) : Hp := P.map rbH
theorem poolH_cons (r : Rb) (P : List Rb) : poolH (r :: P) = rbH r :: poolH P := rfl
theorem poolH_nil : poolH [] = [] := rfl
theorem poolH_app (N P : List Rb) : poolH (N ++ P) = poolH N ++ poolH P := List.map_append ..
theorem pool_mid (a hk0 : Hp) (N P : List Rb) : HpSub ((a ++ poolH N) ++ (hk0 ++ poolH P)) ((a ++ hk0) ++ poolH (N ++ P)) := by
  refine hp_of_per (K := []) ?_
  rw [List.append_nil, poolH_app, List.append_assoc, List.append_assoc]
  refine List.Perm.append_left _ ?_
  rw [← List.append_assoc, ← List.append_assoc]
  exact List.Perm.append_right _ List.perm_append_comm
/-- The plan's route lies in the pool. -/
def InP (P : List Rb) (x : Pn) : Prop := (plL x.p = [] ∧ x.A = none ∧ x.n = 0 ∧ x.c = 0) ∨ ∃ r ∈ P, r.2.1 = plL x.p ∧ x.A = some ⟨r.1, 0, none⟩ ∧ x.n = r.2.1.length ∧ x.c = r.2.2
theorem InP.more {P N : List Rb} {x : Pn} (h : InP P x) : InP (N ++ P) x := by
  rcases h with h | ⟨r, hr, h⟩
  · exact .inl h
  · exact .inr ⟨r, List.mem_append_right _ hr, h⟩
theorem InP.left {P N : List Rb} {x : Pn} (h : InP N x) : InP (N ++ P) x := by
  rcases h with h | ⟨r, hr, h⟩
  · exact .inl h
  · exact .inr ⟨r, List.mem_append_left _ hr, h⟩
theorem InP.cons {P : List Rb} {r : Rb} {x : Pn} (h : InP P x) : InP (r :: P) x := h.more (N := [r])
theorem pool_blk {w0 w : World} {M : Ms} {P : List Rb} (h : Has w0 M (poolH P) w) : ∀ r ∈ P, Blk w r.1 ((cI r.2.1).map iv) (some (3, 1, r.2.2)) := fun r hr => (h.blk (rbH r) (List.mem_map.2 ⟨r, hr, rfl⟩)).2
theorem InP.len {P : List Rb} {x : Pn} (h : InP P x) : x.n = (plL x.p).length := by
  rcases h with ⟨h1, _, h3, _⟩ | ⟨r, _, h1, _, h3, _⟩
  · rw [h1, h3]; rfl
  · rw [h3, h1]
theorem InP.rd {P : List Rb} {x : Pn} {w : World} (h : InP P x) (hP : ∀ r ∈ P, Blk w r.1 ((cI r.2.1).map iv) (some (3, 1, r.2.2))) : RdS w 1 x.A x.n ((cI (plL x.p)).map inCells) := by
  rcases h with ⟨h1, h2, h3, _⟩ | ⟨r, hr, h1, h2, h3, _⟩
  · rw [h1, h2, h3]; exact RdS.nil _ _ _
  · rw [← h1, h2, h3]
    refine Blk.rows (g := some (3, 1, r.2.2)) ?_ (by simp [cI]) (by intro q hq; obtain ⟨z, _, rfl⟩ := List.mem_map.1 hq; rfl)
    rw [in_flat]
    exact hP r hr
theorem InP.pnR {P : List Rb} {x : Pn} {w : World} (h : InP P x) (hP : ∀ r ∈ P, Blk w r.1 ((cI r.2.1).map iv) (some (3, 1, r.2.2))) (hn : (plL x.p).length ≤ 1000000) : PnR w x := ⟨h.rd hP, by rw [h.len]; exact hn⟩
theorem plans_bd {A : Arcs} {n : Nat} {to : Nat → Bool} (hA : ∀ i x, x ∈ A i → 0 ≤ x.2.2 ∧ x.2.2 ≤ 166666666667) : ∀ k, ∀ a, some a ∈ plansF A n to k → 0 ≤ a.1 ∧ a.1 ≤ (k : Int) * 166666666667 ∧ a.2.length ≤ k
  | 0, a, h => by
    obtain ⟨i, _, h⟩ := List.mem_map.1 h
    split at h
    · obtain rfl := Option.some.inj h; simp
    · cases h
  | k + 1, a, h => by
    obtain ⟨i, _, h⟩ := List.mem_map.1 h
    have key : ∀ p, p = (plansF A n to k).getD i none ∨ p ∈ moreP (plansF A n to k) (A i) → ∀ a, p = some a → 0 ≤ a.1 ∧ a.1 ≤ ((k + 1 : Nat) : Int) * 166666666667 ∧ a.2.length ≤ k + 1 := by
      rintro p hp a rfl
      have get : ∀ j y, (plansF A n to k).getD j none = some y → some y ∈ plansF A n to k := fun j y hy => by
        rw [List.getD_eq_getElem?_getD] at hy
        cases hg : (plansF A n to k)[j]? with
        | none => rw [hg] at hy; cases hy
        | some v => rw [hg] at hy; obtain rfl : v = some y := hy; exact List.mem_of_getElem? hg
      rcases hp with hp | hp
      · have := plans_bd hA k a (get _ _ hp.symm)
        omega
      · obtain ⟨x, hx, y, hy, e⟩ := mem_moreP.1 hp
        obtain rfl := Option.some.inj e
        have h1 := plans_bd hA k y (get _ _ hy)
        have h2 := hA i x hx
        simp only [List.length_cons]
        omega
    rcases (leastF_spec (moreP (plansF A n to k) (A i)) ((plansF A n to k).getD i none)).1 with e | e
    · exact key _ (.inl e) a h
    · exact key _ (.inr e) a h
/-- The plans as the first loop leaves them. -/
def zP : Pn := ⟨some (0, []), none, 0, 0⟩
def nP : Pn := ⟨none, none, 0, 0⟩
def iniN (to : Nat → Bool) (m k : Nat) : List Pn := (List.range m).map fun i => if i < k ∧ to i = false then nP else zP
theorem iniN_zero (to : Nat → Bool) (m : Nat) : iniN to m 0 = List.replicate m zP := by
  unfold iniN
  refine List.ext_getElem? fun j => ?_
  by_cases hj : j < m <;> simp [hj]
theorem iniN_get {to : Nat → Bool} {m k j : Nat} (hj : j < m) : (iniN to m k)[j]? = some (if j < k ∧ to j = false then nP else zP) := by simp [iniN, hj]
theorem iniN_at {to : Nat → Bool} {m k : Nat} (hj : k < m) : (iniN to m k)[k]? = some zP := by rw [iniN_get hj]; simp
theorem iniN_set {to : Nat → Bool} {m k : Nat} : (iniN to m k).set k (if to k = false then nP else zP) = iniN to m (k + 1) := by
  refine List.ext_getElem? fun j => ?_
  rw [List.getElem?_set]
  by_cases hj : j < m
  · rw [iniN_get hj, iniN_get hj]
    by_cases h : k = j
    · subst h
      have : (iniN to m k).length = m := by simp [iniN]
      simp [hj, this]
    · rw [if_neg h]
      congr 1
      by_cases h2 : j < k
      · simp [h2, show j < k + 1 by omega]
      · simp [h2, show ¬ j < k + 1 by omega]
  · have e1 : (iniN to m k)[j]? = none := by rw [List.getElem?_eq_none_iff]; simp [iniN]; omega
    have e2 : (iniN to m (k + 1))[j]? = none := by rw [List.getElem?_eq_none_iff]; simp [iniN]; omega
    have e3 : (iniN to m k).length = m := by simp [iniN]
    rw [e1, e2, e3]
    split
    · rw [if_neg (by omega)]
    · rfl
theorem iniN_p (A : Arcs) (to : Nat → Bool) (m : Nat) : (iniN to m m).map (·.p) = plansF A m to 0 := by
  unfold iniN plansF
  rw [List.map_map]
  refine List.map_congr_left fun i hi => ?_
  have := List.mem_range.1 hi
  show (if i < m ∧ to i = false then nP else zP).p = _
  cases h : to i <;> simp [h, this, nP, zP]
theorem iniN_in {P : List Rb} {to : Nat → Bool} {m k : Nat} : ∀ x ∈ iniN to m k, InP P x := fun x hx => by
  obtain ⟨i, _, rfl⟩ := List.mem_map.1 hx
  split <;> exact .inl ⟨rfl, rfl, rfl, rfl⟩
theorem up_set {ys l : List Pn} (u : Pn) (h : ys.length < l.length) : (ys ++ l.drop ys.length).set ys.length u = (ys ++ [u]) ++ l.drop (ys ++ [u]).length := by
  rw [List.set_append_right _ _ (Nat.le_refl _), Nat.sub_self, List.drop_eq_getElem_cons h, List.set_cons_zero, List.append_assoc, List.length_append]
  rfl
theorem up_get {ys l : List Pn} {z : Pn} (h : l[ys.length]? = some z) : (ys ++ l.drop ys.length)[ys.length]? = some z := by
  rw [List.getElem?_append_right (Nat.le_refl _), Nat.sub_self, List.getElem?_drop]; exact h
/-- A track that can be flown, as an arc. -/
def arcFN (cst : Lg → Bool → Int) {L : List Lg} {s : Int} (x : FN L s) : Option (Nat × Nat × Int) := (L[x.1.1]?).bind fun z => if 0 ≤ cst z x.1.2.1 then some (x.1.1, x.1.2.2.toNat, cst z x.1.2.1) else none
theorem fnS_arc (cst : Lg → Bool → Int) (L : List Lg) (s i : Nat) : (fnS L (s : Int) i).bind (arcFN cst) = arcT cst L s i := by
  unfold arcT
  cases h : L[i]? with
  | none => unfold fnS; split <;> simp_all
  | some z =>
    show _ = arcOf cst s z i
    unfold arcOf
    by_cases ha : z.a = (s : Int)
    · rw [fnS_a h ha, if_pos ha]
      simp [arcFN, h]
    · rw [if_neg ha]
      by_cases hb : z.b = (s : Int)
      · rw [fnS_b h ha hb, if_pos hb]
        simp [arcFN, h]
      · rw [fnS_no h ha hb, if_neg hb]; rfl
theorem fns_arcs (cst : Lg → Bool → Int) (L : List Lg) (s : Nat) : (fns L (s : Int) L.length).filterMap (arcFN cst) = arcs cst L s := by
  unfold fns arcs
  rw [List.filterMap_filterMap]
  exact congrArg (fun f => List.filterMap f (List.range L.length)) (funext fun i => fnS_arc cst L s i)
/-- The plans over the tracks so far. -/
def mvP (cst : Lg → Bool → Int) {L : List Lg} {s : Int} (P : List Pl) (pre : List (FN L s)) : List Pl := moreP P (pre.filterMap (arcFN cst))
theorem mvP_snoc (cst : Lg → Bool → Int) {L : List Lg} {s : Int} (P : List Pl) (pre : List (FN L s)) (x : FN L s) {z : Lg} (hz : L[x.1.1]? = some z) :
    mvP cst P (pre ++ [x]) = mvP cst P pre ++ (if 0 ≤ cst z x.1.2.1 then (match P.getD x.1.2.2.toNat none with | some y => [some (cst z x.1.2.1 + y.1, x.1.1 :: y.2)] | none => []) else []) := by
  unfold mvP moreP
  rw [List.filterMap_append, List.filterMap_append]
  congr 1
  have e : arcFN cst x = if 0 ≤ cst z x.1.2.1 then some (x.1.1, x.1.2.2.toNat, cst z x.1.2.1) else none := by unfold arcFN; rw [hz]; rfl
  rw [List.filterMap_cons, e]
  by_cases h : 0 ≤ cst z x.1.2.1
  · rw [if_pos h, if_pos h]
    simp only [List.filterMap_cons, List.filterMap_nil]
    cases P.getD x.1.2.2.toNat none <;> rfl
  · rw [if_neg h, if_neg h]; rfl
theorem flat_at {α : Type} {f : α → List Value} {s : Nat} (hf : ∀ x, (f x).length = s) : ∀ {l : List α} {i : Nat} {x : α}, l[i]? = some x → ∀ {j : Nat} {v : Value}, (f x)[j]? = some v → ((l.map f).flatten)[i * s + j]? = some v
  | [], i, x, h, _, _, _ => by simp at h
  | y :: l, 0, x, h, j, v, hv => by
    obtain rfl : y = x := by simpa using h
    have hj := (List.getElem?_eq_some_iff.1 hv).1
    rw [List.map_cons, List.flatten_cons, Nat.zero_mul, Nat.zero_add, List.getElem?_append_left hj]
    exact hv
  | y :: l, i + 1, x, h, j, v, hv => by
    have h' : l[i]? = some x := by simpa using h
    have := flat_at hf h' hv
    rw [List.map_cons, List.flatten_cons, List.getElem?_append_right (by rw [hf]; rw [Nat.succ_mul]; omega), hf]
    rw [show (i + 1) * s + j - s = i * s + j by rw [Nat.succ_mul]; omega]
    exact this
theorem flat_set {α : Type} {f : α → List Value} {s : Nat} (hf : ∀ x, (f x).length = s) : ∀ {l : List α} {i : Nat} {x y : α}, l[i]? = some x → ∀ {k : Nat} {v : Value}, k < s → f y = (f x).set k v → ((l.map f).flatten).set (i * s + k) v = ((l.set i y).map f).flatten
  | [], i, x, y, h, k, v, hk, hy => by simp at h
  | a :: l, 0, x, y, h, k, v, hk, hy => by
    obtain rfl : a = x := by simpa using h
    simp only [List.map_cons, List.flatten_cons, List.set_cons_zero, Nat.zero_mul, Nat.zero_add]
    rw [List.set_append_left _ _ (by rw [hf]; exact hk), hy]
  | a :: l, i + 1, x, y, h, k, v, hk, hy => by
    have h' : l[i]? = some x := by simpa using h
    simp only [List.map_cons, List.flatten_cons, List.set_cons_succ]
    rw [List.set_append_right _ _ (by rw [hf, Nat.add_mul]; omega), hf, show (i + 1) * s + k - s = i * s + k by rw [Nat.add_mul]; omega, flat_set hf h' hk hy]
theorem pn_at {l : List Pn} {i : Nat} {x : Pn} (h : l[i]? = some x) : ((l.map pnCells).flatten)[0 + i * 3]? = some (.int .i64 (plF x.p)) ∧ ((l.map pnCells).flatten)[0 + i * 3 + 1]? = some (.slice x.A x.n x.c) ∧ ((l.map pnCells).flatten)[0 + i * 3 + 1 + 1]? = some (.bool x.p.isNone) := by
  rw [Nat.zero_add]
  exact ⟨flat_at (f := pnCells) (s := 3) (fun _ => rfl) h (j := 0) rfl, flat_at (f := pnCells) (s := 3) (fun _ => rfl) h (j := 1) rfl, flat_at (f := pnCells) (s := 3) (fun _ => rfl) h (j := 2) rfl⟩
theorem rd_pn0 {c : Cx} {H H' : Hp} {g i : Nat} {l : List Pn} {x : Pn} {tg : Tg} (h : l[i]? = some x) (p : Pick H g ((l.map pnCells).flatten) tg H') : Rd c H ⟨g, 0 + i * 3, none⟩ (.int .i64 (plF x.p)) := Rd.own p (pn_at h).1
theorem rd_pn1 {c : Cx} {H H' : Hp} {g i : Nat} {l : List Pn} {x : Pn} {tg : Tg} (h : l[i]? = some x) (p : Pick H g ((l.map pnCells).flatten) tg H') : Rd c H ⟨g, 0 + i * 3 + 1, none⟩ (.slice x.A x.n x.c) := Rd.own p (pn_at h).2.1
theorem rd_pn2 {c : Cx} {H H' : Hp} {g i : Nat} {l : List Pn} {x : Pn} {tg : Tg} (h : l[i]? = some x) (p : Pick H g ((l.map pnCells).flatten) tg H') : Rd c H ⟨g, 0 + i * 3 + 1 + 1, none⟩ (.bool x.p.isNone) := Rd.own p (pn_at h).2.2
theorem pn_set {l : List Pn} {i : Nat} {x u : Pn} (h : l[i]? = some x) : setL ((l.map pnCells).flatten) (0 + i * 3) (pnCells u) = ((l.set i u).map pnCells).flatten := by
  have hi := (List.getElem?_eq_some_iff.1 h).1
  have e : ∀ (l : List Pn) (i : Nat), i < l.length → setL ((l.map pnCells).flatten) (i * 3) (pnCells u) = ((l.set i u).map pnCells).flatten := by
    intro l
    induction l with
    | nil => intro i h; simp at h
    | cons a l ih =>
      intro i h
      cases i with
      | zero => simp [setL, pnCells]
      | succ i =>
        have := ih i (by simpa using h)
        rw [show (i + 1) * 3 = i * 3 + 3 by omega]
        simp only [setL, pnCells, List.map_cons, List.flatten_cons, List.cons_append, List.nil_append, List.set_cons_succ] at this ⊢
        rw [← this]
  rw [Nat.zero_add]
  exact e l i hi
theorem pn_setF {l : List Pn} {i : Nat} {x u : Pn} (h : l[i]? = some x) {v : Value} (hu : pnCells u = (pnCells x).set 2 v) : ((l.map pnCells).flatten).set (0 + i * 3 + 2) v = ((l.set i u).map pnCells).flatten := by
  rw [Nat.zero_add]
  exact flat_set (f := pnCells) (s := 3) (fun _ => rfl) h (by omega) hu
section
variable {c : Cx} {F : Fr} {H H' : Hp} {K : Value → Hp → Prop} {d : Option Tmp} {ty t : TypeId} {pos : String} {af : Array Edge} {gd : Option (Nat × Bool)} {x y : Operand} {a0 : Bool} {z0 : List Value} {k0 : TyK} {g i : Nat} {tg : Tg} {l l' : List Pn} {z : Pn}
theorem os_storePn (u : Pn) (hz : l[i]? = some z) (hl : l.set i u = l') (ht : tyAt c.tys t = some ⟨a0, 3, z0, k0⟩) (hx : ev F x = some (.pointer (some ⟨g, 0 + i * 3, none⟩))) (hy : ev F y = some (.agg ⟨pnCells u⟩)) (hp : Pick H g ((l.map pnCells).flatten) tg H')
    (kk : K undef ((g, (l'.map pnCells).flatten, tg) :: H')) : OS c ⟨d, .store t x y, ty, pos, af, gd⟩ F H K :=
  store_gen (vs := pnCells u) ht hx hy rfl rfl (by simp [pnCells, Value.oneCell']) hp (by rw [pnF_len]; have := (List.getElem?_eq_some_iff.1 hz).1; omega) (by rw [pn_set hz, hl]; exact kk)
theorem os_storePf (u : Pn) {v : Value} (hz : l[i]? = some z) (hl : l.set i u = l') (ht : tyAt c.tys t = some ⟨a0, 1, z0, k0⟩) (hx : ev F x = some (.pointer (some ⟨g, 0 + i * 3 + 2, none⟩))) (hy : ev F y = some v) (hv : v.oneCell' = true) (hu : pnCells u = (pnCells z).set 2 v) (hp : Pick H g ((l.map pnCells).flatten) tg H')
    (kk : K undef ((g, (l'.map pnCells).flatten, tg) :: H')) : OS c ⟨d, .store t x y, ty, pos, af, gd⟩ F H K :=
  os_store ht hx hy hv hp (by rw [pnF_len]; have := (List.getElem?_eq_some_iff.1 hz).1; omega) (C' := (l'.map pnCells).flatten) (by rw [pn_setF hz hu, hl]; exact Norm.self _) kk
end
section
variable {c : Cx} {S : WS c.P} {Q : QS} {F : Fr} {H : Hp} {x : Code}
/-- A loop whose blocks are told whole. -/
theorem t_loopP {ι : Type} (keep : List Nat) (ch : ι → Fr) (hc : ι → Hp) (Pi : ι → Prop) (μ : ι → Nat) (i0 : ι) {G : Fr} (hK : KeepF F keep G) (hF : FrSub F (ch i0)) (hH : HpSub H (hc i0)) (h0 : Pi i0)
    (h : ∀ i, Pi i → T c S x (thenQ (fun F' H' => ∃ j, Pi j ∧ μ j < μ i ∧ FrSub F' (ch j ++ G) ∧ HpSub H' (hc j)) Q) (ch i ++ G) (hc i)) : T c S (.loop x) Q F H :=
  t_loop (fun i => ch i ++ G) hc Pi μ i0 h0 (hF.append hK.sub) hH h
end
theorem blk_cap {w : World} {b e s cap : Nat} {C : List Value} (h : Blk w b C (some (e, s, cap))) : C.length ≤ cap * s := by
  obtain ⟨c, t, h1, h2, rfl, h4, h5⟩ | ⟨h1, _⟩ := h
  rotate_left
  · rw [h1]; exact Nat.zero_le _
  rw [← h4]
  rcases Nat.eq_zero_or_pos C.length with h0 | h0
  · omega
  have := h2 (C.length - 1) C[C.length - 1] (List.getElem?_eq_getElem (by omega))
  have := (Array.getElem?_eq_some_iff.1 this).1
  omega
theorem ext_over {w W w1 : World} {M : List Nat} (e : Ext w W) (h : ExtM M W w1) (hM : ∀ b ∈ M, w.heap.size ≤ b) : Ext w w1 :=
  have k := (e.toM M).trans h
  ⟨k.os, k.tape, k.output, k.size, fun b hb => k.block b hb (fun hm => by have := hM b hm; omega)⟩
/-- The blocks are rows, none of them of the type e. -/
def TyO (e : TypeId) (H : Hp) : Prop := ∀ x ∈ H, ∃ t s cap, x.2.2 = some (t, s, cap) ∧ t ≠ e ∧ s ≠ 0
theorem TyO.nil {e : TypeId} : TyO e [] := fun x hx => by cases hx
theorem TyO.cons {e t s cap b : Nat} {C : List Value} {H : Hp} (h : TyO e H) (ht : t ≠ e := by decide) (hs : s ≠ 0 := by decide) : TyO e ((b, C, some (t, s, cap)) :: H) := fun x hx => by
  rcases List.mem_cons.1 hx with rfl | hx
  · exact ⟨t, s, cap, rfl, ht, hs⟩
  · exact h x hx
theorem TyO.app {e : TypeId} {H G : Hp} (h : TyO e H) (k : TyO e G) : TyO e (H ++ G) := fun x hx => (List.mem_append.1 hx).elim (h x) (k x)
theorem TyO.pool {e : TypeId} (P : List Rb) (he : 3 ≠ e := by decide) : TyO e (poolH P) := fun x hx => by
  obtain ⟨r, _, rfl⟩ := List.mem_map.1 hx
  exact ⟨3, 1, r.2.2, rfl, he, by decide⟩
theorem TyO.noT {e : TypeId} {H : Hp} (h : TyO e H) : NoT e H := fun x hx => by
  obtain ⟨t, s, cap, h1, h2, _⟩ := h x hx
  exact ⟨t, s, cap, h1, h2⟩
theorem TyO.noM {e : TypeId} {H : Hp} (h : TyO e H) : NoM H := fun x hx t L hm => by
  obtain ⟨t', s, cap, h1, _, h3⟩ := h x hx
  rw [h1] at hm
  simp only [mapTg, Option.some.injEq, Prod.mk.injEq] at hm
  exact h3 hm.2.1
theorem TyO.ne {e : TypeId} {H : Hp} (h : TyO e H) {W : World} {b s cap : Nat} {C : List Value} (hb : Blk W b C (some (e, s, cap))) {z : Nat × List Value × Tg} (hz : z ∈ H) (hzb : Blk W z.1 z.2.1 z.2.2) (hs : s ≠ 0 := by decide) : b ≠ z.1 := by
  obtain ⟨t', s', cap', h1, h2, h3⟩ := h z hz
  rw [h1] at hzb
  exact Blk.ne hb hzb (Ne.symm h2) hs h3
/-- The plans that are handed out. -/
def PlansV (R : List Pl) (m : Nat) (u : Value) (H : Hp) : Prop := ∃ (l : List Pn) (P : List Rb) (g c : Nat), l.map (·.p) = R ∧ (∀ x ∈ l, InP P x) ∧ u = .slice (some ⟨g, 0, none⟩) m c ∧ H = (g, (l.map pnCells).flatten, some (131, 3, c)) :: poolH P
end Go.Proofs.YtcjkndjjbjoehaaGreat
namespace Go.Proofs.YtcjkndjjbjoehaaGreat
open Go.RowKit
attribute [local irreducible] OQ OS OX Rd T TL GX GL AL AI RV wpG SAny Calls
def FromV (bd : Nat) (s : Int) (u : Value) (H : Hp) : Prop := ∃ b0 b1, u = .func (.func 131) #[] #[.pointer (some ⟨b0, 0, none⟩), .pointer (some ⟨b1, 0, none⟩)] ∧ H = [(b1, [.int .i64 s], some (3, 1, 1)), (b0, [.pointer (some ⟨bd, 0, none⟩)], some (126, 1, 1))]
theorem from106_calls (bd : Nat) (s : Int) (w : World) : Calls Tryz.prog 106 #[.pointer (some ⟨bd, 0, none⟩), .int .i64 s] w fun e w' => ∃ u H', e = .returned u ∧ FromV bd s u H' ∧ Has w ⟨[], []⟩ H' w' := by
  refine enterF (c := cx w 6) Tryz.func106 rfl rfl rfl rfl ?_
  ((all_goals refine goR0 ?_); (all_goals constructor); (any_goals exact trivial); all_goals intros)
  all_goals (rename_i b0 b1; refine ⟨_, ⟨b0, b1, rfl, rfl⟩, ?_⟩; (try simp only [List.append_nil]); exact HpSub.refl _)
theorem alt1_calls (x : Nat) (bp bd : Nat) (AP : Option Addr) (m cM : Nat) (T : List Bool) (w : World) (hx : x < m) (hm : m ≤ 1000000) (d0 : w.cell? ⟨bp, 0, none⟩ = some (.pointer (some ⟨bd, 0, none⟩))) (d1 : w.cell? ⟨bd, 0, none⟩ = some (.slice AP m cM)) (hT : RdS w 1 AP m (T.map blCells)) : Calls Tryz.prog 114 #[.int .i64 (x : Nat), .pointer (some ⟨bp, 0, none⟩)] w fun e w' => e = .returned (.bool (T.getD x false)) ∧ Ext w w' := by
  obtain ⟨bT, oT, y, rfl, _, hy, c0⟩ := bl_read hT hx
  rw [show T.getD x false = y by rw [List.getD_eq_getElem?_getD, hy]; rfl]
  refine enterQ (c := cx w 12) Tryz.func114 rfl rfl rfl rfl ?_
  ((all_goals refine goR0 ?_); (all_goals constructor); (any_goals exact trivial); all_goals intros)
  all_goals rfl
theorem zero131z : (Tryz.prog.info? 131).map (fun i => i.zero) = some (some (.agg #[.int .i64 0, .slice none 0 0, .bool false])) := by kernel_rfl
theorem pn_rows {w0 : World} {M : Ms} {H H' : Hp} {w : World} {g n : Nat} {l : List Pn} {tg : Tg} (hl : l.length = n) (h : Has w0 M H w) (q : Pick H g ((l.map pnCells).flatten) tg H') : RdS w 3 (some ⟨g, 0, none⟩) n (l.map pnCells) :=
  Blk.rows (h.blk _ q.mem).2 (by simpa using hl) pn_len
theorem in_rows1 {w0 : World} {M : Ms} {H H' : Hp} {w : World} {g : Nat} {l : List Int} {n : Nat} {tg : Tg} (hl : l.length = n) (h : Has w0 M H w) (q : Pick H g (l.map iv) tg H') : RdS w 1 (some ⟨g, 0, none⟩) n (l.map inCells) :=
  Blk.rows (by rw [in_flat]; exact (h.blk _ q.mem).2) (by simpa using hl) in_rows_len
theorem two_rows {w0 : World} {M : Ms} {H H' : Hp} {w : World} {g : Nat} {a b : Value} {tg : Tg} (h : Has w0 M H w) (q : Pick H g [a, b] tg H') : RdS w 1 (some ⟨g, 0, none⟩) 2 [[a], [b]] :=
  Blk.rows (h.blk _ q.mem).2 rfl (by simp)
theorem getD_map {l : List Pn} {Q : List Pl} (h : l.map (·.p) = Q) {s : Nat} {y : Pn} (hy : l[s]? = some y) : Q.getD s none = y.p := by
  rw [← h, List.getD_eq_getElem?_getD, List.getElem?_map, hy]; rfl
theorem step_take {A : Arcs} {m i : Nat} {Q : List Pl} (hi : i < m) : (stepP A m Q).take (i + 1) = (stepP A m Q).take i ++ [leastF (Q.getD i none) (moreP Q (A i))] := by
  rw [List.take_add_one]
  congr 1
  simp [stepP, hi]
theorem plans_calls (bd : Nat) (AP AT : Option Addr) (m cM n cp : Nat) (L : List Lg) (w : World) (d0 : w.cell? ⟨bd, 0, none⟩ = some (.slice AP m cM)) (d1 : w.cell? ⟨bd, 1, none⟩ = some (.slice AT n cp)) (hr : RdS w 5 AT n (L.map lgCells)) (hn : n ≤ 40) (hm : m ≤ 12) (hL : ∀ z ∈ L, LegOk m z) (cst : Lg → Bool → Int) (hc : ∀ z ∈ L, ∀ bk, cst z bk ≤ 166666666667) (HF : ∀ (j : Nat) (z : Lg) (bk : Bool) (w1 : World), L[j]? = some z → Ext w w1 → Calls Tryz.prog 81 #[.pointer (some ⟨bd, 0, none⟩), .agg #[.int .i64 (j : Nat), .bool bk]] w1 fun e w' => e = .returned (.tuple #[.int .i64 (if 0 ≤ cst z bk then cst z bk else 0), .bool (decide (0 ≤ cst z bk))]) ∧ Ext w1 w') (to : Nat → Bool) (kf : Nat) (caps : List Value) (hcf : ∀ (a : Array Value) (w : World), (callFunc kf a).run Tryz.prog w = .ok (.enter kf a) w) (HT : ∀ (i : Nat) (w1 : World), i < m → Ext w w1 → Calls Tryz.prog kf ⟨.int .i64 (i : Nat) :: caps⟩ w1 fun e w' => e = .returned (.bool (to i)) ∧ Ext w1 w') : Calls Tryz.prog 68 #[.pointer (some ⟨bd, 0, none⟩), .func (.func kf) #[] ⟨caps⟩] w fun e w' => ∃ u H', e = .returned u ∧ PlansV (plansF (arcs cst L) m to m) m u H' ∧ Has w ⟨[], []⟩ H' w' := by
  have hl : L.length = n := by simpa using hr.len
  refine enterF (c := cx w 105) Tryz.func68 rfl rfl rfl rfl ?_
  repeat' (first | ((with_reducible apply oq_id); first | (apply oq_fn; exact rfl; first | exact trivial | (refine ⟨?_, ?_⟩ <;> omega) | (refine ⟨?_, ?_, ?_⟩ <;> omega) | omega | skip) | ((with_reducible apply oq_load); exact rfl; exact rfl)) | ((with_reducible apply tl_id); first | ((with_reducible apply tl_nil)) | ((with_reducible apply u_s); exact rfl; exact rfl; exact rfl; ((with_reducible apply (os_make (n := m) (hk := app_ok132) (hz := zero131z) (zs := pnCells zP))); exact rfl; exact rfl; exact rfl; exact rfl; omega; (unfold maxLen; omega); intro g0)) | ((with_reducible apply u_q); exact rfl; exact rfl; exact rfl; exact rfl) | ((with_reducible apply u_s0); exact rfl; exact rfl) | ((with_reducible apply u_s); exact rfl; exact rfl; exact rfl)) | ((with_reducible apply os_id); first | ((with_reducible apply os_x); exact rfl) | ((with_reducible apply os_store); exact rfl; exact rfl; exact rfl; exact rfl)) | ((with_reducible apply ox_id); first | ((with_reducible apply ox_alloc); exact rfl; intro _) | ((with_reducible apply ox_box); exact rfl; exact rfl; intro _)) | ((with_reducible apply rd_id); first | (apply Rd.own; (repeat (first | exact P0 | apply P1)); exact rfl; done) | (apply Rd.old; (first | (with_reducible assumption) | exact c0 | exact c1 | exact c2 | exact c3 | exact c4 | exact c5 | exact c6 | exact c7 | exact c8 | exact d0 | exact d1 | exact d2 | exact d3 | exact d4 | exact d5); first | exact List.not_mem_nil | exact m0 | exact m1 | exact m2 | exact m3 | exact m4 | exact m5 | exact m6 | exact m7 | exact m8 | exact m9)) | ((with_reducible apply t_id); first | ((with_reducible apply t_seq)) | (apply t_region; kernel_rfl) | ((with_reducible apply t_block))) | with_reducible apply q_thenN | exact P0 | ((with_reducible apply Norm.nil); exact rfl) | ((with_reducible apply Norm.cons); exact rfl) | exact Nat.le_of_ble_eq_true rfl)
  rename_i b2 b5
  rw [show (List.replicate m (pnCells zP)).flatten = ((iniN to m 0).map pnCells).flatten by rw [iniN_zero, List.map_replicate]]
  apply t_loopP (ι := Nat) [1, 2, 5, 22] (fun k => [(23, .int .i64 ((k : Nat) : Int))]) (fun k => [(b5, [.slice (some ⟨g0, 0, none⟩) m m], some (132, 1, 1)), (g0, ((iniN to m k).map pnCells).flatten, some (131, 3, m)), (b2, [.pointer (some ⟨bd, 0, none⟩)], some (126, 1, 1))]) (fun k => k ≤ m) (fun k => m - k) (0)
  (repeat (first | exact KeepF.nil | (apply KeepF.cons; exact rfl) | apply KeepF.skip))
  (repeat (first | exact FrSub.nil | (apply FrSub.cons; exact rfl)))
  (try simp only [List.cons_append, List.nil_append])
  (repeat' (first | exact HpSub.refl _))
  · exact Nat.zero_le _
  rintro k hk
  try simp only [List.cons_append, List.nil_append]
  by_cases hlt : k < m
  · have hk1 := iniN_at (to := to) hlt
    have hs := iniN_set (to := to) (m := m) (k := k)
    have HTk := fun w1 (hx : Ext w w1) => HT k w1 hlt hx
    cases hto : to k with
    | false =>
      rw [hto] at HTk
      ((all_goals refine goR1 ?_); (all_goals constructor); (any_goals exact trivial); all_goals intros)
      all_goals (refine ⟨k + 1, by omega, by omega, ?_, ?_⟩ <;> (repeat' (first | exact FrSub.nil | (apply FrSub.cons; exact rfl) | exact HpSub.refl _ | (apply HpSub.consE; (repeat (first | exact P0 | apply P1)); first | exact rfl | (simp; done) | skip))))
    | true =>
      rw [hto] at HTk
      ((all_goals refine goR1 ?_); (all_goals constructor); (any_goals exact trivial); all_goals intros)
      all_goals (refine ⟨k + 1, by omega, by omega, ?_, ?_⟩ <;> (repeat' (first | exact FrSub.nil | (apply FrSub.cons; exact rfl) | exact HpSub.refl _ | (apply HpSub.consE; (repeat (first | exact P0 | apply P1)); first | exact rfl | (simp; done) | skip))))
  obtain rfl : m = k := by omega
  ((all_goals refine goR1 ?_); (all_goals constructor); (any_goals exact trivial); all_goals intros)
  apply t_loopP (ι := Nat × Nat × Nat × List Pn × List Rb) [2, 5, 40] (fun z => [(41, .int .i64 ((z.1 : Nat) : Int))]) (fun z => (b5, [.slice (some ⟨z.2.1, 0, none⟩) m z.2.2.1], some (132, 1, 1)) :: (z.2.1, ((z.2.2.2.1).map pnCells).flatten, some (131, 3, z.2.2.1)) :: (b2, [.pointer (some ⟨bd, 0, none⟩)], some (126, 1, 1)) :: poolH z.2.2.2.2) (fun z => z.1 ≤ m ∧ z.2.2.2.1.map (·.p) = (plansF (arcs cst L) m to z.1) ∧ ∀ x ∈ z.2.2.2.1, InP z.2.2.2.2 x) (fun z => m - z.1) ((0, g0, m, iniN to m m, []))
  (repeat (first | exact KeepF.nil | (apply KeepF.cons; exact rfl) | apply KeepF.skip))
  (repeat (first | exact FrSub.nil | (apply FrSub.cons; exact rfl)))
  (try simp only [List.cons_append, List.nil_append])
  (repeat' (first | exact HpSub.refl _))
  · exact ⟨Nat.zero_le _, iniN_p _ _ _, iniN_in⟩
  rintro ⟨k, g, c, l, P⟩ ⟨hk, hlp, hlP⟩
  simp only at hk hlp hlP
  try simp only [List.cons_append, List.nil_append]
  have hll : l.length = m := by have := congrArg List.length hlp; simpa [plansF_len] using this
  have hbd := plans_bd (A := (arcs cst L)) (n := m) (to := to) (by
    intro i x hx
    obtain ⟨_, z, hz, h0, h⟩ := arcT_some (arcs_mem hx)
    refine ⟨h0, ?_⟩
    have hm := List.mem_of_getElem? hz
    rcases h with ⟨_, e⟩ | ⟨_, e⟩ <;> rw [e] <;> exact hc z hm _) k
  have hst : (plansF (arcs cst L) m to (k + 1)) = stepP (arcs cst L) m (plansF (arcs cst L) m to k) := rfl
  have hQl := plansF_len (A := (arcs cst L)) (n := m) (to := to) k
  by_cases hlt : k < m
  rotate_left
  · obtain rfl : m = k := by omega
    ((all_goals refine goR1 ?_); (all_goals constructor); (any_goals exact trivial); all_goals intros)
    all_goals (refine ⟨_, ⟨l, P, g, c, hlp, hlP, rfl, rfl⟩, ?_⟩ <;> (repeat' (first | exact HpSub.refl _ | (apply HpSub.consE; (repeat (first | exact P0 | apply P1)); first | exact rfl | (simp; done) | skip) | apply HpSub.skipX)))
  obtain ⟨Q, hQ⟩ : ∃ Q, (plansF (arcs cst L) m to k) = Q := ⟨_, rfl⟩
  rw [hQ] at hlp hst hbd hQl
  repeat' (first | ((with_reducible apply oq_id); first | ((with_reducible apply oq_lssT); exact rfl; exact rfl; omega) | (apply oq_fn; exact rfl; first | exact trivial | (refine ⟨?_, ?_⟩ <;> omega) | (refine ⟨?_, ?_, ?_⟩ <;> omega) | omega | skip) | ((with_reducible apply oq_load); exact rfl; exact rfl)) | ((with_reducible apply tl_id); first | ((with_reducible apply tl_nil)) | ((with_reducible apply u_s); exact rfl; exact rfl; exact rfl; (with_reducible apply os_callF (PV := OwnP l m) (k := 105) (hc := Tryz.call105)); exact rfl; exact rfl; exact fun D w1 hw1 => cloneP_calls g 0 m c l w1 (pn_rows hll hw1 (by (repeat (first | exact P0 | apply P1)))) (by omega); rintro _ _ ⟨gN, cN, rfl, rfl⟩; simp only [List.cons_append, List.nil_append]) | ((with_reducible apply u_q); exact rfl; exact rfl; exact rfl; exact rfl)) | ((with_reducible apply rd_id); first | (apply Rd.own; (repeat (first | exact P0 | apply P1)); exact rfl; done)) | ((with_reducible apply t_id); first | ((with_reducible apply t_seq)) | (apply t_region; kernel_rfl) | ((with_reducible apply t_condT); exact rfl) | ((with_reducible apply t_skip)) | ((with_reducible apply t_block))) | with_reducible apply q_thenN)
  apply t_loopP (ι := List Pn × List Rb) [2, 5, 40, 41, 7, 46] (fun z => [(47, .int .i64 ((z.1.length : Nat) : Int))]) (fun z => (gN, ((z.1 ++ l.drop z.1.length).map pnCells).flatten, some (131, 3, cN)) :: (b5, [.slice (some ⟨g, 0, none⟩) m c], some (132, 1, 1)) :: (g, ((l).map pnCells).flatten, some (131, 3, c)) :: (b2, [.pointer (some ⟨bd, 0, none⟩)], some (126, 1, 1)) :: poolH z.2) (fun z => z.1.length ≤ m ∧ z.1.map (·.p) = (stepP (arcs cst L) m Q).take z.1.length ∧ (∀ x ∈ z.1, InP z.2 x) ∧ ∀ x ∈ l, InP z.2 x) (fun z => m - z.1.length) (([], P))
  (repeat (first | exact KeepF.nil | (apply KeepF.cons; exact rfl) | apply KeepF.skip))
  (repeat (first | exact FrSub.nil | (apply FrSub.cons; exact rfl)))
  (try simp only [List.cons_append, List.nil_append])
  (repeat' (first | exact HpSub.refl _))
  · exact ⟨Nat.zero_le _, rfl, fun x hx => (by cases hx), hlP⟩
  rintro ⟨ys, Pq⟩ ⟨hy, hyp, hyP, hlP1⟩
  simp only at hy hyp hyP hlP1
  try simp only [List.cons_append, List.nil_append]
  by_cases hlC : ys.length < m
  rotate_left
  · have hym : ys.length = m := by omega
    ((all_goals refine goR1 ?_); (all_goals constructor); (any_goals exact trivial); all_goals intros)
    all_goals (refine ⟨(k + 1, gN, cN, ys, Pq), ⟨by simp only; omega, by simp only; rw [hst, hyp, hym, List.take_of_length_le (by simp [stepP])], hyP⟩, by simp only; omega, ?_, ?_⟩ <;> (try simp only) <;> (try rw [List.drop_of_length_le (by omega), List.append_nil]) <;> (repeat' (first | exact FrSub.nil | (apply FrSub.cons; exact rfl) | exact HpSub.refl _ | (apply HpSub.consE; (repeat (first | exact P0 | apply P1)); first | exact rfl | (simp; done) | skip) | apply HpSub.skipX)))
  obtain ⟨x, hx⟩ : ∃ x, l[ys.length]? = some x := ⟨_, List.getElem?_eq_getElem (by omega)⟩
  have hxm : x ∈ l := List.mem_of_getElem? hx
  have hlen : ∀ x ∈ l, (plL x.p).length ≤ k := fun x hx => by
    cases hp : x.p with
    | none => exact Nat.zero_le _
    | some a => exact (hbd a (by rw [← hlp, ← hp]; exact List.mem_map.2 ⟨x, hx, rfl⟩)).2.2
  repeat' (first | ((with_reducible apply oq_id); first | (focus ((with_reducible apply oq_indexAddrN); exact rfl; exact rfl; exact rfl; exact rfl; omega)) | ((with_reducible apply oq_lssT); exact rfl; exact rfl; omega) | (apply oq_fn; exact rfl; first | exact trivial | (refine ⟨?_, ?_⟩ <;> omega) | (refine ⟨?_, ?_, ?_⟩ <;> omega) | omega | skip) | ((with_reducible apply oq_load); exact rfl; exact rfl) | ((with_reducible apply oq_loadAgg); exact rfl; exact rfl)) | ((with_reducible apply tl_id); first | ((with_reducible apply tl_nil)) | ((with_reducible apply u_s); exact rfl; exact rfl; exact rfl; (with_reducible apply os_callF (PV := FromV bd ((ys.length : Nat) : Int)) (k := 106) (hc := Tryz.call106)); exact rfl; exact rfl; exact fun D w1 hw1 => from106_calls bd _ w1; rintro _ _ ⟨b0, b1, rfl, rfl⟩; simp only [List.cons_append, List.nil_append]) | ((with_reducible apply u_q); exact rfl; exact rfl; exact rfl; exact rfl) | ((with_reducible apply u_s0); exact rfl; exact rfl) | ((with_reducible apply u_s); exact rfl; exact rfl; exact rfl)) | ((with_reducible apply os_id); first | ((with_reducible apply os_x); exact rfl) | ((with_reducible apply os_store); exact rfl; exact rfl; exact rfl; exact rfl)) | ((with_reducible apply ox_id); first | ((with_reducible apply ox_alloc); exact rfl; intro _) | ((with_reducible apply ox_buildSlice); exact rfl; exact rfl; exact rfl; exact rfl)) | ((with_reducible apply rd_id); first | (apply rd_pn0 hx; (repeat (first | exact P0 | apply P1)); done) | (apply rd_pn1 hx; (repeat (first | exact P0 | apply P1)); done) | (apply rd_pn2 hx; (repeat (first | exact P0 | apply P1)); done) | (apply Rd.own; (repeat (first | exact P0 | apply P1)); exact rfl; done)) | ((with_reducible apply t_id); first | ((with_reducible apply t_seq)) | (apply t_region; kernel_rfl) | ((with_reducible apply t_condT); exact rfl) | ((with_reducible apply t_skip)) | ((with_reducible apply t_block))) | with_reducible apply q_thenN | exact P0 | exact Rdn.zero | apply Rdn.succ | ((with_reducible apply Norm.nil); exact rfl) | ((with_reducible apply Norm.cons); exact rfl) | exact Nat.le_of_ble_eq_true rfl | exact (rfl : (_ : Bool) = true) | (intro _; with_reducible apply tl_id))
  rename_i ga0 b9
  refine t_rangeT 78 (m := 1) (N := L.length) (α := FN L ((ys.length : Nat) : Int)) (β := Nat) (κ := Nat) (ι := Nat × Nat × List Pn × List Rb) (S := fun xs => xs = fns L ((ys.length : Nat) : Int) L.length) (Sp := fun pre => pre <+: fns L ((ys.length : Nat) : Int) L.length)
    (encs := fun x => [.agg ⟨[.int .i64 (x.1.1 : Int), .bool x.1.2.1]⟩, .int .i64 x.1.2.2])
    (hk := (b1, [.int .i64 ((ys.length : Nat) : Int)], some (3, 1, 1)) :: (b0, [.pointer (some ⟨bd, 0, none⟩)], some (126, 1, 1)) :: (gN, ((ys ++ l.drop ys.length).map pnCells).flatten, some (131, 3, cN)) :: (b5, [.slice (some ⟨g, 0, none⟩) m c], some (132, 1, 1)) :: (g, ((l).map pnCells).flatten, some (131, 3, c)) :: (b2, [.pointer (some ⟨bd, 0, none⟩)], some (126, 1, 1)) :: poolH Pq)
    (fun z => (b9, [.slice (some ⟨z.1, 0, none⟩) z.2.2.1.length z.2.1], some (132, 1, 1)) :: (z.1, ((z.2.2.1).map pnCells).flatten, some (131, 3, z.2.1)) :: poolH z.2.2.2) (fun pre z => z.2.2.1.map (·.p) = Q.getD ys.length none :: mvP cst Q pre ∧ z.2.2.1.length ≤ pre.length + 1 ∧ ∀ x ∈ z.2.2.1, InP (z.2.2.2 ++ Pq) x ∧ (plL x.p).length ≤ 13) (fun x b => [(b, [.int .i64 (x.1.1 : Int), .bool x.1.2.1], some (153, 2, 1))])
    (fun x b => [(10, .pointer (some ⟨b, 0, none⟩)), (11, .int .i64 x.1.2.2), (2, .pointer (some ⟨b2, 0, none⟩)), (5, .pointer (some ⟨b5, 0, none⟩)), (9, .pointer (some ⟨b9, 0, none⟩))]) (fun _ => []) (fun _ _ _ => False) (ga0, 1, [x], []) rfl Tryz.call131 ?seq ⟨by rw [getD_map hlp hx]; rfl, by simp, fun q hq => by (obtain rfl : q = x := (by simpa using hq)); exact ⟨(hlP1 _ hxm).more, by have := hlen _ hxm; omega⟩⟩ ?sub ?ok ?nt ?done (fun _ _ _ _ h => h.elim)
  case sub =>
    simp only [List.cons_append, List.nil_append, poolH_nil]
    (repeat' (first | exact HpSub.refl _ | (apply HpSub.consE; (repeat (first | exact P0 | apply P1)); first | exact rfl | (simp [pnCells]; done) | skip)))
  case nt =>
    intro x b z
    exact (TyO.cons (TyO.cons (TyO.cons (TyO.pool _)))).noT
  case seq =>
    intro D w1 hw1
    have hx : Ext w w1 := hw1.ext.ext
    refine from_stops Fence.wide 2 trivial rfl (by omega) b0 b1 bd AT n cp L _ (by omega) (fun z hz => (hL z hz).2.2.1) _ (.inr (by simp)) (.inr (by simp)) (.inl ⟨cell_lt d0, List.not_mem_nil⟩) (fun h0 b o h => .inl ⟨by obtain ⟨b', o', e, hlt, _⟩ := hr.at_ h0; rw [h] at e; cases e; exact hlt, List.not_mem_nil⟩) w1 ⟨hr.ext hx, ?_, ?_, hx.cell d1⟩
    · exact hw1.cellAt (by (repeat (first | exact P0 | apply P1))) rfl
    · exact hw1.cellAt (by (repeat (first | exact P0 | apply P1))) rfl
  case ok =>
    refine ⟨fun _ => rfl, rfl, fun x W => ?_, fun x b z k W D hb hw _ y hy q hq => ?_, fun l' pre x z b W D hi hw hlt' hl' => ?_, fun x b => (TyO.cons (e := 0) TyO.nil).noM, fun z => (TyO.cons (e := 0) (TyO.cons (TyO.pool _))).noM, (TyO.cons (e := 0) (TyO.cons (TyO.cons (TyO.cons (TyO.cons (TyO.cons (TyO.pool _))))))).noM, fun _ => NoM.nil⟩
    · refine sl0_seq (sl0_region (by kernel_rfl) ?_)
      ((all_goals refine goR0 ?_); (all_goals constructor); (any_goals exact trivial); all_goals intros)
      refine sl0_region (by kernel_rfl) ?_
      ((all_goals refine goR0 ?_); (all_goals constructor); (any_goals exact trivial); all_goals intros)
      rename_i bx
      refine ⟨bx, ?_, ?_⟩
      · (repeat (first | exact FrSub.nil | (apply FrSub.cons; exact rfl)))
      · (repeat (first | exact HpSub.refl _ | (apply HpSub.consE; (repeat (first | exact P0 | apply P1)); exact rfl) | exact HpSub.nil))
    · obtain rfl : y = _ := by simpa using hy
      have h1 := (hb.blk _ hy).2
      exact TyO.ne (e := 153) (TyO.app (TyO.cons (TyO.cons (TyO.pool _))) (TyO.cons (TyO.cons (TyO.cons (TyO.cons (TyO.cons (TyO.cons (TyO.pool _)))))))) h1 hq (hw.blk _ hq).2
    · obtain ⟨⟨t, bk, site⟩, zt, hz, hsc⟩ := x
      obtain ⟨ga, ca, ls, N⟩ := z
      obtain ⟨hi1, hi2, hi3⟩ := hi
      simp only at hz hsc hi1 hi2 hi3
      have hzm := List.mem_of_getElem? hz
      obtain ⟨s, rfl⟩ : ∃ s : Nat, site = s := by
        obtain ⟨⟨_, _⟩, ⟨_, _⟩, _⟩ := hL zt hzm
        refine Int.eq_ofNat_of_zero_le ?_
        rcases hsc with ⟨_, _, h⟩ | ⟨_, _, _, h⟩ <;> rw [h] <;> omega
      have hsm : s < m := by
        obtain ⟨⟨_, _⟩, ⟨_, _⟩, _⟩ := hL zt hzm
        rcases hsc with ⟨_, _, h⟩ | ⟨_, _, _, h⟩ <;> omega
      obtain ⟨y, hyl⟩ : ∃ y, l[s]? = some y := ⟨_, List.getElem?_eq_getElem (by omega)⟩
      have hQs := getD_map hlp hyl
      have hym := List.mem_of_getElem? hyl
      have hx : Ext w W := hw.ext.ext
      have hwk := hw.sub (HpSub.skipApp (HpSub.refl _))
      have hoff := fun b (hb : b ∈ (((b1, [.int .i64 ((ys.length : Nat) : Int)], some (3, 1, 1)) :: (b0, [.pointer (some ⟨bd, 0, none⟩)], some (126, 1, 1)) :: (gN, ((ys ++ l.drop ys.length).map pnCells).flatten, some (131, 3, cN)) :: (b5, [.slice (some ⟨g, 0, none⟩) m c], some (132, 1, 1)) :: (g, ((l).map pnCells).flatten, some (131, 3, c)) :: (b2, [.pointer (some ⟨bd, 0, none⟩)], some (126, 1, 1)) :: poolH Pq) : Hp).map Prod.fst) => hw.off hb
      have hM : ∀ b' ∈ (([(b, [.int .i64 (t : Int), .bool bk], some (153, 2, 1))] ++ ((b9, [.slice (some ⟨ga, 0, none⟩) ls.length ca], some (132, 1, 1)) :: (ga, ((ls).map pnCells).flatten, some (131, 3, ca)) :: poolH N) : Hp)).map Prod.fst, w.heap.size ≤ b' := fun b' hb' => by
        obtain ⟨q, hq, rfl⟩ := List.mem_map.1 hb'
        rcases (hw.blk q (List.mem_append_left _ hq)).1 with h1 | h1
        · exact h1
        · exact (List.not_mem_nil h1).elim
      have HFx := fun D1 w1 H1 (h1 : Has W ⟨_, D1⟩ H1 w1) => HF t zt bk w1 hz (ext_over hx h1.ext hM)
      have c2 : W.cell? ⟨b2, 0, none⟩ = some (.pointer (some ⟨bd, 0, none⟩)) := hwk.cellAt (by (repeat (first | exact P0 | apply P1))) rfl
      have c5 : W.cell? ⟨b5, 0, none⟩ = some (.slice (some ⟨g, 0, none⟩) m c) := hwk.cellAt (by (repeat (first | exact P0 | apply P1))) rfl
      have c6 : W.cell? ⟨g, 0 + s * 3, none⟩ = some (.int .i64 (plF y.p)) := hwk.cellAt (by (repeat (first | exact P0 | apply P1))) (pn_at hyl).1
      have c7 : W.cell? ⟨g, 0 + s * 3 + 1, none⟩ = some (.slice y.A y.n y.c) := hwk.cellAt (by (repeat (first | exact P0 | apply P1))) (pn_at hyl).2.1
      have c8 : W.cell? ⟨g, 0 + s * 3 + 2, none⟩ = some (.bool y.p.isNone) := hwk.cellAt (by (repeat (first | exact P0 | apply P1))) (pn_at hyl).2.2
      have m2 := hoff b2 (by simp)
      have m5 := hoff b5 (by simp)
      have m6 := hoff g (by simp)
      have HY := fun D1 w1 H1 (h1 : Has W ⟨(([(b, [.int .i64 (t : Int), .bool bk], some (153, 2, 1))] ++ ((b9, [.slice (some ⟨ga, 0, none⟩) ls.length ca], some (132, 1, 1)) :: (ga, ((ls).map pnCells).flatten, some (131, 3, ca)) :: poolH N) : Hp)).map Prod.fst, D1⟩ H1 w1) => ((hlP1 y hym).rd (pool_blk (hwk.sub (by repeat (first | exact HpSub.refl _ | apply HpSub.skipX))))).extM h1.ext (fun h0 b' o' hA => by
        rcases hlP1 y hym with ⟨_, _, h3, _⟩ | ⟨r, hr', _, h2, _⟩
        · omega
        · rw [h2] at hA
          cases hA
          exact hoff r.1 (List.mem_map.2 ⟨rbH r, by repeat (first | exact List.mem_map.2 ⟨r, hr', rfl⟩ | apply List.mem_cons_of_mem), rfl⟩))
      have hyn := (hlP1 y hym).len
      have hyk := hlen y hym
      have hyb : ∀ a, y.p = some a → 0 ≤ a.1 ∧ a.1 ≤ (k : Int) * 166666666667 := fun a ha => by
        have := hbd a (by rw [← hlp, ← ha]; exact List.mem_map.2 ⟨y, hym, rfl⟩)
        exact ⟨this.1, this.2.1⟩
      have hcu := hc zt hzm bk
      have hmv := mvP_snoc cst Q pre ⟨(t, bk, (s : Int)), zt, hz, hsc⟩ hz
      simp only [Int.toNat_natCast] at hmv
      rw [hQs] at hmv
      clear hyl hym
      obtain ⟨yp, yA, yn, yc⟩ := y
      simp only at hyn hyk hyb hmv c6 c7 c8
      simp only [List.cons_append, List.nil_append]
      by_cases h0 : 0 ≤ cst zt bk
      rotate_left
      · rw [if_neg h0] at hmv
        simp only [if_neg h0, decide_eq_false h0] at HFx
        repeat' (first | ((with_reducible apply oq_id); first | (apply oq_fn; exact rfl; first | exact trivial | (refine ⟨?_, ?_⟩ <;> omega) | (refine ⟨?_, ?_, ?_⟩ <;> omega) | omega | skip) | ((with_reducible apply oq_load); exact rfl; exact rfl) | ((with_reducible apply oq_loadAgg); exact rfl; exact rfl) | ((with_reducible apply oq_call (k := 81) (hc := Tryz.call81)); exact rfl; exact rfl; exact fun D w1 hw1 => HFx D w1 _ hw1)) | ((with_reducible apply tl_id); first | ((with_reducible apply tl_nil)) | ((with_reducible apply u_q); exact rfl; exact rfl; exact rfl; exact rfl) | ((with_reducible apply u_skip); exact rfl; exact rfl; exact rfl)) | ((with_reducible apply rd_id); first | (apply Rd.own; (repeat (first | exact P0 | apply P1)); exact rfl; done) | (apply Rd.old; (first | (with_reducible assumption) | exact c0 | exact c1 | exact c2 | exact c3 | exact c4 | exact c5 | exact c6 | exact c7 | exact c8 | exact d0 | exact d1 | exact d2 | exact d3 | exact d4 | exact d5); first | exact List.not_mem_nil | exact m0 | exact m1 | exact m2 | exact m3 | exact m4 | exact m5 | exact m6 | exact m7 | exact m8 | exact m9)) | ((with_reducible apply t_id); first | ((with_reducible apply t_seq)) | (apply t_region; kernel_rfl) | ((with_reducible apply t_condF); exact rfl) | ((with_reducible apply t_skip)) | ((with_reducible apply t_block))) | with_reducible apply q_thenN | with_reducible apply q_blockN | exact Rdn.zero | apply Rdn.succ)
        all_goals (refine ⟨(ga, ca, ls, N), ⟨by simp only; rw [hmv, List.append_nil]; exact hi1, by simp only [List.length_append, List.length_singleton]; omega, hi3⟩, ?_⟩ <;> (repeat' (first | exact HpSub.refl _ | (apply HpSub.consE; (repeat (first | exact P0 | apply P1)); first | exact rfl | (simp [pnCells]; done) | skip) | apply HpSub.skipX)))
      rw [if_pos h0] at hmv
      simp only [if_pos h0, decide_eq_true h0] at HFx
      rcases yp with _ | a
      · simp only at hmv
        repeat' (first | ((with_reducible apply oq_id); first | (focus ((with_reducible apply oq_indexAddrN); exact rfl; exact rfl; exact rfl; exact rfl; omega)) | (apply oq_fn; exact rfl; first | exact trivial | (refine ⟨?_, ?_⟩ <;> omega) | (refine ⟨?_, ?_, ?_⟩ <;> omega) | omega | skip) | ((with_reducible apply oq_load); exact rfl; exact rfl) | ((with_reducible apply oq_loadAgg); exact rfl; exact rfl) | ((with_reducible apply oq_call (k := 81) (hc := Tryz.call81)); exact rfl; exact rfl; exact fun D w1 hw1 => HFx D w1 _ hw1)) | ((with_reducible apply tl_id); first | ((with_reducible apply tl_nil)) | ((with_reducible apply u_q); exact rfl; exact rfl; exact rfl; exact rfl)) | ((with_reducible apply rd_id); first | (apply Rd.own; (repeat (first | exact P0 | apply P1)); exact rfl; done) | (apply Rd.old; (first | (with_reducible assumption) | exact c0 | exact c1 | exact c2 | exact c3 | exact c4 | exact c5 | exact c6 | exact c7 | exact c8 | exact d0 | exact d1 | exact d2 | exact d3 | exact d4 | exact d5); first | exact List.not_mem_nil | exact m0 | exact m1 | exact m2 | exact m3 | exact m4 | exact m5 | exact m6 | exact m7 | exact m8 | exact m9)) | ((with_reducible apply t_id); first | ((with_reducible apply t_seq)) | (apply t_region; kernel_rfl) | ((with_reducible apply t_condF); exact rfl) | ((with_reducible apply t_skip)) | ((with_reducible apply t_block))) | with_reducible apply q_thenN | with_reducible apply q_blockN | exact Rdn.zero | apply Rdn.succ)
        all_goals (refine ⟨(ga, ca, ls, N), ⟨by simp only; rw [hmv, List.append_nil]; exact hi1, by simp only [List.length_append, List.length_singleton]; omega, hi3⟩, ?_⟩ <;> (repeat' (first | exact HpSub.refl _ | (apply HpSub.consE; (repeat (first | exact P0 | apply P1)); first | exact rfl | (simp [pnCells]; done) | skip) | apply HpSub.skipX)))
      simp only [plF, plL, Option.isNone] at hyn hyk hmv c6 c7 c8 HY
      obtain ⟨hy0, hy1⟩ := hyb a rfl
      have hml : (ls.map pnCells).flatten.length = ls.length * 3 := pnF_len ls
      have hL40 := hlt'
      repeat' (first | ((with_reducible apply oq_id); first | (focus ((with_reducible apply (oq_addE (k := cst zt bk + a.1))); exact rfl; exact rfl; omega)) | (focus ((with_reducible apply oq_indexAddrN); exact rfl; exact rfl; exact rfl; exact rfl; omega)) | (apply oq_fn; exact rfl; first | exact trivial | (refine ⟨?_, ?_⟩ <;> omega) | (refine ⟨?_, ?_, ?_⟩ <;> omega) | omega | skip) | ((with_reducible apply oq_load); exact rfl; exact rfl) | ((with_reducible apply oq_loadAgg); exact rfl; exact rfl) | ((with_reducible apply oq_call (k := 81) (hc := Tryz.call81)); exact rfl; exact rfl; exact fun D w1 hw1 => HFx D w1 _ hw1) | ((with_reducible apply oq_build); exact rfl; exact rfl; exact rfl)) | ((with_reducible apply tl_id); first | ((with_reducible apply tl_nil)) | ((with_reducible apply u_q); exact rfl; exact rfl; exact rfl; exact rfl)) | ((with_reducible apply gx_id); first | ((with_reducible apply v_nil)) | ((with_reducible apply v_q); exact rfl; exact rfl; exact rfl)) | ((with_reducible apply os_id); first | ((with_reducible apply os_store); exact rfl; exact rfl; exact rfl; exact rfl) | ((with_reducible apply os_append (hk := app_ok132)); exact rfl; exact rfl; (repeat (first | exact P0 | apply P1)))) | ((with_reducible apply ox_id); first | ((with_reducible apply ox_buildSlice1); exact rfl; exact rfl; exact rfl; exact rfl; exact rfl; exact rfl; intro _) | ((with_reducible apply ox_buildSlice); exact rfl; exact rfl; exact rfl; exact rfl)) | ((with_reducible apply ai_id); first | ((with_reducible apply ai_n); exact rfl; exact rfl; exact rfl; exact rfl; (with_reducible apply os_callF (PV := OwnI ([((t : Nat) : Int)] ++ cI a.2) (1 + yn)) (k := 107) (hc := Tryz.call107)); exact rfl; exact rfl; exact fun D w1 hw1 => concat_calls _ _ _ yA 1 _ yn yc [((t : Nat) : Int)] (cI a.2) w1 (two_rows hw1 (by (repeat (first | exact P0 | apply P1)))) (in_rows1 rfl hw1 (by (repeat (first | exact P0 | apply P1)))) (HY D w1 _ hw1) (by omega) (by omega); rintro _ _ ⟨bN, cM', rfl, rfl⟩; simp only [List.cons_append, List.nil_append]) | ((with_reducible apply ai_q); exact rfl; exact rfl; exact rfl; exact rfl; exact rfl) | ((with_reducible apply ai_x); exact rfl; exact rfl; exact rfl; exact rfl; exact rfl) | ((with_reducible apply ai_s0); exact rfl; exact rfl; exact rfl; exact rfl) | ((with_reducible apply ai_s); exact rfl; exact rfl; exact rfl; exact rfl; exact rfl)) | ((with_reducible apply al_keep); focus (repeat (first | exact HpSub.refl _ | (apply HpSub.cons; (repeat (first | exact P0 | apply P1))) | apply HpSub.skipX | exact HpSub.nil))) | ((with_reducible apply rd_id); first | (apply Rd.own; (repeat (first | exact P0 | apply P1)); exact rfl; done) | (apply Rd.old; (first | (with_reducible assumption) | exact c0 | exact c1 | exact c2 | exact c3 | exact c4 | exact c5 | exact c6 | exact c7 | exact c8 | exact d0 | exact d1 | exact d2 | exact d3 | exact d4 | exact d5); first | exact List.not_mem_nil | exact m0 | exact m1 | exact m2 | exact m3 | exact m4 | exact m5 | exact m6 | exact m7 | exact m8 | exact m9)) | ((with_reducible apply t_id); first | (apply t_mix (id := 19) [0, 1, 2, 3, 4, 5, 6, 7, 8, 9, 11, 12, 13, 14, 15] 7 #[false, false, false, false, false, false, false, false, false, false, false, false, false, false, false, false, false, false, false, false, true, true]; kernel_rfl; kernel_rfl; exact rfl) | ((with_reducible apply t_seq)) | (apply t_region; kernel_rfl) | ((with_reducible apply t_condT); exact rfl) | ((with_reducible apply t_block))) | with_reducible apply q_thenN | with_reducible apply q_blockN | exact P0 | ((with_reducible apply P1)) | exact Rdn.zero | apply Rdn.succ | ((with_reducible apply Norm.nil); exact rfl) | ((with_reducible apply Norm.cons); exact rfl) | ((with_reducible apply al_id); first | (apply al_done; decide +kernel) | (apply al_one 10; decide +kernel) | (apply al_one 16; decide +kernel) | (apply al_one 17; decide +kernel) | (apply al_one 18; decide +kernel) | (apply al_one 19; decide +kernel) | (apply al_one 20; decide +kernel) | (apply al_one 21; decide +kernel)) | exact hml | exact Nat.le_of_ble_eq_true rfl | exact (rfl : (_ : Bool) = true) | omega | (intro _ _; with_reducible apply al_id) | (intro _; with_reducible apply al_id))
      rename_i gNw cNw
      refine ⟨(gNw, cNw, ls ++ [⟨some (cst zt bk + a.1, t :: a.2), some ⟨bN, 0, none⟩, 1 + yn, cM'⟩], (bN, t :: a.2, cM') :: N), ⟨?_, by simp only [List.length_append, List.length_singleton]; omega, fun q hq => ?_⟩, ?_⟩
      · simp only [List.map_append, List.map_cons, List.map_nil]
        rw [hmv, hi1]; rfl
      · rcases List.mem_append.1 hq with hq | hq
        · exact ⟨(hi3 q hq).1.cons, (hi3 q hq).2⟩
        · obtain rfl := List.mem_singleton.1 hq
          refine ⟨.inr ⟨(bN, t :: a.2, cM'), List.mem_cons_self .., rfl, rfl, ?_, rfl⟩, ?_⟩
          · simp only [List.length_cons]; omega
          · simp only [plL, List.length_cons]; omega
      · simp only [poolH_cons, rbH, List.map_append, List.flatten_append, List.length_append, List.length_singleton]
        (repeat' (first | exact HpSub.refl _ | (apply HpSub.consE; (repeat (first | exact P0 | apply P1)); first | exact rfl | (simp [pnCells]; done) | skip) | apply HpSub.skipX))
  case done =>
    rintro xs ⟨ga, ca, ls, N⟩ rfl ⟨hi1, hi2, hi3⟩
    simp only at hi1 hi2 hi3
    rcases ls with _ | ⟨x0, ls⟩
    · cases hi1
    simp only [List.map_cons, List.cons.injEq] at hi1
    obtain ⟨hi1, hi4⟩ := hi1
    unfold mvP at hi4
    rw [fns_arcs] at hi4
    simp only [List.length_cons] at hi2
    have hfl := fns_len L ((ys.length : Nat) : Int) L.length
    have hu : (lstN x0 ls).p = leastF (Q.getD ys.length none) (moreP Q (arcs cst L ys.length)) := by rw [lstN_p, hi1, hi4]
    have hum : lstN x0 ls ∈ x0 :: ls := by
      rcases lstN_mem ls x0 with h | h
      · rw [h]; exact List.mem_cons_self ..
      · exact List.mem_cons_of_mem _ h
    have HLs := fun D1 w1 H1 (h1 : Has w ⟨[], D1⟩ H1 w1) (H2 : HpSub H1 (poolH (N ++ Pq))) {H3 : Hp} (H4 : Pick H1 ga (((x0 :: ls).map pnCells).flatten) (some (131, 3, ca)) H3) => least_calls (some ⟨ga, 0, none⟩) ls.length ca x0 ls w1 (pn_rows rfl h1 H4) (by
      have := blk_cap (h1.blkP H4)
      rw [pnF_len, List.length_cons] at this
      omega) (by omega) (fun q hq => (hi3 q hq).1.pnR (pool_blk (h1.sub H2)) (by have := (hi3 q hq).2; omega))
    with_reducible apply q_blockN
    with_reducible apply q_thenN
    refine t_subW (HpSub.w (pool_mid [_, _] [_, _, _, _, _, _] N Pq)) ?_
    simp only [List.cons_append, List.nil_append]
    ((all_goals refine goR1 ?_); (all_goals constructor); (any_goals exact trivial); all_goals intros)
    refine ⟨(ys ++ [lstN x0 ls], N ++ Pq), ⟨by simp only [List.length_append, List.length_singleton]; omega, ?_, fun q hq => ?_, fun q hq => (hlP1 q hq).more⟩, by simp only [List.length_append, List.length_singleton]; omega, ?_, ?_⟩
    · simp only [List.map_append, List.map_cons, List.map_nil, List.length_append, List.length_singleton]
      rw [step_take hlC, hyp, hu]
    · rcases List.mem_append.1 hq with hq | hq
      · exact (hyP q hq).more
      · obtain rfl := List.mem_singleton.1 hq
        exact (hi3 _ hum).1
    · simp only [List.length_append, List.length_singleton]
      (repeat' (first | exact FrSub.nil | (apply FrSub.cons; exact rfl)))
    · simp only []
      (repeat' (first | exact HpSub.refl _ | (apply HpSub.consE; (repeat (first | exact P0 | apply P1)); first | exact rfl | (simp; done) | skip) | apply HpSub.skipX))
/-- The fuel, and is it open? -/
noncomputable def fuelV (v q1 q2 q3 : Int) (g0 g1 : Nat) (C : List Wn) (z : Lg) (bk : Bool) : Value := .tuple #[.int .i64 (if 0 ≤ legC v q1 q2 q3 g0 g1 C z bk then legC v q1 q2 q3 g0 g1 C z bk else 0), .bool (decide (0 ≤ legC v q1 q2 q3 g0 g1 C z bk))]
theorem fuel_calls (b bM : Nat) (AP AT : Option Addr) (m cM n cp : Nat) (v q1 q2 q3 q4 : Int) (g0 g1 : Nat) (E : List En) (C : List Wn) (L : List Lg) (j : Nat) (z : Lg) (bk : Bool) (w : World) (hd : DskR w b bM AP AT m cM n cp v q1 q2 q3 q4 g0 g1 E) (hE : E.map keyOf = deskE v q1 q2 q3 C L n) (hr : RdS w 5 AT n (L.map lgCells)) (hn : n ≤ 1000000) (hj : j < n) (hz : L[j]? = some z) (hL : LegOk m z) (hp : PaceOk v q1 q2 q3 q4 g0 g1) (hcw : ∀ x ∈ C, windB x.l = true) (hC : C.length ≤ 4) : Calls Tryz.prog 81 #[.pointer (some ⟨b, 0, none⟩), fk j bk] w fun e w' => e = .returned (fuelV v q1 q2 q3 g0 g1 C z bk) ∧ Ext w w' := by
  obtain ⟨_, _, _, kx, ky, kz, kh⟩ := hL
  obtain ⟨hR, hRl⟩ := legRz_ok (z := z) (bk := bk) hcw hp kh ⟨kx, ky, kz⟩
  have lb := lenV_bound kx ky
  have HL := fun w1 => length_calls z.a z.b z.x z.y z.h kx ky w1
  obtain ⟨_, _, _, _, _, kg⟩ := id hp
  obtain ⟨me, hme⟩ := Int.eq_ofNat_of_zero_le lb.1
  have hP : ∀ w1, Ext w w1 → _ := fun w1 (hx : Ext w w1) => part59_calls b bM AP AT m cM n cp v q1 q2 q3 q4 g0 g1 E C L j n z me bk w1 (hd.ext hx) hE hj hz hR (by omega) (by omega) (by omega)
  have HP := hP
  clear hP
  obtain ⟨bA, oA, z', rfl, _, hz', c0, c1, c2, c3, c4⟩ := lg_read hr hj
  rw [hz] at hz'
  obtain rfl := Option.some.inj hz'
  obtain ⟨d0, d1, d2, d3, d4, d5, c6, c7, c8, _, _, _, _, _⟩ := hd
  rw [hme] at HL
  unfold fuelV legC
  unfold partV at HP
  rw [hme, Int.toNat_natCast]
  generalize legRz v q1 q2 q3 z bk C = R at *
  unfold fk at *
  by_cases hR0 : R = []
  · simp only [if_pos hR0] at HP ⊢
    simp only [show ¬ (0 : Int) ≤ -1 by omega, if_false, decide_false]
    refine enterQ (c := cx w 29) Tryz.func81 rfl rfl rfl rfl ?_
    ((all_goals refine goS0 ?_); (all_goals constructor); (any_goals exact trivial); all_goals intros)
    all_goals rfl
  · simp only [if_neg hR0] at HP ⊢
    generalize hh : (aH (hullT me R).1 (hullT me R).2 g0 g1 8 : Nat) = t at *
    simp only [show (0 : Int) ≤ (t : Int) by omega, if_true, decide_true]
    refine enterQ (c := cx w 29) Tryz.func81 rfl rfl rfl rfl ?_
    ((all_goals refine goS0 ?_); (all_goals constructor); (any_goals exact trivial); all_goals intros)
    all_goals rfl
theorem plansD_calls (bd bM : Nat) (AP AT : Option Addr) (m cM n cp : Nat) (L : List Lg) (v q1 q2 q3 q4 : Int) (g0 g1 : Nat) (E : List En) (C : List Wn) (w : World) (hd : DskR w bd bM AP AT m cM n cp v q1 q2 q3 q4 g0 g1 E) (hE : E.map keyOf = deskE v q1 q2 q3 C L n) (hr : RdS w 5 AT n (L.map lgCells)) (hn : n ≤ 40) (hm : m ≤ 12) (hL : ∀ z ∈ L, LegOk m z) (hp : PaceOk v q1 q2 q3 q4 g0 g1) (hcw : ∀ x ∈ C, windB x.l = true) (hC : C.length ≤ 4) (to : Nat → Bool) (kf : Nat) (caps : List Value) (hcf : ∀ (a : Array Value) (w : World), (callFunc kf a).run Tryz.prog w = .ok (.enter kf a) w) (HT : ∀ (i : Nat) (w1 : World), i < m → Ext w w1 → Calls Tryz.prog kf ⟨.int .i64 (i : Nat) :: caps⟩ w1 fun e w' => e = .returned (.bool (to i)) ∧ Ext w1 w') : Calls Tryz.prog 68 #[.pointer (some ⟨bd, 0, none⟩), .func (.func kf) #[] ⟨caps⟩] w fun e w' => ∃ u H', e = .returned u ∧ PlansV (plansF (arcs (legC v q1 q2 q3 g0 g1 C) L) m to m) m u H' ∧ Has w ⟨[], []⟩ H' w' := by
  have hl : L.length = n := by simpa using hr.len
  exact plans_calls bd AP AT m cM n cp L w hd.c0 hd.c1 hr hn hm hL (legC v q1 q2 q3 g0 g1 C) (fun z hz bk => (legC_le hcw hp (hL z hz) bk).1) (fun j z bk w1 hz hx => fuel_calls bd bM AP AT m cM n cp v q1 q2 q3 q4 g0 g1 E C L j z bk w1 (hd.ext hx) hE (hr.ext hx) (by omega) (by have := (List.getElem?_eq_some_iff.1 hz).1; omega) hz (hL z (List.mem_of_getElem? hz)) hp hcw hC) to kf caps hcf HT
theorem alternates_calls (bd bM : Nat) (AP AT : Option Addr) (m cM n cp : Nat) (L : List Lg) (v q1 q2 q3 q4 : Int) (g0 g1 : Nat) (E : List En) (C : List Wn) (w : World) (hd : DskR w bd bM AP AT m cM n cp v q1 q2 q3 q4 g0 g1 E) (hE : E.map keyOf = deskE v q1 q2 q3 C L n) (hr : RdS w 5 AT n (L.map lgCells)) (hn : n ≤ 40) (hm : m ≤ 12) (hL : ∀ z ∈ L, LegOk m z) (hp : PaceOk v q1 q2 q3 q4 g0 g1) (hcw : ∀ x ∈ C, windB x.l = true) (hC : C.length ≤ 4) (T : List Bool) (hT : RdS w 1 AP m (T.map blCells)) : Calls Tryz.prog 74 #[.pointer (some ⟨bd, 0, none⟩)] w fun e w' => ∃ u H', e = .returned u ∧ PlansV (plansF (arcs (legC v q1 q2 q3 g0 g1 C) L) m (fun s => T.getD s false) m) m u H' ∧ Has w ⟨[], []⟩ H' w' := by
  have HP := fun (b : Nat) w1 (hx : Ext w w1) (hc : w1.cell? ⟨b, 0, none⟩ = some (.pointer (some ⟨bd, 0, none⟩))) => plansD_calls bd bM AP AT m cM n cp L v q1 q2 q3 q4 g0 g1 E C w1 (hd.ext hx) hE (hr.ext hx) hn hm hL hp hcw hC (fun s => T.getD s false) 114 [.pointer (some ⟨b, 0, none⟩)] Tryz.call114 (fun i w2 hi h2 => alt1_calls i b bd AP m cM T w2 hi (by omega) (h2.cell hc) ((hd.ext hx).ext h2).c0 ((hT.ext hx).ext h2))
  refine enterF (c := cx w 6) Tryz.func74 rfl rfl rfl rfl ?_
  repeat' (first | ((with_reducible apply oq_id); first | (apply oq_fn; exact rfl; first | exact trivial | (refine ⟨?_, ?_⟩ <;> omega) | (refine ⟨?_, ?_, ?_⟩ <;> omega) | omega | skip) | ((with_reducible apply oq_load); exact rfl; exact rfl)) | ((with_reducible apply tl_id); first | ((with_reducible apply tl_nil)) | ((with_reducible apply u_s); exact rfl; exact rfl; exact rfl; (with_reducible apply os_callF (PV := PlansV _ m) (k := 68) (hc := Tryz.call68)); exact rfl; exact rfl; exact fun D w1 hw1 => HP _ w1 hw1.ext.ext (hw1.cellAt (by (repeat (first | exact P0 | apply P1))) rfl); rintro _ _ ⟨l, P, g, c, hlp, hlP, rfl, rfl⟩; simp only [List.cons_append, List.nil_append]) | ((with_reducible apply u_q); exact rfl; exact rfl; exact rfl; exact rfl) | ((with_reducible apply u_s); exact rfl; exact rfl; exact rfl)) | ((with_reducible apply os_id); first | ((with_reducible apply os_x); exact rfl)) | ((with_reducible apply ox_id); first | ((with_reducible apply ox_box); exact rfl; exact rfl; intro _)) | ((with_reducible apply rd_id); first | (apply Rd.own; (repeat (first | exact P0 | apply P1)); exact rfl; done)) | ((with_reducible apply t_id); first | ((with_reducible apply t_seq)) | (apply t_region; kernel_rfl) | ((with_reducible apply t_ret))) | with_reducible apply q_thenN | ((with_reducible apply end_ret)) | exact rvs_nil | ((with_reducible apply rvs_cons)) | ((with_reducible apply rv_tmp); exact rfl))
  all_goals (refine ⟨_, ⟨l, P, g, c, hlp, hlP, rfl, rfl⟩, ?_⟩; (try simp only [List.append_nil]); first | exact HpSub.refl _ | exact HpSub.consE .head rfl HpSub.appLeft | exact HpSub.front HpSub.appLeft | (repeat' (first | done)))
theorem pick_app {A H H' : Hp} {b : Nat} {C : List Value} {g : Tg} (p : Pick H b C g H') : Pick (A ++ H) b C g (A ++ H') := by
  induction A with
  | nil => exact p
  | cons x A ih => exact ih.tail
theorem need_bound {v q1 q2 q3 q4 : Int} {g0 g1 : Nat} {C : List Wn} {L : List Lg} {m : Nat} {to : Nat → Bool} {i : Nat} {a : Int × List Nat} (hp : PaceOk v q1 q2 q3 q4 g0 g1) (hcw : ∀ x ∈ C, windB x.l = true) (hL : ∀ z ∈ L, LegOk m z) (hm : m ≤ 12) (h : (plansF (arcs (legC v q1 q2 q3 g0 g1 C) L) m to m).getD i none = some a) : 0 ≤ a.1 ∧ a.1 ≤ 3000000000000 ∧ a.2.length ≤ 12 := by
  have hi : some a ∈ plansF (arcs (legC v q1 q2 q3 g0 g1 C) L) m to m := by
    rw [List.getD_eq_getElem?_getD] at h
    cases hx : (plansF (arcs (legC v q1 q2 q3 g0 g1 C) L) m to m)[i]? with
    | none => rw [hx] at h; cases h
    | some x =>
      rw [hx] at h
      obtain rfl : x = some a := h
      exact List.mem_of_getElem? hx
  have := plans_bd (A := (arcs (legC v q1 q2 q3 g0 g1 C) L)) (n := m) (to := to) (by
    intro i x hx
    obtain ⟨_, z, hz, h0, h⟩ := arcT_some (arcs_mem hx)
    refine ⟨h0, ?_⟩
    have hm := List.mem_of_getElem? hz
    rcases h with ⟨_, e⟩ | ⟨_, e⟩ <;> rw [e] <;> exact (legC_le hcw hp (hL z hm) _).1) m a hi
  have h2 : (m : Int) * 166666666667 ≤ 12 * 166666666667 := Int.mul_le_mul_of_nonneg_right (by omega) (by omega)
  omega
end Go.Proofs.YtcjkndjjbjoehaaGreat

