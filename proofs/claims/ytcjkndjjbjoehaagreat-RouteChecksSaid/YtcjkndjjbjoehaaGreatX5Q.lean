/- A part of the proof: rules for walks, and contracts of functions (17). -/
import Derived.Test.YtcjkndjjbjoehaaGreatX5A
import Derived.Test.YtcjkndjjbjoehaaGreatX5M
import Derived.Test.YtcjkndjjbjoehaaGreatX5N
import Derived.Test.YtcjkndjjbjoehaaGreatX5P
set_option linter.unusedVariables false
set_option linter.unusedSimpArgs false
set_option maxRecDepth 100000
set_option maxHeartbeats 2000000
namespace Go.Proofs.YtcjkndjjbjoehaaGreat
theorem goQ0 {G A1 A2 A3 A4 A5 A6 A7 A8 A9 A10 A11 A12 A13 A14 A15 A16 : Prop} (p : GoP A1 A2 A3 A4 A5 A6 A7 A8 A9 A10 A11 A12 A13 A14 A15 A16) (h : GoL A1 → GoL A2 → GoL A3 → GoL A4 → GoL A5 → GoL A6 → GoL A7 → GoL A8 → GoL A9 → GoL A10 → GoL A11 → GoL A12 → GoL A13 → GoL A14 → GoL A15 → GoL A16 → GoM → G := by intro m1 m2 m3 m4 m5 m6 m7 m8 m9 m10 m11 m12 m13 m14 m15 m16 _; (repeat' (first | ((with_reducible apply oq_id); first | ((with_reducible apply oq_call (k := 77) (hc := Tryz.call77)); exact rfl; exact rfl; exact fun D w1 hw1 => HO w1 hw1.ext.ext) | ((with_reducible apply ob_id); first | (focus ((with_reducible apply (oq_subE (k := ((k : Nat) : Int)))); exact rfl; exact rfl; omega)) | ((with_reducible apply oq_lssT); exact rfl; exact rfl; omega) | ((with_reducible apply oq_lssF); exact rfl; exact rfl; omega) | ((with_reducible apply oq_geqT); exact rfl; exact rfl; omega) | ((with_reducible apply oq_geqF); exact rfl; exact rfl; omega) | ((with_reducible apply oq_eqlT); exact rfl; exact rfl; omega) | ((with_reducible apply oq_eqlF); exact rfl; exact rfl; omega) | ((with_reducible apply oq_gtrT); exact rfl; exact rfl; omega) | ((with_reducible apply oq_gtrF); exact rfl; exact rfl; omega)) | (focus ((with_reducible apply oq_indexAddrN); exact rfl; exact rfl; exact rfl; exact rfl; omega)) | (apply oq_fn; exact rfl; first | exact trivial | (refine ⟨?_, ?_⟩ <;> omega) | (refine ⟨?_, ?_, ?_⟩ <;> omega) | omega | skip) | ((with_reducible apply oq_load); exact rfl; exact rfl) | ((with_reducible apply oq_loadAgg); exact rfl; exact rfl)) | ((with_reducible apply tl_id); first | ((with_reducible apply tl_nil)) | ((with_reducible apply u_q); exact rfl; exact rfl; exact rfl; exact rfl) | ((with_reducible apply u_s); exact rfl; exact rfl; exact rfl)) | ((with_reducible apply gx_id); first | ((with_reducible apply v_nil)) | ((with_reducible apply v_q); exact rfl; exact rfl; exact rfl) | ((with_reducible apply v_skip); exact rfl; exact rfl; exact rfl)) | ((with_reducible apply os_id); first | ((with_reducible apply os_x); exact rfl) | ((with_reducible apply os_append (hk := app_ok31)); exact rfl; exact rfl; (repeat (first | exact P0 | apply P1))) | ((with_reducible apply os_appendNil (hk := app_ok31)); exact rfl; exact rfl)) | ((with_reducible apply ox_id); first | ((with_reducible apply ox_buildSlice1); exact rfl; exact rfl; exact rfl; exact rfl; exact rfl; exact rfl; intro _)) | ((with_reducible apply rd_id); first | (apply rd_at hr1; (repeat (first | exact P0 | apply P1)); done) | (apply rd_at hq1; (repeat (first | exact P0 | apply P1)); done) | (exact rd_lr hr2 hr3 (by (repeat (first | exact HpSub.appLeft | exact HpSub.refl _ | apply HpSub.skipX)))) | (exact rd_lr hq2 hq3 (by (repeat (first | exact HpSub.appLeft | exact HpSub.refl _ | apply HpSub.skipX)))) | (apply rd_at hv1; (repeat (first | exact P0 | apply P1)); done) | (apply rd_at hu1; (repeat (first | exact P0 | apply P1)); done) | (exact rd_lr hv2 hv3 (by (repeat (first | exact HpSub.appLeft | exact HpSub.refl _ | apply HpSub.skipX)))) | (exact rd_lr hu2 hu3 (by (repeat (first | exact HpSub.appLeft | exact HpSub.refl _ | apply HpSub.skipX)))) | (apply Rd.own; (repeat (first | exact P0 | apply P1)); exact rfl; done) | (apply Rd.old; (first | (with_reducible assumption) | exact c0 | exact c1 | exact c2 | exact c3 | exact c4 | exact c5 | exact c6 | exact c7 | exact c8 | exact d0 | exact d1 | exact d2 | exact d3 | exact d4 | exact d5); first | exact List.not_mem_nil | exact m0 | exact m1 | exact m2 | exact m3 | exact m4 | exact m5 | exact m6 | exact m7 | exact m8 | exact m9)) | ((with_reducible apply t_id); first | ((with_reducible apply t_seq)) | (apply t_region; kernel_rfl) | (apply t_drawn; kernel_rfl; decide +kernel; try simp only [List.append_eq, List.cons_append, List.nil_append]) | ((with_reducible apply t_condT); exact rfl) | ((with_reducible apply t_condF); exact rfl) | ((with_reducible apply t_ret)) | ((with_reducible apply t_skip)) | ((with_reducible apply t_exit)) | ((with_reducible apply t_block))) | with_reducible apply q_thenN | with_reducible apply q_thenR | with_reducible apply q_blockN | with_reducible apply q_thenE | ((with_reducible apply q_blockE); exact rfl) | ((with_reducible apply q_blockO); exact rfl) | exact Rdn.zero | apply Rdn.succ | ((with_reducible apply end_ret)) | exact rvs_nil | ((with_reducible apply rvs_cons)) | ((with_reducible apply rv_tmp); exact rfl) | exact cN_len _ | exact Nat.le_of_ble_eq_true rfl | exact (rfl : (_ : Bool) = true) | omega | (intro _ _; with_reducible apply tl_id))); (try focus (repeat (rename_i x; first | exact goD x m1.p | revert x))); (try focus (repeat (rename_i x; first | exact goD x m2.p | revert x))); (try focus (repeat (rename_i x; first | exact goD x m3.p | revert x))); (try focus (repeat (rename_i x; first | exact goD x m4.p | revert x))); (try focus (repeat (rename_i x; first | exact goD x m5.p | revert x))); (try focus (repeat (rename_i x; first | exact goD x m6.p | revert x))); (try focus (repeat (rename_i x; first | exact goD x m7.p | revert x))); (try focus (repeat (rename_i x; first | exact goD x m8.p | revert x))); (try focus (repeat (rename_i x; first | exact goD x m9.p | revert x))); (try focus (repeat (rename_i x; first | exact goD x m10.p | revert x))); (try focus (repeat (rename_i x; first | exact goD x m11.p | revert x))); (try focus (repeat (rename_i x; first | exact goD x m12.p | revert x))); (try focus (repeat (rename_i x; first | exact goD x m13.p | revert x))); (try focus (repeat (rename_i x; first | exact goD x m14.p | revert x))); (try focus (repeat (rename_i x; first | exact goD x m15.p | revert x))); (try focus (repeat (rename_i x; first | exact goD x m16.p | revert x)))) (e : GoTs A1 A2 A3 A4 A5 A6 A7 A8 A9 A10 A11 A12 A13 A14 A15 A16 := by constructor <;> first | (with_reducible exact GoT.t) | exact GoT.u) : G := p.run h
theorem goQ1 {G A1 A2 A3 A4 A5 A6 A7 A8 A9 A10 A11 A12 A13 A14 A15 A16 : Prop} (p : GoP A1 A2 A3 A4 A5 A6 A7 A8 A9 A10 A11 A12 A13 A14 A15 A16) (h : GoL A1 → GoL A2 → GoL A3 → GoL A4 → GoL A5 → GoL A6 → GoL A7 → GoL A8 → GoL A9 → GoL A10 → GoL A11 → GoL A12 → GoL A13 → GoL A14 → GoL A15 → GoL A16 → GoM → G := by intro m1 m2 m3 m4 m5 m6 m7 m8 m9 m10 m11 m12 m13 m14 m15 m16 _; (repeat' (first | exact FrSub.nil | (apply FrSub.cons; exact rfl) | (apply FrSub.consE; exact rfl; first | rfl | (simp only [List.length_append, List.length_singleton]; done) | (rw [List.length_append]; rfl) | (simp [sN]; done) | skip) | exact HpSub.refl _ | (apply HpSub.consE; (repeat (first | exact P0 | apply P1)); first | exact rfl | exact cN_snoc _ _ | (simp; done)) | apply HpSub.skipX | exact HpSub.nil)); (try focus (repeat (rename_i x; first | exact goD x m1.p | revert x))); (try focus (repeat (rename_i x; first | exact goD x m2.p | revert x))); (try focus (repeat (rename_i x; first | exact goD x m3.p | revert x))); (try focus (repeat (rename_i x; first | exact goD x m4.p | revert x))); (try focus (repeat (rename_i x; first | exact goD x m5.p | revert x))); (try focus (repeat (rename_i x; first | exact goD x m6.p | revert x))); (try focus (repeat (rename_i x; first | exact goD x m7.p | revert x))); (try focus (repeat (rename_i x; first | exact goD x m8.p | revert x))); (try focus (repeat (rename_i x; first | exact goD x m9.p | revert x))); (try focus (repeat (rename_i x; first | exact goD x m10.p | revert x))); (try focus (repeat (rename_i x; first | exact goD x m11.p | revert x))); (try focus (repeat (rename_i x; first | exact goD x m12.p | revert x))); (try focus (repeat (rename_i x; first | exact goD x m13.p | revert x))); (try focus (repeat (rename_i x; first | exact goD x m14.p | revert x))); (try focus (repeat (rename_i x; first | exact goD x m15.p | revert x))); (try focus (repeat (rename_i x; first | exact goD x m16.p | revert x)))) (e : GoTs A1 A2 A3 A4 A5 A6 A7 A8 A9 A10 A11 A12 A13 A14 A15 A16 := by constructor <;> first | (with_reducible exact GoT.t) | exact GoT.u) : G := p.run h
open Go.RowKit
attribute [local irreducible] OQ OS OX Rd T TL GX GL AL AI RV wpG SAny Calls
theorem mem_lrB {n : Nat} : ∀ {R : List Lr} (a : Hp) {x : Nat × List Value × Tg}, (x ∈ a ∨ ∃ r ∈ R, x = (r.1, r.2.map iv, some (3, 1, n))) → x ∈ R.foldl (lrK n) a
  | [], a, x, h => by
    rcases h with h | ⟨r, hr, _⟩
    · exact h
    · cases hr
  | q :: R, a, x, h => by
    refine mem_lrB (lrK n a q) ?_
    rcases h with h | ⟨r, hr, e⟩
    · exact .inl (List.mem_cons_of_mem _ h)
    · rcases List.mem_cons.1 hr with rfl | hr
      · exact .inl (by rw [e]; exact List.mem_cons_self ..)
      · exact .inr ⟨r, hr, e⟩
theorem hp_nil (X : Hp) : HpSub X (List.append X []) := by rw [show List.append X [] = X from List.append_nil X]; exact HpSub.refl _
theorem pick_of {H : Hp} {b : Nat} {C : List Value} {g : Tg} (hm : (b, C, g) ∈ H) : ∃ H', Pick H b C g H' := by
  induction H with
  | nil => cases hm
  | cons x H ih =>
    rcases List.mem_cons.1 hm with rfl | hm
    · exact ⟨H, Pick.head _ _ _ _⟩
    · obtain ⟨H', hp⟩ := ih hm
      exact ⟨x :: H', hp.tail⟩
theorem rd_lr {c : Cx} {H : Hp} {n : Nat} {R : List Lr} {r : Lr} {j : Nat} {x : Int} (hr : r ∈ R) (hx : r.2[j]? = some x) (hs : HpSub H (lrB n R)) : Rd c H ⟨r.1, 0 + j * 1, none⟩ (.int .i64 x) := by
  obtain ⟨K, hK⟩ := hs.per
  have hm : (r.1, r.2.map iv, some (3, 1, n)) ∈ H := hK.mem_iff.2 (List.mem_append_left _ (mem_lrB [] (.inr ⟨r, hr, rfl⟩)))
  obtain ⟨H', hp⟩ := pick_of hm
  exact Rd.own hp (by rw [Nat.zero_add, Nat.mul_one, List.getElem?_map, hx]; rfl)
theorem rd_at {c : Cx} {H H' : Hp} {g m i : Nat} {R : List Lr} {r : Lr} {tg : Tg} (h : R[i]? = some r) (p : Pick H g (R.map (lrS m)) tg H') : Rd c H ⟨g, 0 + i * 1, none⟩ (lrS m r) := Rd.own p (by rw [Nat.zero_add, Nat.mul_one, List.getElem?_map, h]; rfl)
theorem lr_of {m : Nat} {R : List Lr} {f : Nat → List Int} (h : R.map Prod.snd = (List.range m).map f) {k : Nat} (hk : k < m) : ∃ r, R[k]? = some r ∧ r ∈ R ∧ r.2 = f k := by
  have h1 := congrArg (fun l => l[k]?) h
  simp only [List.getElem?_map] at h1
  rw [List.getElem?_range hk] at h1
  simp only [Option.map_some] at h1
  obtain ⟨r, h2, h3⟩ := Option.map_eq_some_iff.1 h1
  exact ⟨r, h2, List.mem_of_getElem? h2, h3⟩
theorem next_found {α : Type} {F : Nat → Option α} {pr : α → Bool} {n t : Nat} {x : α} (h0 : ((List.range t).filterMap F).find? pr = none) (hF : F t = some x) (hp : pr x = true) (ht : t < n) : ((List.range n).filterMap F).find? pr = some x := by
  obtain ⟨d, rfl⟩ := Nat.exists_eq_add_of_lt ht
  rw [show t + d + 1 = t + 1 + d by omega, List.range_add, List.filterMap_append, List.find?_append, List.range_succ, List.filterMap_append, List.find?_append, h0]
  simp [hF, hp]
theorem next_more {α : Type} {F : Nat → Option α} {pr : α → Bool} {t : Nat} (h0 : ((List.range t).filterMap F).find? pr = none) (h : ∀ x, F t = some x → pr x = false) : ((List.range (t + 1)).filterMap F).find? pr = none := by
  rw [List.range_succ, List.filterMap_append, List.find?_append, h0]
  cases hF : F t with
  | none => simp [hF]
  | some x => simp [hF, h x hF]
/-- A route in own memory, or nil. -/
def sN (l : List Nat) : Option (Nat × Nat) → Value
  | none => .slice none 0 0
  | some (b, cap) => .slice (some ⟨b, 0, none⟩) l.length cap
def hN (l : List Nat) : Option (Nat × Nat) → Hp
  | none => []
  | some (b, cap) => [(b, (cI l).map iv, some (3, 1, cap))]
theorem sN_snoc (l : List Nat) (t b cap : Nat) : sN (l ++ [t]) (some (b, cap)) = .slice (some ⟨b, 0, none⟩) (l.length + 1) cap := by simp [sN]
theorem hN_snoc (l : List Nat) (t b cap : Nat) : hN (l ++ [t]) (some (b, cap)) = [(b, (cI l).map iv ++ [.int .i64 (t : Nat)], some (3, 1, cap))] := by simp [hN, cI, iv]
theorem cN_snoc (l : List Nat) (t : Nat) : (cI l).map iv ++ [Value.int .i64 ((t : Nat) : Int)] = (cI (l ++ [t])).map iv := by
  unfold cI
  rw [List.map_append, List.map_append]
  rfl
theorem cN_len (l : List Nat) : ((cI l).map iv).length = l.length * 1 := by simp [cI]
def RouV (p : Pl) (u : Value) (H : Hp) : Prop := ∃ o, (o = none → plL p = []) ∧ u = .tuple #[sN (plL p) o, .int .i64 (match p with | none => -1 | some a => a.1)] ∧ H = hN (plL p) o
def bestI : Option Nat → Int
  | none => -1
  | some b => (b : Int)
theorem routed_calls (AM A : Option Addr) (m cM n cp : Nat) (L : List Lg) (w : World) (hr : RdS w 5 A n (L.map lgCells)) (hn : n ≤ 1000000) (hm0 : 1 ≤ m) (hm : m ≤ 1000) (AK : Option Addr) (cK : Nat) (K : List Cw) (hk0 : CoR w AK n K) (AT : Option Addr) (cT : Nat) (T : List Bool) (hT : RdS w 1 AT m (T.map blCells)) (hL : ∀ z ∈ L, LegOk m z) (cst : Lg → Bool → Int) (hK : K.map (fun r => (r.x, r.y)) = L.map (fun z => (cst z false, cst z true))) (hc : ∀ z ∈ L, ∀ bk, cst z bk ≤ 166666666667) (hc1 : ∀ z ∈ L, ∀ bk, -1 ≤ cst z bk) (fr : Nat) (hfr : fr < m) : Calls Tryz.prog 72 #[.agg #[.slice AM m cM, .slice A n cp], .slice AK n cK, .int .i64 (fr : Nat), .slice AT m cT] w fun e w' => ∃ u H', e = .returned u ∧ RouV (routedF (arcs cst L) (fun k s => (leadF (arcs cst L) m (fun j => T.getD j false) k).getD s (-1)) m fr) u H' ∧ Has w ⟨[], []⟩ H' w' := by
  have hl : L.length = n := by simpa using hr.len
  refine enterF (c := cx w 134) Tryz.func72 rfl rfl rfl rfl ?_
  repeat' (first | ((with_reducible apply oq_id); first | (apply oq_fn; exact rfl; first | exact trivial | (refine ⟨?_, ?_⟩ <;> omega) | (refine ⟨?_, ?_, ?_⟩ <;> omega) | omega | skip) | ((with_reducible apply oq_loadAgg); exact rfl; exact rfl)) | ((with_reducible apply tl_id); first | ((with_reducible apply tl_nil)) | ((with_reducible apply u_s); exact rfl; exact rfl; exact rfl; (with_reducible apply os_callS (PV := LeadV m ((List.range m).map (leadF (arcs cst L) m (fun j => T.getD j false)))) (k := 113) (hc := Tryz.call113)); exact rfl; exact rfl; exact fun D w1 hw1 => lead_calls AM A m cM n cp L w1 (hr.ext hw1.ext.ext) hn hm0 hm AK cK K (hk0.ext hw1.ext.ext) AT cT T (hT.ext hw1.ext.ext) hL cst hK hc hc1; rintro _ _ ⟨R, bo, co, hR, rfl, rfl⟩; simp only [List.cons_append, List.nil_append]) | ((with_reducible apply u_q); exact rfl; exact rfl; exact rfl; exact rfl) | ((with_reducible apply u_s); exact rfl; exact rfl; exact rfl)) | ((with_reducible apply os_id); first | ((with_reducible apply os_x); exact rfl)) | ((with_reducible apply ox_id); first | ((with_reducible apply ox_boxAgg); exact rfl; intro _)) | ((with_reducible apply rd_id); first | (apply Rd.own; (repeat (first | exact P0 | apply P1)); exact rfl; done)) | ((with_reducible apply t_id); first | ((with_reducible apply t_seq)) | (apply t_region; kernel_rfl) | ((with_reducible apply t_block))) | with_reducible apply q_thenN | exact Rdn.zero | apply Rdn.succ)
  rename_i b4
  have hRl : R.length = m := by simpa using congrArg List.length hR
  obtain ⟨G, hG⟩ : ∃ G : Nat → Nat → Int, (fun k s => (leadF (arcs cst L) m (fun j => T.getD j false) k).getD s (-1)) = G := ⟨_, rfl⟩
  have hGr : ∀ k s, k < m → s < m → ∃ r, R[k]? = some r ∧ r ∈ R ∧ r.2[s]? = some (G k s) := fun k s hk hs => by
    obtain ⟨r, h1, h2, h3⟩ := lr_of hR hk
    refine ⟨r, h1, h2, ?_⟩
    rw [h3, lead_get hs, ← hG]
  obtain ⟨f, hf⟩ : ∃ f : Nat → Int, (fun k => G k fr) = f := ⟨_, rfl⟩
  rw [hG]
  have hGb : ∀ k s, k < m → s < m → G k s ≤ (k : Int) * 166666666667 := fun k s hk hs => by
    have h := lead_get (cst := cst) (L := L) (m := m) (to := fun j => T.getD j false) (k := k) hs
    have := lead_le (to := fun j => T.getD j false) (m := m) hc k _ (List.mem_of_getElem? h)
    rw [← hG]; exact this
  have hbs := fun k => bestF_spec f k
  apply t_loopK (ι := Nat) [1, 2, 4, 8, 9, 10] (fun k => [(12, .int .i64 ((k : Nat) : Int)), (11, .int .i64 (bestI (bestF f k)))]) (fun _ => (b4, [.slice AM m cM, .slice A n cp], some (25, 2, 1)) :: (bo, R.map (lrS m), some (31, 1, co)) :: lrB m R) (fun k => k ≤ m) (fun k => m - k) (0)
  (repeat (first | exact KeepF.nil | (apply KeepF.cons; exact rfl) | apply KeepF.skip))
  (repeat (first | exact FrSub.nil | (apply FrSub.cons; exact rfl)))
  (repeat (first | exact HpSub.refl _ | (apply HpSub.consE; (repeat (first | exact P0 | apply P1)); exact rfl) | exact HpSub.nil))
  · exact hp_nil _
  · exact Nat.zero_le _
  rintro k hk
  try simp only [List.cons_append, List.nil_append]
  have hlR : R.length = m := hRl
  by_cases hlt : k < m
  · obtain ⟨r, hr1, hr2, hr3⟩ := hGr k fr hlt hfr
    have hfk : f k = G k fr := by rw [← hf]
    have hst : bestF f (k + 1) = match bestF f k with | none => if 0 ≤ f k then some k else none | some b => if 0 ≤ f k ∧ f k < f b then some k else some b := rfl
    rw [hfk] at hst
    cases hb : bestF f k with
    | none =>
      rw [hb] at hst
      simp only at hst
      by_cases h0 : 0 ≤ G k fr
      · rw [if_pos h0] at hst
        simp only [bestI]
        ((all_goals refine goQ0 ?_); (all_goals constructor); (any_goals exact trivial); all_goals intros)
        all_goals (refine ⟨k + 1, by omega, by omega, ?_, ?_⟩ <;> (try simp only [hst, bestI]) <;> (((all_goals refine goQ1 ?_); (all_goals constructor); (any_goals exact trivial); all_goals intros)))
      · rw [if_neg h0] at hst
        simp only [bestI]
        ((all_goals refine goQ0 ?_); (all_goals constructor); (any_goals exact trivial); all_goals intros)
        all_goals (refine ⟨k + 1, by omega, by omega, ?_, ?_⟩ <;> (try simp only [hst, bestI]) <;> (((all_goals refine goQ1 ?_); (all_goals constructor); (any_goals exact trivial); all_goals intros)))
    | some b =>
      rw [hb] at hst
      simp only at hst
      obtain ⟨hbk, hb0, _⟩ := (hbs k).2 b hb
      obtain ⟨r', hq1, hq2, hq3⟩ := hGr b fr (by omega) hfr
      rw [show f b = G b fr by rw [← hf]] at hst hb0
      simp only [bestI]
      by_cases h0 : 0 ≤ G k fr
      · by_cases h1 : G k fr < G b fr
        · rw [if_pos ⟨h0, h1⟩] at hst
          ((all_goals refine goQ0 ?_); (all_goals constructor); (any_goals exact trivial); all_goals intros)
          all_goals (refine ⟨k + 1, by omega, by omega, ?_, ?_⟩ <;> (try simp only [hst, bestI]) <;> (((all_goals refine goQ1 ?_); (all_goals constructor); (any_goals exact trivial); all_goals intros)))
        · rw [if_neg (fun e => h1 e.2)] at hst
          ((all_goals refine goQ0 ?_); (all_goals constructor); (any_goals exact trivial); all_goals intros)
          all_goals (refine ⟨k + 1, by omega, by omega, ?_, ?_⟩ <;> (try simp only [hst, bestI]) <;> (((all_goals refine goQ1 ?_); (all_goals constructor); (any_goals exact trivial); all_goals intros)))
      · rw [if_neg (fun e => h0 e.1)] at hst
        ((all_goals refine goQ0 ?_); (all_goals constructor); (any_goals exact trivial); all_goals intros)
        all_goals (refine ⟨k + 1, by omega, by omega, ?_, ?_⟩ <;> (try simp only [hst, bestI]) <;> (((all_goals refine goQ1 ?_); (all_goals constructor); (any_goals exact trivial); all_goals intros)))
  obtain rfl : m = k := by omega
  have hrt : routedF (arcs cst L) G m fr = match bestF f m with | none => none | some b => some (G b fr, wayR (arcs cst L) G b fr) := by rw [← hf]; rfl
  rw [hrt]
  cases hb : bestF f m with
  | none =>
    simp only [bestI]
    ((all_goals refine goQ0 ?_); (all_goals constructor); (any_goals exact trivial); all_goals intros)
    all_goals (exact ⟨_, ⟨none, fun _ => rfl, rfl, rfl⟩, HpSub.nil⟩)
  | some bst =>
    obtain ⟨hbm, hb0, _⟩ := (hbs m).2 bst hb
    simp only [bestI]
    ((all_goals refine goQ0 ?_); (all_goals constructor); (any_goals exact trivial); all_goals intros)
    apply t_loopK (ι := List Nat × Nat × Nat × Option (Nat × Nat)) [1, 2, 4, 8, 9, 10, 11, 126, 127, 128, 129, 130, 131, 132, 133] (fun z => [(13, sN z.1 z.2.2.2), (14, .int .i64 ((z.2.1 : Nat) : Int)), (15, .int .i64 ((z.2.2.1 : Nat) : Int))]) (fun z => hN z.1 z.2.2.2 ++ (b4, [.slice AM m cM, .slice A n cp], some (25, 2, 1)) :: (bo, R.map (lrS m), some (31, 1, co)) :: lrB m R) (fun z => z.2.2.1 ≤ bst ∧ z.2.1 < m ∧ wayR (arcs cst L) G bst fr = z.1 ++ wayR (arcs cst L) G z.2.2.1 z.2.1 ∧ (z.2.2.2 = none → z.1 = []) ∧ z.1.length + z.2.2.1 ≤ bst) (fun z => z.2.2.1) (([], fr, bst, none))
    (repeat (first | exact KeepF.nil | (apply KeepF.cons; exact rfl) | apply KeepF.skip))
    (repeat (first | exact FrSub.nil | (apply FrSub.cons; exact rfl)))
    (repeat (first | exact HpSub.refl _ | (apply HpSub.consE; (repeat (first | exact P0 | apply P1)); exact rfl) | exact HpSub.nil))
    · exact ⟨Nat.le_refl _, hfr, rfl, fun _ => rfl, by simp⟩
    rintro ⟨acc, at_, k, o⟩ ⟨hkb, hat, hway, ho, hlen⟩
    simp only at hkb hat hway ho hlen
    try simp only [List.cons_append, List.nil_append]
    cases k with
    | zero =>
      have hw : wayR (arcs cst L) G bst fr = acc := by rw [hway]; show acc ++ [] = acc; simp
      obtain ⟨r, hr1, hr2, hr3⟩ := hGr bst fr hbm hfr
      rcases o with _ | ⟨br, cr⟩
      · obtain rfl := ho rfl
        simp only [hN, sN, List.nil_append, List.cons_append]
        ((all_goals refine goQ0 ?_); (all_goals constructor); (any_goals exact trivial); all_goals intros)
        all_goals (refine ⟨_, ⟨none, fun _ => hw, ?_, rfl⟩, HpSub.nil⟩; rfl)
      · simp only [hN, sN, List.nil_append, List.cons_append]
        ((all_goals refine goQ0 ?_); (all_goals constructor); (any_goals exact trivial); all_goals intros)
        all_goals (refine ⟨_, ⟨some (br, cr), fun h => (by cases h), ?_, rfl⟩, ?_⟩ <;> simp only [plL, hw, sN, hN] <;> (first | rfl | (((all_goals refine goQ1 ?_); (all_goals constructor); (any_goals exact trivial); all_goals intros))))
    | succ k =>
      have hkm : k + 1 < m := by omega
      obtain ⟨rv, hv1, hv2, hv3⟩ := hGr (k + 1) at_ hkm hat
      have hnf : nextF (arcs cst L) G k at_ = ((List.range n).filterMap (arcT cst L at_)).find? (fun x => decide (0 ≤ G k x.2.1 ∧ x.2.2 + G k x.2.1 = G (k + 1) at_)) := by unfold nextF arcs; rw [hl]
      have hws : wayR (arcs cst L) G (k + 1) at_ = match nextF (arcs cst L) G k at_ with | some x => x.1 :: wayR (arcs cst L) G k x.2.1 | none => wayR (arcs cst L) G k at_ := rfl
      rw [hnf] at hws
      rcases o with _ | ⟨br, cr⟩
      · obtain rfl := ho rfl
        simp only [hN, sN, List.nil_append, List.cons_append]
        ((all_goals refine goQ0 ?_); (all_goals constructor); (any_goals exact trivial); all_goals intros)
        apply t_loopK (ι := Nat) [1, 2, 4, 8, 9, 10, 11, 13, 14, 15] (fun t => [(16, .int .i64 ((t : Nat) : Int))]) (fun t => (b4, [.slice AM m cM, .slice A n cp], some (25, 2, 1)) :: (bo, R.map (lrS m), some (31, 1, co)) :: lrB m R) (fun t => t ≤ n ∧ ((List.range t).filterMap (arcT cst L at_)).find? (fun x => decide (0 ≤ G k x.2.1 ∧ x.2.2 + G k x.2.1 = G (k + 1) at_)) = none) (fun t => n - t) (0)
        (repeat (first | exact KeepF.nil | (apply KeepF.cons; exact rfl) | apply KeepF.skip))
        (repeat (first | exact FrSub.nil | (apply FrSub.cons; exact rfl)))
        (repeat (first | exact HpSub.refl _ | (apply HpSub.consE; (repeat (first | exact P0 | apply P1)); exact rfl) | exact HpSub.nil))
        · exact ⟨Nat.zero_le _, rfl⟩
        rintro t ⟨ht, h0⟩
        try simp only [List.cons_append, List.nil_append]
        by_cases hlD : t < n
        · obtain ⟨bA, oA, z, rfl, _, hz, c0, c1, c2, c3, c4⟩ := lg_read hr hlD
          obtain ⟨bK, oK, r, rfl, _, hrt', d0, hrr⟩ := hk0.read hlD
          have hm' := List.mem_of_getElem? hz
          have hxy : (r.x, r.y) = (cst z false, cst z true) := by
            have h := congrArg (fun l => l[t]?) hK
            simp only [List.getElem?_map, hrt', hz, Option.map_some, Option.some.injEq] at h
            exact h
          simp only [Prod.mk.injEq] at hxy
          have HO := fun w1 (hx : Ext w w1) => other_calls z r.A r.c r.x r.y (at_ : Int) w1 (hrr.ext hx)
          obtain ⟨site, cost, hs1, hs2, hcl, hcu, hcase⟩ := other_arc (m := m) (i := at_) hz (hL z hm') (hc z hm') (hc1 z hm')
          rw [hxy.1, hxy.2, hs1, hs2] at HO
          rcases hcase with ⟨hneg, harc⟩ | ⟨hc0, s, rfl, hsm, harc⟩
          · ((all_goals refine goQ0 ?_); (all_goals constructor); (any_goals exact trivial); all_goals intros)
            all_goals (refine ⟨t + 1, ⟨by omega, next_more h0 (fun x hx => (by rw [harc] at hx; cases hx))⟩, by omega, ?_, ?_⟩ <;> (((all_goals refine goQ1 ?_); (all_goals constructor); (any_goals exact trivial); all_goals intros)))
          · obtain ⟨ru, hu1, hu2, hu3⟩ := hGr k s (by omega) hsm
            have hGk := hGb k s (by omega) hsm
            by_cases hp0 : 0 ≤ G k s
            · by_cases he : cost + G k s = G (k + 1) at_
              · have hfd := next_found (pr := fun x => decide (0 ≤ G k x.2.1 ∧ x.2.2 + G k x.2.1 = G (k + 1) at_)) h0 harc (by simp only [decide_eq_true_eq]; exact ⟨hp0, he⟩) hlD
                rw [hfd] at hws
                simp only at hws
                rw [hws] at hway
                ((all_goals refine goQ0 ?_); (all_goals constructor); (any_goals exact trivial); all_goals intros)
                all_goals (rename_i bT bN cN; refine ⟨(([] : List Nat) ++ [t], s, k, some (bN, cN)), ⟨by simp only; omega, hsm, (by simp only; rw [hway, List.append_assoc]; rfl), (fun h => by cases h), (by simp only [List.length_append, List.length_singleton, List.length_nil] at hlen ⊢; omega)⟩, by simp only; omega, ?_, ?_⟩ <;> (try simp only [sN_snoc, hN_snoc, List.nil_append, List.cons_append, List.length_nil]) <;> (((all_goals refine goQ1 ?_); (all_goals constructor); (any_goals exact trivial); all_goals intros)))
              · ((all_goals refine goQ0 ?_); (all_goals constructor); (any_goals exact trivial); all_goals intros)
                all_goals (refine ⟨t + 1, ⟨by omega, next_more h0 (fun x hx => (by rw [harc] at hx; obtain rfl := Option.some.inj hx; simp only [decide_eq_false_iff_not]; exact fun e => he e.2))⟩, by omega, ?_, ?_⟩ <;> (((all_goals refine goQ1 ?_); (all_goals constructor); (any_goals exact trivial); all_goals intros)))
            · ((all_goals refine goQ0 ?_); (all_goals constructor); (any_goals exact trivial); all_goals intros)
              all_goals (refine ⟨t + 1, ⟨by omega, next_more h0 (fun x hx => (by rw [harc] at hx; obtain rfl := Option.some.inj hx; simp only [decide_eq_false_iff_not]; exact fun e => hp0 e.1))⟩, by omega, ?_, ?_⟩ <;> (((all_goals refine goQ1 ?_); (all_goals constructor); (any_goals exact trivial); all_goals intros)))
        · obtain rfl : n = t := by omega
          rw [h0] at hws
          simp only at hws
          rw [hws] at hway
          ((all_goals refine goQ0 ?_); (all_goals constructor); (any_goals exact trivial); all_goals intros)
          all_goals (refine ⟨(([] : List Nat), at_, k, none), ⟨by simp only; omega, hat, hway, (fun h => by first | rfl | cases h), by simp only; omega⟩, by simp only; omega, ?_, ?_⟩ <;> (try simp only [hN, sN, List.nil_append, List.cons_append]) <;> (((all_goals refine goQ1 ?_); (all_goals constructor); (any_goals exact trivial); all_goals intros)))
      · simp only [hN, sN, List.nil_append, List.cons_append]
        ((all_goals refine goQ0 ?_); (all_goals constructor); (any_goals exact trivial); all_goals intros)
        apply t_loopK (ι := Nat) [1, 2, 4, 8, 9, 10, 11, 13, 14, 15] (fun t => [(16, .int .i64 ((t : Nat) : Int))]) (fun t => (br, (cI acc).map iv, some (3, 1, cr)) :: (b4, [.slice AM m cM, .slice A n cp], some (25, 2, 1)) :: (bo, R.map (lrS m), some (31, 1, co)) :: lrB m R) (fun t => t ≤ n ∧ ((List.range t).filterMap (arcT cst L at_)).find? (fun x => decide (0 ≤ G k x.2.1 ∧ x.2.2 + G k x.2.1 = G (k + 1) at_)) = none) (fun t => n - t) (0)
        (repeat (first | exact KeepF.nil | (apply KeepF.cons; exact rfl) | apply KeepF.skip))
        (repeat (first | exact FrSub.nil | (apply FrSub.cons; exact rfl)))
        (repeat (first | exact HpSub.refl _ | (apply HpSub.consE; (repeat (first | exact P0 | apply P1)); exact rfl) | exact HpSub.nil))
        · exact ⟨Nat.zero_le _, rfl⟩
        rintro t ⟨ht, h0⟩
        try simp only [List.cons_append, List.nil_append]
        by_cases hlD : t < n
        · obtain ⟨bA, oA, z, rfl, _, hz, c0, c1, c2, c3, c4⟩ := lg_read hr hlD
          obtain ⟨bK, oK, r, rfl, _, hrt', d0, hrr⟩ := hk0.read hlD
          have hm' := List.mem_of_getElem? hz
          have hxy : (r.x, r.y) = (cst z false, cst z true) := by
            have h := congrArg (fun l => l[t]?) hK
            simp only [List.getElem?_map, hrt', hz, Option.map_some, Option.some.injEq] at h
            exact h
          simp only [Prod.mk.injEq] at hxy
          have HO := fun w1 (hx : Ext w w1) => other_calls z r.A r.c r.x r.y (at_ : Int) w1 (hrr.ext hx)
          obtain ⟨site, cost, hs1, hs2, hcl, hcu, hcase⟩ := other_arc (m := m) (i := at_) hz (hL z hm') (hc z hm') (hc1 z hm')
          rw [hxy.1, hxy.2, hs1, hs2] at HO
          rcases hcase with ⟨hneg, harc⟩ | ⟨hc0, s, rfl, hsm, harc⟩
          · ((all_goals refine goQ0 ?_); (all_goals constructor); (any_goals exact trivial); all_goals intros)
            all_goals (refine ⟨t + 1, ⟨by omega, next_more h0 (fun x hx => (by rw [harc] at hx; cases hx))⟩, by omega, ?_, ?_⟩ <;> (((all_goals refine goQ1 ?_); (all_goals constructor); (any_goals exact trivial); all_goals intros)))
          · obtain ⟨ru, hu1, hu2, hu3⟩ := hGr k s (by omega) hsm
            have hGk := hGb k s (by omega) hsm
            by_cases hp0 : 0 ≤ G k s
            · by_cases he : cost + G k s = G (k + 1) at_
              · have hfd := next_found (pr := fun x => decide (0 ≤ G k x.2.1 ∧ x.2.2 + G k x.2.1 = G (k + 1) at_)) h0 harc (by simp only [decide_eq_true_eq]; exact ⟨hp0, he⟩) hlD
                rw [hfd] at hws
                simp only at hws
                rw [hws] at hway
                ((all_goals refine goQ0 ?_); (all_goals constructor); (any_goals exact trivial); all_goals intros)
                all_goals (rename_i bT bN cN; refine ⟨(acc ++ [t], s, k, some (bN, cN)), ⟨by simp only; omega, hsm, (by simp only; rw [hway, List.append_assoc]; rfl), (fun h => by cases h), (by simp only [List.length_append, List.length_singleton, List.length_nil] at hlen ⊢; omega)⟩, by simp only; omega, ?_, ?_⟩ <;> (try simp only [sN_snoc, hN_snoc, List.nil_append, List.cons_append, List.length_nil]) <;> (((all_goals refine goQ1 ?_); (all_goals constructor); (any_goals exact trivial); all_goals intros)))
              · ((all_goals refine goQ0 ?_); (all_goals constructor); (any_goals exact trivial); all_goals intros)
                all_goals (refine ⟨t + 1, ⟨by omega, next_more h0 (fun x hx => (by rw [harc] at hx; obtain rfl := Option.some.inj hx; simp only [decide_eq_false_iff_not]; exact fun e => he e.2))⟩, by omega, ?_, ?_⟩ <;> (((all_goals refine goQ1 ?_); (all_goals constructor); (any_goals exact trivial); all_goals intros)))
            · ((all_goals refine goQ0 ?_); (all_goals constructor); (any_goals exact trivial); all_goals intros)
              all_goals (refine ⟨t + 1, ⟨by omega, next_more h0 (fun x hx => (by rw [harc] at hx; obtain rfl := Option.some.inj hx; simp only [decide_eq_false_iff_not]; exact fun e => hp0 e.1))⟩, by omega, ?_, ?_⟩ <;> (((all_goals refine goQ1 ?_); (all_goals constructor); (any_goals exact trivial); all_goals intros)))
        · obtain rfl : n = t := by omega
          rw [h0] at hws
          simp only at hws
          rw [hws] at hway
          ((all_goals refine goQ0 ?_); (all_goals constructor); (any_goals exact trivial); all_goals intros)
          all_goals (refine ⟨(acc, at_, k, some (br, cr)), ⟨by simp only; omega, hat, hway, (fun h => by first | rfl | cases h), by simp only; omega⟩, by simp only; omega, ?_, ?_⟩ <;> (try simp only [hN, sN, List.nil_append, List.cons_append]) <;> (((all_goals refine goQ1 ?_); (all_goals constructor); (any_goals exact trivial); all_goals intros)))
end Go.Proofs.YtcjkndjjbjoehaaGreat

