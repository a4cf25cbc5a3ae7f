/- A part of the proof: rules for walks, and contracts of functions (15). -/
import Derived.Test.YtcjkndjjbjoehaaGreatX3A
import Derived.Test.YtcjkndjjbjoehaaGreatX3N
import Derived.Test.YtcjkndjjbjoehaaGreatX3K
set_option linter.unusedVariables false
set_option linter.unusedSimpArgs false
set_option maxRecDepth 100000
set_option maxHeartbeats 2000000
namespace Go.Proofs.YtcjkndjjbjoehaaGreat
theorem gqT6 {G A1 A2 A3 A4 A5 A6 A7 A8 A9 A10 A11 A12 A13 A14 A15 A16 : Prop} (p : GoP A1 A2 A3 A4 A5 A6 A7 A8 A9 A10 A11 A12 A13 A14 A15 A16) (h : GoL A1 → GoL A2 → GoL A3 → GoL A4 → GoL A5 → GoL A6 → GoL A7 → GoL A8 → GoL A9 → GoL A10 → GoL A11 → GoL A12 → GoL A13 → GoL A14 → GoL A15 → GoL A16 → GoM → G := by intro m1 m2 m3 m4 m5 m6 m7 m8 m9 m10 m11 m12 m13 m14 m15 m16 _; (repeat' (first | ((with_reducible apply oq_id); first | ((with_reducible apply oq_call (k := 67) (hc := Tryz.call67)); exact rfl; exact rfl; (intro D w1 hw1; refine rfrom1_f ?_ hw1 (by (repeat (first | exact P0 | apply P1))); omega)) | ((with_reducible apply oq_call (k := 71) (hc := Tryz.call71)); exact rfl; exact rfl; (intro D w1 hw1; refine within6_f _ _ _ ?_ w1; omega)) | ((with_reducible apply oq_call (k := 71) (hc := Tryz.call71)); exact rfl; exact rfl; (intro D w1 hw1; refine within6_t _ _ _ ?_ w1; omega)) | ((with_reducible apply oq_eqNilT); exact rfl; exact rfl; exact rfl) | (focus ((with_reducible apply (oq_subE (k := (m : Int) - 1))); exact rfl; exact rfl; omega)) | (apply oq_fn; exact rfl; first | exact trivial | (refine ⟨?_, ?_⟩ <;> omega) | (refine ⟨?_, ?_, ?_⟩ <;> omega) | omega | skip) | ((with_reducible apply oq_load); exact rfl; exact rfl)) | ((with_reducible apply tl_id); first | ((with_reducible apply tl_nil)) | ((with_reducible apply u_q); exact rfl; exact rfl; exact rfl; exact rfl) | ((with_reducible apply u_s); exact rfl; exact rfl; exact rfl)) | ((with_reducible apply os_id); first | ((with_reducible apply os_x); exact rfl)) | ((with_reducible apply ox_id); first | ((with_reducible apply ox_boxAgg); exact rfl; intro _) | ((with_reducible apply ox_buildSlice1); exact rfl; exact rfl; exact rfl; exact rfl; exact rfl; exact rfl; intro _)) | ((with_reducible apply rd_id); first | (apply Rd.own; (repeat (first | exact P0 | apply P1)); exact rfl; done)) | ((with_reducible apply t_id); first | ((with_reducible apply t_seq)) | (apply t_region; kernel_rfl) | ((with_reducible apply t_condT); exact rfl) | ((with_reducible apply t_ret)) | ((with_reducible apply t_condF); exact rfl) | ((with_reducible apply t_skip)) | ((with_reducible apply t_block))) | with_reducible apply q_thenN | with_reducible apply q_thenR | ((with_reducible apply end_ret)) | exact rvs_nil | ((with_reducible apply rvs_cons)) | ((with_reducible apply rv_tmp); exact rfl))); (try focus (repeat (rename_i x; first | exact goD x m1.p | revert x))); (try focus (repeat (rename_i x; first | exact goD x m2.p | revert x))); (try focus (repeat (rename_i x; first | exact goD x m3.p | revert x))); (try focus (repeat (rename_i x; first | exact goD x m4.p | revert x))); (try focus (repeat (rename_i x; first | exact goD x m5.p | revert x))); (try focus (repeat (rename_i x; first | exact goD x m6.p | revert x))); (try focus (repeat (rename_i x; first | exact goD x m7.p | revert x))); (try focus (repeat (rename_i x; first | exact goD x m8.p | revert x))); (try focus (repeat (rename_i x; first | exact goD x m9.p | revert x))); (try focus (repeat (rename_i x; first | exact goD x m10.p | revert x))); (try focus (repeat (rename_i x; first | exact goD x m11.p | revert x))); (try focus (repeat (rename_i x; first | exact goD x m12.p | revert x))); (try focus (repeat (rename_i x; first | exact goD x m13.p | revert x))); (try focus (repeat (rename_i x; first | exact goD x m14.p | revert x))); (try focus (repeat (rename_i x; first | exact goD x m15.p | revert x))); (try focus (repeat (rename_i x; first | exact goD x m16.p | revert x)))) (e : GoTs A1 A2 A3 A4 A5 A6 A7 A8 A9 A10 A11 A12 A13 A14 A15 A16 := by constructor <;> first | (with_reducible exact GoT.t) | exact GoT.u) : G := p.run h
open Go.RowKit
attribute [local irreducible] OQ OS OX Rd T TL GX GL AL AI RV wpG SAny Calls
/-- The sites of a route, or none. -/
def SitV : Option Trp → Value → Hp → Prop
  | none, u, H => u = .tuple #[.slice none 0 0, .bool false] ∧ H = []
  | some p, u, H => ∃ b cap, u = .tuple #[.slice (some ⟨b, 0, none⟩) p.2.length cap, .bool true] ∧ H = [(b, (cI p.2).map iv, some (3, 1, cap))]
def LedV (e : Int) (p : Trp) (u : Value) (H : Hp) : Prop := ∃ b cap, u = .tuple #[.slice (some ⟨b, 0, none⟩) p.2.length cap, .int .i64 e] ∧ H = [(b, (cI p.2).map iv, some (3, 1, cap))]
theorem sites_calls (AM A : Option Addr) (m cM n cp : Nat) (L : List Lg) (w : World) (hr : RdS w 5 A n (L.map lgCells)) (hn : n ≤ 1000000) (hm : m ≤ 1000000) (hLk : ∀ z ∈ L, LegOk m z) (s : Int) (AR : Option Addr) (nR cR : Nat) (rs : List Int) (hR : RdS w 1 AR nR (rs.map inCells)) (hnR : nR ≤ 1000000) : Calls Tryz.prog 79 #[.agg #[.slice AM m cM, .slice A n cp], .int .i64 s, .slice AR nR cR] w fun e w' => ∃ u H', e = .returned u ∧ SitV (tripI m L s rs) u H' ∧ Has w ⟨[], []⟩ H' w' := by
  have hl : L.length = n := by simpa using hr.len
  have hlr : rs.length = nR := by simpa using hR.len
  by_cases hst : 0 ≤ s ∧ s ≤ (m : Int) - 1
  rotate_left
  · rw [show tripI m L s rs = none from if_neg hst]
    refine enterF (c := cx w 72) Tryz.func79 rfl rfl rfl rfl ?_
    ((all_goals refine gqT6 ?_); (all_goals constructor); (any_goals exact trivial); all_goals intros)
    all_goals exact ⟨_, ⟨rfl, rfl⟩, HpSub.nil⟩
  rw [show tripI m L s rs = tripF L s.toNat rs from if_pos hst]
  obtain ⟨s, rfl⟩ := Int.eq_ofNat_of_zero_le hst.1
  rw [Int.toNat_natCast]
  refine enterF (c := cx w 72) Tryz.func79 rfl rfl rfl rfl ?_
  ((all_goals refine gqT6 ?_); (all_goals constructor); (any_goals exact trivial); all_goals intros)
  rename_i b3 b8
  apply t_loopP (ι := Nat × Trp × Nat × Nat) [2, 3] (fun z => [(9, .int .i64 ((z.1 : Nat) : Int)), (8, .slice (some ⟨z.2.2.1, 0, none⟩) z.2.1.2.length z.2.2.2)]) (fun z => [(z.2.2.1, (cI z.2.1.2).map iv, some (3, 1, z.2.2.2)), (b3, [.slice AM m cM, .slice A n cp], some (25, 2, 1))]) (fun z => z.1 ≤ nR ∧ tripF L s (rs.take z.1) = some z.2.1) (fun z => nR - z.1) (0, ([], [s]), b8, 1)
  (repeat (first | exact KeepF.nil | (apply KeepF.cons; exact rfl) | apply KeepF.skip))
  (repeat (first | exact FrSub.nil | (apply FrSub.cons; exact rfl)))
  (try simp only [List.cons_append, List.nil_append])
  (repeat' (first | exact HpSub.refl _))
  · exact ⟨Nat.zero_le _, rfl⟩
  rintro ⟨k, ⟨g, S⟩, bS, cS⟩ ⟨hk, hp⟩
  simp only at hk hp
  try simp only [List.cons_append, List.nil_append]
  obtain ⟨hp1, hp2, hp3, hp4⟩ := trip_ti hLk (show s < m by omega) hp
  rw [List.length_take, Nat.min_eq_left (by omega)] at hp1 hp2
  simp only at hp1 hp2 hp3
  by_cases hlt : k < nR
  rotate_left
  · obtain rfl : k = nR := by omega
    rw [List.take_of_length_le (by omega)] at hp
    rw [hp]
    ((all_goals refine gqT0 ?_); (all_goals constructor); (any_goals exact trivial); all_goals intros)
    all_goals (refine ⟨_, ⟨bS, cS, rfl, rfl⟩, ?_⟩; (repeat' (first | exact HpSub.refl _ | (apply HpSub.consE; (repeat (first | exact P0 | apply P1)); first | exact rfl | exact cN_snoc _ _ | (simp [cI, iv]; done) | skip) | apply HpSub.skipX)))
  obtain ⟨bR, oR, r, rfl, _, hrk, e0⟩ := in_read hR hlt
  have hst' := tripF_take (L := L) (s := s) hrk
  rw [hp] at hst'
  simp only [stF] at hst'
  have hxl0 : ∃ x, S[k]? = some x ∧ S.getLastD 0 = x := by
    refine ⟨S.getLastD 0, ?_, rfl⟩
    rw [List.getLastD_eq_getLast?, List.getLast?_eq_getElem?, hp2, Nat.add_sub_cancel]
    rw [List.getElem?_eq_getElem (by omega)]
    rfl
  obtain ⟨x, hxl, hxe⟩ := hxl0
  have hxm := hp3 x (List.mem_of_getElem? hxl)
  rw [hxe] at hst'
  by_cases hrr : 0 ≤ r ∧ r ≤ (n : Int) - 1
  rotate_left
  · rw [if_neg (by omega)] at hst'
    rw [tripF_cut hst']
    ((all_goals refine gqT0 ?_); (all_goals constructor); (any_goals exact trivial); all_goals intros)
    all_goals exact ⟨_, ⟨rfl, rfl⟩, HpSub.nil⟩
  obtain ⟨t, rfl⟩ := Int.eq_ofNat_of_zero_le hrr.1
  obtain ⟨bA, oA, z, rfl, _, hz, c0, c1, c2, c3, c4⟩ := lg_read hr (show t < n by omega)
  obtain ⟨hz1, hz2, hz3, _⟩ := hLk z (List.mem_of_getElem? hz)
  rw [if_pos (by omega), Int.toNat_natCast, hz] at hst'
  simp only at hst'
  by_cases hx : (x : Int) = z.a ∨ (x : Int) = z.b
  rotate_left
  · rw [if_neg hx] at hst'
    rw [tripF_cut hst']
    ((all_goals refine gqT0 ?_); (all_goals constructor); (any_goals exact trivial); all_goals intros)
    all_goals exact ⟨_, ⟨rfl, rfl⟩, HpSub.nil⟩
  rw [if_pos hx] at hst'
  obtain ⟨y, hy⟩ : ∃ y : Nat, (z.a + z.b - (x : Int)) = y := Int.eq_ofNat_of_zero_le (by omega)
  rw [hy, Int.toNat_natCast] at hst'
  rcases hx with hx | hx
  all_goals (((all_goals refine gqT0 ?_); (all_goals constructor); (any_goals exact trivial); all_goals intros))
  all_goals (rename_i b11 b69 bN cN; refine ⟨(k + 1, (g ++ [(t, decide ((x : Int) = z.b))], S ++ [y]), bN, cN), ⟨by simp only; omega, hst'⟩, by simp only; omega, ?_, ?_⟩ <;> (try simp only [List.length_append, List.length_singleton]) <;> (repeat' (first | exact FrSub.nil | (apply FrSub.cons; exact rfl) | exact HpSub.refl _ | (apply HpSub.consE; (repeat (first | exact P0 | apply P1)); first | exact rfl | exact cN_snoc _ _ | (simp [cI, iv]; done) | skip) | apply HpSub.skipX)))
theorem led60_err (AM A : Option Addr) (m cM n cp : Nat) (L : List Lg) (w : World) (hr : RdS w 5 A n (L.map lgCells)) (hn : n ≤ 1000000) (hm : m ≤ 1000000) (v q1 q2 q3 q4 g0 g1 : Int) (AC : Option Addr) (nC cC : Nat) (C : List Wn) (hrc : CastR w AC nC C) (hs : ∀ z ∈ C, z.n ≤ 1000000) (s : Int) (AR : Option Addr) (nR cR : Nat) (rs : List Int) (hR : RdS w 1 AR nR (rs.map inCells)) (hnR : nR ≤ 1000000) (he : ledE m L v q1 q2 q3 q4 g0 g1 C s rs ≠ 0) : Calls Tryz.prog 60 #[.agg #[.slice AM m cM, .slice A n cp], .agg #[.int .i64 v, .int .i64 q1, .int .i64 q2, .int .i64 q3, .int .i64 q4, .int .i64 g0, .int .i64 g1], .slice AC nC cC, .int .i64 s, .slice AR nR cR] w fun e w' => e = .returned (.tuple #[.slice none 0 0, .int .i64 (ledE m L v q1 q2 q3 q4 g0 g1 C s rs)]) ∧ Ext w w' := by
  have HA := fun w1 (hx : Ext w w1) => asked_calls AM A m cM n cp L w1 (hr.ext hx) hn hm v q1 q2 q3 q4 g0 g1 AC nC cC C (hrc.ext hx) hs
  have hlr : rs.length = nR := by simpa using hR.len
  unfold ledE at he ⊢
  by_cases hE : askE m L v q1 q2 q3 q4 g0 g1 C = 0
  rotate_left
  · rw [if_neg hE]
    generalize askE m L v q1 q2 q3 q4 g0 g1 C = e0 at *
    refine enterQ (c := cx w 35) Tryz.func60 rfl rfl rfl rfl ?_
    ((all_goals refine gqT0 ?_); (all_goals constructor); (any_goals exact trivial); all_goals intros)
    all_goals rfl
  rw [if_pos hE] at he ⊢
  rw [hE] at HA
  have hLk : ∀ z ∈ L, LegOk m z := (chartB_iff.1 (askE_ok hE).1).2.2
  clear hE
  by_cases h20 : rs.length ≤ 20
  rotate_left
  · rw [if_neg h20]
    refine enterQ (c := cx w 35) Tryz.func60 rfl rfl rfl rfl ?_
    ((all_goals refine gqT0 ?_); (all_goals constructor); (any_goals exact trivial); all_goals intros)
    all_goals rfl
  rw [if_pos h20] at he ⊢
  have HS := fun w1 (hx : Ext w w1) => sites_calls AM A m cM n cp L w1 (hr.ext hx) hn hm hLk s AR nR cR rs (hR.ext hx) hnR
  cases hp : tripI m L s rs with
  | some p => rw [hp] at he; exact absurd rfl he
  | none =>
    rw [hp] at HS
    have HS2 : ∀ w1, Ext w w1 → Calls Tryz.prog 79 #[.agg #[.slice AM m cM, .slice A n cp], .int .i64 s, .slice AR nR cR] w1 fun e w' => e = .returned (.tuple #[.slice none 0 0, .bool false]) ∧ Ext w1 w' := fun w1 hx => (HS w1 hx).mono fun e w' ⟨u, H', h1, ⟨h2, h3⟩, h4⟩ => ⟨by rw [h1, h2], h4.ext.ext⟩
    simp only
    refine enterQ (c := cx w 35) Tryz.func60 rfl rfl rfl rfl ?_
    ((all_goals refine gqT0 ?_); (all_goals constructor); (any_goals exact trivial); all_goals intros)
    all_goals rfl
theorem led60_ok (AM A : Option Addr) (m cM n cp : Nat) (L : List Lg) (w : World) (hr : RdS w 5 A n (L.map lgCells)) (hn : n ≤ 1000000) (hm : m ≤ 1000000) (v q1 q2 q3 q4 g0 g1 : Int) (AC : Option Addr) (nC cC : Nat) (C : List Wn) (hrc : CastR w AC nC C) (hs : ∀ z ∈ C, z.n ≤ 1000000) (s : Int) (AR : Option Addr) (nR cR : Nat) (rs : List Int) (hR : RdS w 1 AR nR (rs.map inCells)) (hnR : nR ≤ 1000000) (hE : askE m L v q1 q2 q3 q4 g0 g1 C = 0) (h20 : rs.length ≤ 20) (p : Trp) (htr : tripI m L s rs = some p) : Calls Tryz.prog 60 #[.agg #[.slice AM m cM, .slice A n cp], .agg #[.int .i64 v, .int .i64 q1, .int .i64 q2, .int .i64 q3, .int .i64 q4, .int .i64 g0, .int .i64 g1], .slice AC nC cC, .int .i64 s, .slice AR nR cR] w fun e w' => ∃ u H', e = .returned u ∧ LedV 0 p u H' ∧ Has w ⟨[], []⟩ H' w' := by
  have HA := fun w1 (hx : Ext w w1) => asked_calls AM A m cM n cp L w1 (hr.ext hx) hn hm v q1 q2 q3 q4 g0 g1 AC nC cC C (hrc.ext hx) hs
  have hlr : rs.length = nR := by simpa using hR.len
  rw [hE] at HA
  have hLk : ∀ z ∈ L, LegOk m z := (chartB_iff.1 (askE_ok hE).1).2.2
  clear hE
  have HS := fun w1 (hx : Ext w w1) => sites_calls AM A m cM n cp L w1 (hr.ext hx) hn hm hLk s AR nR cR rs (hR.ext hx) hnR
  rw [htr] at HS
  refine enterF (c := cx w 35) Tryz.func60 rfl rfl rfl rfl ?_
  repeat' (first | ((with_reducible apply oq_id); first | ((with_reducible apply oq_neqF); exact rfl; exact rfl; omega) | ((with_reducible apply oq_gtrF); exact rfl; exact rfl; omega) | (apply oq_fn; exact rfl; first | exact trivial | (refine ⟨?_, ?_⟩ <;> omega) | (refine ⟨?_, ?_, ?_⟩ <;> omega) | omega | skip) | ((with_reducible apply oq_loadAgg); exact rfl; exact rfl) | ((with_reducible apply oq_call (k := 70) (hc := Tryz.call70)); exact rfl; exact rfl; exact fun D w1 hw1 => HA w1 hw1.ext.ext)) | ((with_reducible apply tl_id); first | ((with_reducible apply tl_nil)) | ((with_reducible apply u_s); exact rfl; exact rfl; exact rfl; (with_reducible apply os_callF (PV := SitV (some p)) (k := 79) (hc := Tryz.call79)); exact rfl; exact rfl; exact fun D w1 hw1 => HS w1 hw1.ext.ext; rintro _ _ ⟨bS, cS, rfl, rfl⟩; simp only [List.cons_append, List.nil_append]) | ((with_reducible apply u_q); exact rfl; exact rfl; exact rfl; exact rfl) | ((with_reducible apply u_s); exact rfl; exact rfl; exact rfl)) | ((with_reducible apply os_id); first | ((with_reducible apply os_x); exact rfl)) | ((with_reducible apply ox_id); first | ((with_reducible apply ox_boxAgg); exact rfl; intro _)) | ((with_reducible apply rd_id); first | (apply Rd.own; (repeat (first | exact P0 | apply P1)); exact rfl; done)) | ((with_reducible apply t_id); first | ((with_reducible apply t_seq)) | (apply t_region; kernel_rfl) | ((with_reducible apply t_condF); exact rfl) | ((with_reducible apply t_ret)) | ((with_reducible apply t_skip))) | with_reducible apply q_thenN | exact Rdn.zero | apply Rdn.succ | ((with_reducible apply end_ret)) | exact rvs_nil | ((with_reducible apply rvs_cons)) | ((with_reducible apply rv_tmp); exact rfl))
  all_goals (refine ⟨_, ⟨bS, cS, rfl, rfl⟩, ?_⟩; (repeat' (first | exact HpSub.refl _ | (apply HpSub.consE; (repeat (first | exact P0 | apply P1)); first | exact rfl | exact cN_snoc _ _ | (simp [cI, iv]; done) | skip) | apply HpSub.skipX)))
theorem ptN_snoc {ln : Nat → Nat} : ∀ k i, ptN ln (k + 1) i = ptN ln k i + (ln (i + k) + 1)
  | 0, i => by simp [ptN]
  | k + 1, i => by
    have h := ptN_snoc (ln := ln) k (i + 1)
    have e : ptN ln (k + 1 + 1) i = ln i + 1 + ptN ln (k + 1) (i + 1) := rfl
    have e2 : ptN ln (k + 1) i = ln i + 1 + ptN ln k (i + 1) := rfl
    rw [e, h, e2, show i + 1 + k = i + (k + 1) by omega]
    omega
theorem ptN_le {ln : Nat → Nat} (h : ∀ i, ln i ≤ 1000000) : ∀ k i, ptN ln k i ≤ k * 1000001
  | 0, i => Nat.zero_le _
  | k + 1, i => by
    have h1 := ptN_le h k (i + 1)
    have h2 := h i
    simp only [ptN]
    omega
theorem partV_form (R : List (Int × Int)) (me g0 g1 : Nat) : ∃ (lo lf : Nat) (op : Bool), partV R me g0 g1 = .tuple #[.agg #[.int .i64 (lo : Nat), .int .i64 ((bilV R me g0 g1).1 : Nat)], .agg #[.int .i64 (lf : Nat), .int .i64 ((bilV R me g0 g1).2 : Nat)], .bool op] := by
  unfold partV bilV
  by_cases hR : R = []
  · rw [if_pos hR, if_pos hR]
    exact ⟨0, 0, false, rfl⟩
  · rw [if_neg hR, if_neg hR]
    exact ⟨_, _, true, rfl⟩
/-- What a leg of a route is. -/
theorem leg_of {L : List Lg} {m : Nat} {rs : List Int} {p : Trp} (hTI : TI L m rs p) {i : Nat} (hi : i < rs.length) : ∃ (z : Lg) (t : Nat) (bk : Bool) (x y : Nat), p.1[i]? = some (t, bk) ∧ rs[i]? = some (t : Int) ∧ L[t]? = some z ∧ p.2[i]? = some x ∧ p.2[i + 1]? = some y ∧ ((bk = false ∧ z.a = x ∧ z.b = y) ∨ (bk = true ∧ z.a ≠ x ∧ z.b = x ∧ z.a = y)) := by
  obtain ⟨_, _, _, h4⟩ := hTI
  obtain ⟨r, hr⟩ : ∃ r, rs[i]? = some r := ⟨_, List.getElem?_eq_getElem hi⟩
  obtain ⟨z, t, bk, x, y, e1, rfl, e3, e4, e5, e6⟩ := h4 i r hr
  exact ⟨z, t, bk, x, y, e1, hr, e3, e4, e5, e6⟩
theorem open61_calls (AM A : Option Addr) (m cM n cp : Nat) (L : List Lg) (w : World) (hr : RdS w 5 A n (L.map lgCells)) (hn : n ≤ 1000000) (hm : m ≤ 1000000) (v q1 q2 q3 q4 : Int) (g0 g1 : Nat) (AC : Option Addr) (nC cC : Nat) (C : List Wn) (hrc : CastR w AC nC C) (hs : ∀ z ∈ C, z.n ≤ 1000000) (hp : PaceOk v q1 q2 q3 q4 g0 g1) (hcw : ∀ x ∈ C, windB x.l = true) (hnC : 1 ≤ nC ∧ nC ≤ 4) (hL : ∀ z ∈ L, LegOk m z) (p : Trp) (rs : List Int) (hTI : TI L m rs p) (h20 : rs.length ≤ 20) (AR : Option Addr) (nR cR : Nat) (hR : RdS w 1 AR nR (rs.map inCells)) : Calls Tryz.prog 61 #[.agg #[.slice AM m cM, .slice A n cp], .agg #[.int .i64 v, .int .i64 q1, .int .i64 q2, .int .i64 q3, .int .i64 q4, .int .i64 (g0 : Nat), .int .i64 (g1 : Nat)], .slice AC nC cC, .slice AR nR cR] w fun e w' => e = .returned (.bool (opB (flC v q1 q2 q3 g0 g1 C L) p.1)) ∧ Ext w w' := by
  have hl : L.length = n := by simpa using hr.len
  have hlr : rs.length = nR := by simpa using hR.len
  have hg1 := hTI.1
  refine enterQ (c := cx w 37) Tryz.func61 rfl rfl rfl rfl ?_
  repeat' (first | ((with_reducible apply oq_id); first | (apply oq_fn; exact rfl; first | exact trivial | (refine ⟨?_, ?_⟩ <;> omega) | (refine ⟨?_, ?_, ?_⟩ <;> omega) | omega | skip)) | ((with_reducible apply tl_id); first | ((with_reducible apply tl_nil)) | ((with_reducible apply u_q); exact rfl; exact rfl; exact rfl; exact rfl) | ((with_reducible apply u_s); exact rfl; exact rfl; exact rfl)) | ((with_reducible apply os_id); first | ((with_reducible apply os_x); exact rfl)) | ((with_reducible apply ox_id); first | ((with_reducible apply ox_boxAgg); exact rfl; intro _)) | ((with_reducible apply t_id); first | ((with_reducible apply t_seq)) | (apply t_region; kernel_rfl) | ((with_reducible apply t_block))) | with_reducible apply q_thenN)
  rename_i b4 b5
  apply t_loopP (ι := Nat) [2, 3, 4, 5] (fun k => [(9, .int .i64 ((k : Nat) : Int))]) (fun _ => [(b4, [.slice AM m cM, .slice A n cp], some (25, 2, 1)), (b5, [.int .i64 v, .int .i64 q1, .int .i64 q2, .int .i64 q3, .int .i64 q4, .int .i64 (g0 : Nat), .int .i64 (g1 : Nat)], some (29, 7, 1))]) (fun k => k ≤ nR ∧ ∀ (j : Nat) (x : Nat × Bool), j < k → p.1[j]? = some x → 0 ≤ (flC v q1 q2 q3 g0 g1 C L) (x.1, false) ∧ 0 ≤ (flC v q1 q2 q3 g0 g1 C L) (x.1, true)) (fun k => nR - k) (0)
  (repeat (first | exact KeepF.nil | (apply KeepF.cons; exact rfl) | apply KeepF.skip))
  (repeat (first | exact FrSub.nil | (apply FrSub.cons; exact rfl)))
  (try simp only [List.cons_append, List.nil_append])
  (repeat' (first | exact HpSub.refl _ | (apply HpSub.consE; (repeat (first | exact P0 | apply P1)); first | exact rfl | skip)))
  · exact ⟨Nat.zero_le _, fun j x h => absurd h (Nat.not_lt_zero _)⟩
  rintro k ⟨hk, hop1⟩
  try simp only [List.cons_append, List.nil_append]
  by_cases hlt : k < nR
  rotate_left
  · have e : opB (flC v q1 q2 q3 g0 g1 C L) p.1 = true := by
      unfold opB
      rw [List.all_eq_true]
      intro x hx
      obtain ⟨j, hj, rfl⟩ := List.getElem_of_mem hx
      have := hop1 j _ (by omega) (List.getElem?_eq_getElem hj)
      simp only [Bool.and_eq_true, decide_eq_true_eq]
      exact this
    rw [e]
    repeat' (first | ((with_reducible apply oq_id); first | ((with_reducible apply oq_lssF); exact rfl; exact rfl; omega) | (apply oq_fn; exact rfl; first | exact trivial | (refine ⟨?_, ?_⟩ <;> omega) | (refine ⟨?_, ?_, ?_⟩ <;> omega) | omega | skip)) | ((with_reducible apply tl_id); first | ((with_reducible apply tl_nil)) | ((with_reducible apply u_q); exact rfl; exact rfl; exact rfl; exact rfl)) | ((with_reducible apply t_id); first | ((with_reducible apply t_seq)) | (apply t_region; kernel_rfl) | ((with_reducible apply t_condF); exact rfl) | ((with_reducible apply t_ret)) | ((with_reducible apply t_exit))) | with_reducible apply q_thenN | with_reducible apply q_thenE | ((with_reducible apply q_blockE); exact rfl) | ((with_reducible apply end_ret)) | exact rvs_nil | ((with_reducible apply rvs_cons)) | ((with_reducible apply rv_tmp); exact rfl))
    all_goals rfl
  obtain ⟨z, t, bk, x, y, l1, hri, hz, l4, l5, lcase⟩ := leg_of hTI (show k < rs.length by omega)
  obtain ⟨bR, oR, r', rfl, _, hri', e0⟩ := in_read hR hlt
  rw [hri] at hri'
  obtain rfl := Option.some.inj hri'
  have htn : t < n := by have := (List.getElem?_eq_some_iff.1 hz).1; omega
  obtain ⟨bA, oA, z', rfl, _, hz', c0, c1, c2, c3, c4⟩ := lg_read hr htn
  rw [hz] at hz'
  obtain rfl := Option.some.inj hz'
  have hzL := hL z (List.mem_of_getElem? hz)
  have hfl : ∀ b', (flC v q1 q2 q3 g0 g1 C L) (t, b') = legC v q1 q2 q3 g0 g1 C z b' := fun b' => by unfold flC; rw [hz]
  have HC := fun bk w1 (hx : Ext w w1) => cost_calls (m := m) z v q1 q2 q3 q4 g0 g1 bk AC nC cC C w1 (hrc.ext hx) hs hcw hnC hp hzL
  simp only [← hfl] at HC
  have hno : ¬ (0 ≤ (flC v q1 q2 q3 g0 g1 C L) (t, false) ∧ 0 ≤ (flC v q1 q2 q3 g0 g1 C L) (t, true)) → opB (flC v q1 q2 q3 g0 g1 C L) p.1 = false := fun h => by
    unfold opB
    rw [List.all_eq_false]
    exact ⟨(t, bk), List.mem_of_getElem? l1, by simp only [Bool.and_eq_true, decide_eq_true_eq]; exact h⟩
  by_cases h1 : (flC v q1 q2 q3 g0 g1 C L) (t, false) < 0
  · rw [hno (by omega)]
    repeat' (first | ((with_reducible apply oq_id); first | (focus ((with_reducible apply oq_indexAddrN (i := k)); exact rfl; exact rfl; exact rfl; exact rfl; omega)) | (focus ((with_reducible apply oq_indexAddrN (i := t)); exact rfl; exact rfl; exact rfl; exact rfl; omega)) | ((with_reducible apply oq_lssT); exact rfl; exact rfl; omega) | (apply oq_fn; exact rfl; first | exact trivial | (refine ⟨?_, ?_⟩ <;> omega) | (refine ⟨?_, ?_, ?_⟩ <;> omega) | omega | skip) | ((with_reducible apply oq_load); exact rfl; exact rfl) | ((with_reducible apply oq_loadAgg); exact rfl; exact rfl) | ((with_reducible apply oq_call (k := 99) (hc := Tryz.call99)); exact rfl; exact rfl; exact fun D w1 hw1 => HC false w1 hw1.ext.ext)) | ((with_reducible apply tl_id); first | ((with_reducible apply tl_nil)) | ((with_reducible apply u_q); exact rfl; exact rfl; exact rfl; exact rfl) | ((with_reducible apply u_skip); exact rfl; exact rfl; exact rfl)) | ((with_reducible apply gx_id); first | ((with_reducible apply v_nil)) | ((with_reducible apply v_q); exact rfl; exact rfl; exact rfl)) | ((with_reducible apply os_id); first | ((with_reducible apply os_storeAgg); exact rfl; exact rfl; exact rfl; exact rfl; exact rfl)) | ((with_reducible apply ox_id); first | ((with_reducible apply ox_alloc); exact rfl; intro _)) | ((with_reducible apply ai_id); first | ((with_reducible apply ai_x); exact rfl; exact rfl; exact rfl; exact rfl; exact rfl) | ((with_reducible apply ai_n0); exact rfl; exact rfl; exact rfl)) | ((with_reducible apply al_keep); focus (repeat (first | exact HpSub.refl _ | (apply HpSub.cons; (repeat (first | exact P0 | apply P1))) | apply HpSub.skipX | exact HpSub.nil))) | ((with_reducible apply rd_id); first | (apply Rd.own; (repeat (first | exact P0 | apply P1)); exact rfl; done) | (apply Rd.old; (first | (with_reducible assumption) | exact c0 | exact c1 | exact c2 | exact c3 | exact c4 | exact c5 | exact c6 | exact c7 | exact c8 | exact d0 | exact d1 | exact d2 | exact d3 | exact d4 | exact d5); first | exact List.not_mem_nil | exact m0 | exact m1 | exact m2 | exact m3 | exact m4 | exact m5 | exact m6 | exact m7 | exact m8 | exact m9)) | ((with_reducible apply t_id); first | (apply t_mix (id := 4) [0, 1, 2, 3, 4, 5, 6, 7] 2 #[false, false, false, false, false, false, false, false, false, false]; kernel_rfl; kernel_rfl; exact rfl) | ((with_reducible apply t_seq)) | (apply t_region; kernel_rfl) | ((with_reducible apply t_condT); exact rfl) | ((with_reducible apply t_ret)) | ((with_reducible apply t_skip)) | ((with_reducible apply t_block))) | with_reducible apply q_thenN | with_reducible apply q_thenR | with_reducible apply q_blockR | exact P0 | exact Rdn.zero | apply Rdn.succ | ((with_reducible apply Norm.nil); exact rfl) | ((with_reducible apply Norm.cons); exact rfl) | ((with_reducible apply end_ret)) | exact rvs_nil | ((with_reducible apply rvs_cons)) | ((with_reducible apply rv_tmp); exact rfl) | ((with_reducible apply al_id); first | (apply al_done; decide +kernel) | (apply al_one 8; decide +kernel) | (apply al_one 9; decide +kernel)) | exact Nat.le_of_ble_eq_true rfl)
    all_goals rfl
  by_cases h2 : (flC v q1 q2 q3 g0 g1 C L) (t, true) < 0
  · rw [hno (by omega)]
    repeat' (first | ((with_reducible apply oq_id); first | (focus ((with_reducible apply oq_indexAddrN (i := k)); exact rfl; exact rfl; exact rfl; exact rfl; omega)) | (focus ((with_reducible apply oq_indexAddrN (i := t)); exact rfl; exact rfl; exact rfl; exact rfl; omega)) | ((with_reducible apply oq_lssT); exact rfl; exact rfl; omega) | ((with_reducible apply oq_lssF); exact rfl; exact rfl; omega) | (apply oq_fn; exact rfl; first | exact trivial | (refine ⟨?_, ?_⟩ <;> omega) | (refine ⟨?_, ?_, ?_⟩ <;> omega) | omega | skip) | ((with_reducible apply oq_load); exact rfl; exact rfl) | ((with_reducible apply oq_loadAgg); exact rfl; exact rfl) | ((with_reducible apply oq_call (k := 99) (hc := Tryz.call99)); exact rfl; exact rfl; exact fun D w1 hw1 => HC false w1 hw1.ext.ext) | ((with_reducible apply oq_call (k := 99) (hc := Tryz.call99)); exact rfl; exact rfl; exact fun D w1 hw1 => HC true w1 hw1.ext.ext)) | ((with_reducible apply tl_id); first | ((with_reducible apply tl_nil)) | ((with_reducible apply u_q); exact rfl; exact rfl; exact rfl; exact rfl)) | ((with_reducible apply gx_id); first | ((with_reducible apply v_nil)) | ((with_reducible apply v_q); exact rfl; exact rfl; exact rfl)) | ((with_reducible apply os_id); first | ((with_reducible apply os_storeAgg); exact rfl; exact rfl; exact rfl; exact rfl; exact rfl)) | ((with_reducible apply ox_id); first | ((with_reducible apply ox_alloc); exact rfl; intro _)) | ((with_reducible apply ai_id); first | ((with_reducible apply ai_x); exact rfl; exact rfl; exact rfl; exact rfl; exact rfl) | ((with_reducible apply ai_n0); exact rfl; exact rfl; exact rfl)) | ((with_reducible apply al_keep); focus (repeat (first | exact HpSub.refl _ | (apply HpSub.cons; (repeat (first | exact P0 | apply P1))) | apply HpSub.skipX | exact HpSub.nil))) | ((with_reducible apply rd_id); first | (apply Rd.own; (repeat (first | exact P0 | apply P1)); exact rfl; done) | (apply Rd.old; (first | (with_reducible assumption) | exact c0 | exact c1 | exact c2 | exact c3 | exact c4 | exact c5 | exact c6 | exact c7 | exact c8 | exact d0 | exact d1 | exact d2 | exact d3 | exact d4 | exact d5); first | exact List.not_mem_nil | exact m0 | exact m1 | exact m2 | exact m3 | exact m4 | exact m5 | exact m6 | exact m7 | exact m8 | exact m9)) | ((with_reducible apply t_id); first | (apply t_mix (id := 4) [0, 1, 2, 3, 4, 5, 6, 7] 2 #[false, false, false, false, false, false, false, false, false, false]; kernel_rfl; kernel_rfl; exact rfl) | ((with_reducible apply t_seq)) | (apply t_region; kernel_rfl) | ((with_reducible apply t_condT); exact rfl) | ((with_reducible apply t_ret)) | ((with_reducible apply t_skip)) | ((with_reducible apply t_block))) | with_reducible apply q_thenN | with_reducible apply q_thenR | with_reducible apply q_blockR | exact P0 | exact Rdn.zero | apply Rdn.succ | ((with_reducible apply Norm.nil); exact rfl) | ((with_reducible apply Norm.cons); exact rfl) | ((with_reducible apply end_ret)) | exact rvs_nil | ((with_reducible apply rvs_cons)) | ((with_reducible apply rv_tmp); exact rfl) | ((with_reducible apply al_id); first | (apply al_done; decide +kernel) | (apply al_one 8; decide +kernel) | (apply al_one 9; decide +kernel)) | exact Nat.le_of_ble_eq_true rfl)
    all_goals rfl
  have hnew : ∀ (j : Nat) (x : Nat × Bool), j < k + 1 → p.1[j]? = some x → 0 ≤ (flC v q1 q2 q3 g0 g1 C L) (x.1, false) ∧ 0 ≤ (flC v q1 q2 q3 g0 g1 C L) (x.1, true) := fun j x h3 h4 => by
    rcases Nat.lt_or_ge j k with h5 | h5
    · exact hop1 j x h5 h4
    · have e : j = k := by omega
      rw [e, l1] at h4
      obtain rfl := Option.some.inj h4
      exact ⟨by simp only; omega, by simp only; omega⟩
  repeat' (first | ((with_reducible apply oq_id); first | (focus ((with_reducible apply oq_indexAddrN (i := k)); exact rfl; exact rfl; exact rfl; exact rfl; omega)) | (focus ((with_reducible apply oq_indexAddrN (i := t)); exact rfl; exact rfl; exact rfl; exact rfl; omega)) | ((with_reducible apply oq_lssT); exact rfl; exact rfl; omega) | ((with_reducible apply oq_lssF); exact rfl; exact rfl; omega) | (apply oq_fn; exact rfl; first | exact trivial | (refine ⟨?_, ?_⟩ <;> omega) | (refine ⟨?_, ?_, ?_⟩ <;> omega) | omega | skip) | ((with_reducible apply oq_load); exact rfl; exact rfl) | ((with_reducible apply oq_loadAgg); exact rfl; exact rfl) | ((with_reducible apply oq_call (k := 99) (hc := Tryz.call99)); exact rfl; exact rfl; exact fun D w1 hw1 => HC false w1 hw1.ext.ext) | ((with_reducible apply oq_call (k := 99) (hc := Tryz.call99)); exact rfl; exact rfl; exact fun D w1 hw1 => HC true w1 hw1.ext.ext)) | ((with_reducible apply tl_id); first | ((with_reducible apply tl_nil)) | ((with_reducible apply u_q); exact rfl; exact rfl; exact rfl; exact rfl)) | ((with_reducible apply gx_id); first | ((with_reducible apply v_nil)) | ((with_reducible apply v_q); exact rfl; exact rfl; exact rfl)) | ((with_reducible apply os_id); first | ((with_reducible apply os_storeAgg); exact rfl; exact rfl; exact rfl; exact rfl; exact rfl)) | ((with_reducible apply ox_id); first | ((with_reducible apply ox_alloc); exact rfl; intro _)) | ((with_reducible apply ai_id); first | ((with_reducible apply ai_x); exact rfl; exact rfl; exact rfl; exact rfl; exact rfl) | ((with_reducible apply ai_n0); exact rfl; exact rfl; exact rfl)) | ((with_reducible apply al_keep); focus (repeat (first | exact HpSub.refl _ | (apply HpSub.cons; (repeat (first | exact P0 | apply P1))) | apply HpSub.skipX | exact HpSub.nil))) | ((with_reducible apply rd_id); first | (apply Rd.own; (repeat (first | exact P0 | apply P1)); exact rfl; done) | (apply Rd.old; (first | (with_reducible assumption) | exact c0 | exact c1 | exact c2 | exact c3 | exact c4 | exact c5 | exact c6 | exact c7 | exact c8 | exact d0 | exact d1 | exact d2 | exact d3 | exact d4 | exact d5); first | exact List.not_mem_nil | exact m0 | exact m1 | exact m2 | exact m3 | exact m4 | exact m5 | exact m6 | exact m7 | exact m8 | exact m9)) | ((with_reducible apply t_id); first | (apply t_mix (id := 4) [0, 1, 2, 3, 4, 5, 6, 7] 2 #[false, false, false, false, false, false, false, false, false, false]; kernel_rfl; kernel_rfl; exact rfl) | ((with_reducible apply t_seq)) | (apply t_region; kernel_rfl) | ((with_reducible apply t_condT); exact rfl) | ((with_reducible apply t_condF); exact rfl) | ((with_reducible apply t_skip)) | ((with_reducible apply t_block))) | with_reducible apply q_thenN | with_reducible apply q_blockN | exact P0 | exact Rdn.zero | apply Rdn.succ | ((with_reducible apply Norm.nil); exact rfl) | ((with_reducible apply Norm.cons); exact rfl) | ((with_reducible apply al_id); first | (apply al_done; decide +kernel) | (apply al_one 8; decide +kernel) | (apply al_one 9; decide +kernel)) | exact Nat.le_of_ble_eq_true rfl)
  all_goals (refine ⟨k + 1, ⟨by omega, hnew⟩, by omega, ?_, ?_⟩ <;> (repeat' (first | exact FrSub.nil | (apply FrSub.cons; exact rfl) | exact HpSub.refl _ | (apply HpSub.consE; (repeat (first | exact P0 | apply P1)); first | exact rfl | skip) | apply HpSub.skipX)))
theorem points62_calls (AM A : Option Addr) (m cM n cp : Nat) (L : List Lg) (w : World) (hr : RdS w 5 A n (L.map lgCells)) (hL : ∀ z ∈ L, LegOk m z) (p : Trp) (rs : List Int) (hTI : TI L m rs p) (h20 : rs.length ≤ 20) (AR : Option Addr) (nR cR : Nat) (hR : RdS w 1 AR nR (rs.map inCells)) : Calls Tryz.prog 62 #[.agg #[.slice AM m cM, .slice A n cp], .slice AR nR cR] w fun e w' => e = .returned (.int .i64 (ptN (lnG (lnL L) p.1) p.1.length 0 : Nat)) ∧ Ext w w' := by
  have hl : L.length = n := by simpa using hr.len
  have hlr : rs.length = nR := by simpa using hR.len
  have hg1 := hTI.1
  refine enterQ (c := cx w 26) Tryz.func62 rfl rfl rfl rfl ?_
  repeat' (first | ((with_reducible apply oq_id); first | (apply oq_fn; exact rfl; first | exact trivial | (refine ⟨?_, ?_⟩ <;> omega) | (refine ⟨?_, ?_, ?_⟩ <;> omega) | omega | skip)) | ((with_reducible apply tl_id); first | ((with_reducible apply tl_nil)) | ((with_reducible apply u_q); exact rfl; exact rfl; exact rfl; exact rfl) | ((with_reducible apply u_s); exact rfl; exact rfl; exact rfl)) | ((with_reducible apply os_id); first | ((with_reducible apply os_x); exact rfl)) | ((with_reducible apply ox_id); first | ((with_reducible apply ox_boxAgg); exact rfl; intro _)) | ((with_reducible apply t_id); first | ((with_reducible apply t_seq)) | (apply t_region; kernel_rfl) | ((with_reducible apply t_block))) | with_reducible apply q_thenN)
  rename_i b2
  apply t_loopP (ι := Nat) [1, 2] (fun k => [(6, .int .i64 ((k : Nat) : Int)), (5, .int .i64 ((ptN (lnG (lnL L) p.1) k 0 : Nat) : Int))]) (fun _ => [(b2, [.slice AM m cM, .slice A n cp], some (25, 2, 1))]) (fun k => k ≤ nR) (fun k => nR - k) (0)
  (repeat (first | exact KeepF.nil | (apply KeepF.cons; exact rfl) | apply KeepF.skip))
  (repeat (first | exact FrSub.nil | (apply FrSub.cons; exact rfl)))
  (try simp only [List.cons_append, List.nil_append])
  (repeat' (first | exact HpSub.refl _))
  · exact Nat.zero_le _
  rintro k hk
  try simp only [List.cons_append, List.nil_append]
  by_cases hlt : k < nR
  rotate_left
  · rw [show p.1.length = k by omega]
    repeat' (first | ((with_reducible apply oq_id); first | ((with_reducible apply oq_lssF); exact rfl; exact rfl; omega) | (apply oq_fn; exact rfl; first | exact trivial | (refine ⟨?_, ?_⟩ <;> omega) | (refine ⟨?_, ?_, ?_⟩ <;> omega) | omega | skip)) | ((with_reducible apply tl_id); first | ((with_reducible apply tl_nil)) | ((with_reducible apply u_q); exact rfl; exact rfl; exact rfl; exact rfl)) | ((with_reducible apply t_id); first | ((with_reducible apply t_seq)) | (apply t_region; kernel_rfl) | ((with_reducible apply t_condF); exact rfl) | ((with_reducible apply t_ret)) | ((with_reducible apply t_exit))) | with_reducible apply q_thenN | with_reducible apply q_thenE | ((with_reducible apply q_blockE); exact rfl) | ((with_reducible apply end_ret)) | exact rvs_nil | ((with_reducible apply rvs_cons)) | ((with_reducible apply rv_tmp); exact rfl))
    all_goals rfl
  obtain ⟨z, t, bk, x, y, l1, hri, hz, l4, l5, lcase⟩ := leg_of hTI (show k < rs.length by omega)
  obtain ⟨bR, oR, r', rfl, _, hri', e0⟩ := in_read hR hlt
  rw [hri] at hri'
  obtain rfl := Option.some.inj hri'
  have htn : t < n := by have := (List.getElem?_eq_some_iff.1 hz).1; omega
  obtain ⟨bA, oA, z', rfl, _, hz', c0, c1, c2, c3, c4⟩ := lg_read hr htn
  rw [hz] at hz'
  obtain rfl := Option.some.inj hz'
  have hzL := hL z (List.mem_of_getElem? hz)
  have hLg := fun w1 => long_calls z.a z.b z.x z.y z.h hzL.2.2.2.1 hzL.2.2.2.2.1 w1
  have lb := lenV_bound hzL.2.2.2.1 hzL.2.2.2.2.1
  obtain ⟨ln, hln⟩ := Int.eq_ofNat_of_zero_le lb.1
  rw [hln] at hLg
  have hlnG : (lnG (lnL L) p.1) k = ln := by unfold lnG; rw [l1]; show lnL L t = ln; unfold lnL; rw [hz]; show (lenV z.x z.y).toNat = ln; rw [hln]; rfl
  have hsn := ptN_snoc (ln := (lnG (lnL L) p.1)) k 0
  rw [Nat.zero_add, hlnG] at hsn
  have hpb := ptN_le (ln := (lnG (lnL L) p.1)) (fun i => by unfold lnG; split; exact Nat.zero_le _; exact lnL_le hL _) k 0
  repeat' (first | ((with_reducible apply oq_id); first | (focus ((with_reducible apply oq_indexAddrN (i := k)); exact rfl; exact rfl; exact rfl; exact rfl; omega)) | (focus ((with_reducible apply oq_indexAddrN (i := t)); exact rfl; exact rfl; exact rfl; exact rfl; omega)) | (focus ((with_reducible apply (oq_addE (k := ((ln + 1 : Nat) : Int)))); exact rfl; exact rfl; omega)) | (focus ((with_reducible apply (oq_addE (k := ((ptN (lnG (lnL L) p.1) k 0 + (ln + 1) : Nat) : Int)))); exact rfl; exact rfl; omega)) | ((with_reducible apply oq_lssT); exact rfl; exact rfl; omega) | (apply oq_fn; exact rfl; first | exact trivial | (refine ⟨?_, ?_⟩ <;> omega) | (refine ⟨?_, ?_, ?_⟩ <;> omega) | omega | skip) | ((with_reducible apply oq_load); exact rfl; exact rfl) | ((with_reducible apply oq_loadAgg); exact rfl; exact rfl) | ((with_reducible apply oq_call (k := 100) (hc := Tryz.call100)); exact rfl; exact rfl; exact fun D w1 hw1 => hLg w1)) | ((with_reducible apply tl_id); first | ((with_reducible apply tl_nil)) | ((with_reducible apply u_q); exact rfl; exact rfl; exact rfl; exact rfl)) | ((with_reducible apply gx_id); first | ((with_reducible apply v_nil)) | ((with_reducible apply v_q); exact rfl; exact rfl; exact rfl)) | ((with_reducible apply rd_id); first | (apply Rd.own; (repeat (first | exact P0 | apply P1)); exact rfl; done) | (apply Rd.old; (first | (with_reducible assumption) | exact c0 | exact c1 | exact c2 | exact c3 | exact c4 | exact c5 | exact c6 | exact c7 | exact c8 | exact d0 | exact d1 | exact d2 | exact d3 | exact d4 | exact d5); first | exact List.not_mem_nil | exact m0 | exact m1 | exact m2 | exact m3 | exact m4 | exact m5 | exact m6 | exact m7 | exact m8 | exact m9)) | ((with_reducible apply t_id); first | (apply t_mix (id := 5) [0, 1, 2, 3, 4, 5, 6, 7, 8, 9, 10, 11, 12] 0 #[false, false, false, false, false, false, false, false, false, false, false, false, false]; kernel_rfl; kernel_rfl; exact rfl) | ((with_reducible apply t_seq)) | (apply t_region; kernel_rfl) | ((with_reducible apply t_condT); exact rfl) | ((with_reducible apply t_skip)) | ((with_reducible apply t_block))) | with_reducible apply q_thenN | with_reducible apply q_blockN | exact Rdn.zero | apply Rdn.succ | ((with_reducible apply al_id); first | (apply al_done; decide +kernel)))
  all_goals (refine ⟨k + 1, by omega, by omega, ?_, ?_⟩ <;> (try rw [hsn]) <;> (repeat' (first | exact FrSub.nil | (apply FrSub.cons; exact rfl) | exact HpSub.refl _)))
theorem point64_calls (AM A : Option Addr) (m cM n cp : Nat) (L : List Lg) (w : World) (hr : RdS w 5 A n (L.map lgCells)) (hL : ∀ z ∈ L, LegOk m z) (p : Trp) (rs : List Int) (hTI : TI L m rs p) (h20 : rs.length ≤ 20) (AR : Option Addr) (nR cR : Nat) (hR : RdS w 1 AR nR (rs.map inCells)) (n0 : Nat) (hn0 : n0 ≤ 1000000000) : Calls Tryz.prog 64 #[.agg #[.slice AM m cM, .slice A n cp], .slice AR nR cR, .int .i64 (n0 : Nat)] w fun e w' => e = .returned (.agg #[.int .i64 ((ptF (lnG (lnL L) p.1) p.1.length 0 n0).1 : Nat), .int .i64 ((ptF (lnG (lnL L) p.1) p.1.length 0 n0).2 : Nat)]) ∧ Ext w w' := by
  have hl : L.length = n := by simpa using hr.len
  have hlr : rs.length = nR := by simpa using hR.len
  have hg1 := hTI.1
  rw [show p.1.length = nR by omega]
  obtain ⟨res, hres⟩ : ∃ res, ptF (lnG (lnL L) p.1) nR 0 n0 = res := ⟨_, rfl⟩
  rw [hres]
  refine enterQ (c := cx w 35) Tryz.func64 rfl rfl rfl rfl ?_
  repeat' (first | ((with_reducible apply oq_id); first | (apply oq_fn; exact rfl; first | exact trivial | (refine ⟨?_, ?_⟩ <;> omega) | (refine ⟨?_, ?_, ?_⟩ <;> omega) | omega | skip)) | ((with_reducible apply tl_id); first | ((with_reducible apply tl_nil)) | ((with_reducible apply u_q); exact rfl; exact rfl; exact rfl; exact rfl) | ((with_reducible apply u_s); exact rfl; exact rfl; exact rfl)) | ((with_reducible apply os_id); first | ((with_reducible apply os_x); exact rfl)) | ((with_reducible apply ox_id); first | ((with_reducible apply ox_alloc); exact rfl; intro _) | ((with_reducible apply ox_boxAgg); exact rfl; intro _)) | ((with_reducible apply t_id); first | ((with_reducible apply t_seq)) | (apply t_region; kernel_rfl) | ((with_reducible apply t_block))) | with_reducible apply q_thenN)
  rename_i b3 b6
  apply t_loopP (ι := Nat × Nat) [1, 3, 6] (fun z => [(7, .int .i64 ((z.1 : Nat) : Int)), (2, .int .i64 ((z.2 : Nat) : Int))]) (fun _ => [(b3, [.slice AM m cM, .slice A n cp], some (25, 2, 1)), (b6, [.int .i64 0, .int .i64 0], some (34, 2, 1))]) (fun z => z.1 ≤ nR ∧ z.2 ≤ 1000000000 ∧ ptF (lnG (lnL L) p.1) (nR - z.1) z.1 z.2 = res) (fun z => nR - z.1) ((0, n0))
  (repeat (first | exact KeepF.nil | (apply KeepF.cons; exact rfl) | apply KeepF.skip))
  (repeat (first | exact FrSub.nil | (apply FrSub.cons; exact rfl)))
  (try simp only [List.cons_append, List.nil_append])
  (repeat' (first | exact HpSub.refl _ | (apply HpSub.consE; (repeat (first | exact P0 | apply P1)); first | exact rfl | skip)))
  · exact ⟨Nat.zero_le _, hn0, hres⟩
  rintro ⟨k, me⟩ ⟨hk, hme, hck⟩
  simp only at hk hme hck
  try simp only [List.cons_append, List.nil_append]
  by_cases hlt : k < nR
  rotate_left
  · rw [show nR - k = 0 by omega] at hck
    simp only [ptF] at hck
    subst hck
    repeat' (first | ((with_reducible apply oq_id); first | ((with_reducible apply oq_lssF); exact rfl; exact rfl; omega) | (apply oq_fn; exact rfl; first | exact trivial | (refine ⟨?_, ?_⟩ <;> omega) | (refine ⟨?_, ?_, ?_⟩ <;> omega) | omega | skip) | ((with_reducible apply oq_build); exact rfl; exact rfl; exact rfl)) | ((with_reducible apply tl_id); first | ((with_reducible apply tl_nil)) | ((with_reducible apply u_q); exact rfl; exact rfl; exact rfl; exact rfl) | ((with_reducible apply u_s0); exact rfl; exact rfl)) | ((with_reducible apply os_id); first | ((with_reducible apply os_storeAgg); exact rfl; exact rfl; exact rfl; exact rfl; exact rfl)) | ((with_reducible apply rd_id); first | (apply Rd.own; (repeat (first | exact P0 | apply P1)); exact rfl; done)) | ((with_reducible apply t_id); first | ((with_reducible apply t_seq)) | (apply t_region; kernel_rfl) | ((with_reducible apply t_condF); exact rfl) | ((with_reducible apply t_ret)) | ((with_reducible apply t_exit))) | with_reducible apply q_thenN | with_reducible apply q_thenE | ((with_reducible apply q_blockE); exact rfl) | exact P0 | ((with_reducible apply P1)) | exact Rdn.zero | apply Rdn.succ | ((with_reducible apply Norm.nil); exact rfl) | ((with_reducible apply Norm.cons); exact rfl) | ((with_reducible apply end_ret)) | exact rvs_nil | ((with_reducible apply rvs_cons)) | ((with_reducible apply rv_cellAgg); exact rfl; exact rfl) | exact Nat.le_of_ble_eq_true rfl)
    all_goals rfl
  obtain ⟨z, t, bk, x, y, l1, hri, hz, l4, l5, lcase⟩ := leg_of hTI (show k < rs.length by omega)
  obtain ⟨bR, oR, r', rfl, _, hri', e0⟩ := in_read hR hlt
  rw [hri] at hri'
  obtain rfl := Option.some.inj hri'
  have htn : t < n := by have := (List.getElem?_eq_some_iff.1 hz).1; omega
  obtain ⟨bA, oA, z', rfl, _, hz', c0, c1, c2, c3, c4⟩ := lg_read hr htn
  rw [hz] at hz'
  obtain rfl := Option.some.inj hz'
  have hzL := hL z (List.mem_of_getElem? hz)
  have hLg := fun w1 => long_calls z.a z.b z.x z.y z.h hzL.2.2.2.1 hzL.2.2.2.2.1 w1
  have lb := lenV_bound hzL.2.2.2.1 hzL.2.2.2.2.1
  obtain ⟨ln, hln⟩ := Int.eq_ofNat_of_zero_le lb.1
  rw [hln] at hLg
  have hlnG : (lnG (lnL L) p.1) k = ln := by unfold lnG; rw [l1]; show lnL L t = ln; unfold lnL; rw [hz]; show (lenV z.x z.y).toNat = ln; rw [hln]; rfl
  rw [show nR - k = (nR - (k + 1)) + 1 by omega] at hck
  simp only [ptF] at hck
  rw [hlnG] at hck
  by_cases hle : me ≤ ln
  · rw [if_pos hle] at hck
    subst hck
    repeat' (first | ((with_reducible apply oq_id); first | (focus ((with_reducible apply oq_indexAddrN (i := k)); exact rfl; exact rfl; exact rfl; exact rfl; omega)) | (focus ((with_reducible apply oq_indexAddrN (i := t)); exact rfl; exact rfl; exact rfl; exact rfl; omega)) | ((with_reducible apply oq_lssT); exact rfl; exact rfl; omega) | ((with_reducible apply oq_leqT); exact rfl; exact rfl; omega) | (apply oq_fn; exact rfl; first | exact trivial | (refine ⟨?_, ?_⟩ <;> omega) | (refine ⟨?_, ?_, ?_⟩ <;> omega) | omega | skip) | ((with_reducible apply oq_load); exact rfl; exact rfl) | ((with_reducible apply oq_loadAgg); exact rfl; exact rfl) | ((with_reducible apply oq_call (k := 100) (hc := Tryz.call100)); exact rfl; exact rfl; exact fun D w1 hw1 => hLg w1) | ((with_reducible apply oq_build); exact rfl; exact rfl; exact rfl)) | ((with_reducible apply tl_id); first | ((with_reducible apply tl_nil)) | ((with_reducible apply u_q); exact rfl; exact rfl; exact rfl; exact rfl) | ((with_reducible apply u_s0); exact rfl; exact rfl)) | ((with_reducible apply gx_id); first | ((with_reducible apply v_nil)) | ((with_reducible apply v_q); exact rfl; exact rfl; exact rfl)) | ((with_reducible apply os_id); first | ((with_reducible apply os_storeAgg); exact rfl; exact rfl; exact rfl; exact rfl; exact rfl)) | ((with_reducible apply rd_id); first | (apply Rd.own; (repeat (first | exact P0 | apply P1)); exact rfl; done) | (apply Rd.old; (first | (with_reducible assumption) | exact c0 | exact c1 | exact c2 | exact c3 | exact c4 | exact c5 | exact c6 | exact c7 | exact c8 | exact d0 | exact d1 | exact d2 | exact d3 | exact d4 | exact d5); first | exact List.not_mem_nil | exact m0 | exact m1 | exact m2 | exact m3 | exact m4 | exact m5 | exact m6 | exact m7 | exact m8 | exact m9)) | ((with_reducible apply t_id); first | (apply t_mix (id := 4) [0, 1, 2, 3, 4, 5, 6, 7, 8, 9] 0 #[false, false, false, false, false, false, false, false, false, false]; kernel_rfl; kernel_rfl; exact rfl) | ((with_reducible apply t_seq)) | (apply t_region; kernel_rfl) | ((with_reducible apply t_condT); exact rfl) | ((with_reducible apply t_ret)) | ((with_reducible apply t_skip)) | ((with_reducible apply t_block))) | with_reducible apply q_thenN | with_reducible apply q_thenR | with_reducible apply q_blockR | exact P0 | ((with_reducible apply P1)) | exact Rdn.zero | apply Rdn.succ | ((with_reducible apply Norm.nil); exact rfl) | ((with_reducible apply Norm.cons); exact rfl) | ((with_reducible apply end_ret)) | exact rvs_nil | ((with_reducible apply rvs_cons)) | ((with_reducible apply rv_cellAgg); exact rfl; exact rfl) | ((with_reducible apply al_id); first | (apply al_done; decide +kernel)) | exact Nat.le_of_ble_eq_true rfl)
    all_goals rfl
  rw [if_neg hle] at hck
  repeat' (first | ((with_reducible apply oq_id); first | (focus ((with_reducible apply oq_indexAddrN (i := k)); exact rfl; exact rfl; exact rfl; exact rfl; omega)) | (focus ((with_reducible apply oq_indexAddrN (i := t)); exact rfl; exact rfl; exact rfl; exact rfl; omega)) | (focus ((with_reducible apply (oq_addE (k := ((ln + 1 : Nat) : Int)))); exact rfl; exact rfl; omega)) | (focus ((with_reducible apply (oq_subE (k := ((me - (ln + 1) : Nat) : Int)))); exact rfl; exact rfl; omega)) | ((with_reducible apply oq_lssT); exact rfl; exact rfl; omega) | ((with_reducible apply oq_leqF); exact rfl; exact rfl; omega) | (apply oq_fn; exact rfl; first | exact trivial | (refine ⟨?_, ?_⟩ <;> omega) | (refine ⟨?_, ?_, ?_⟩ <;> omega) | omega | skip) | ((with_reducible apply oq_load); exact rfl; exact rfl) | ((with_reducible apply oq_loadAgg); exact rfl; exact rfl) | ((with_reducible apply oq_call (k := 100) (hc := Tryz.call100)); exact rfl; exact rfl; exact fun D w1 hw1 => hLg w1)) | ((with_reducible apply tl_id); first | ((with_reducible apply tl_nil)) | ((with_reducible apply u_q); exact rfl; exact rfl; exact rfl; exact rfl)) | ((with_reducible apply gx_id); first | ((with_reducible apply v_nil)) | ((with_reducible apply v_q); exact rfl; exact rfl; exact rfl)) | ((with_reducible apply rd_id); first | (apply Rd.own; (repeat (first | exact P0 | apply P1)); exact rfl; done) | (apply Rd.old; (first | (with_reducible assumption) | exact c0 | exact c1 | exact c2 | exact c3 | exact c4 | exact c5 | exact c6 | exact c7 | exact c8 | exact d0 | exact d1 | exact d2 | exact d3 | exact d4 | exact d5); first | exact List.not_mem_nil | exact m0 | exact m1 | exact m2 | exact m3 | exact m4 | exact m5 | exact m6 | exact m7 | exact m8 | exact m9)) | ((with_reducible apply t_id); first | (apply t_mix (id := 4) [0, 1, 2, 3, 4, 5, 6, 7, 8, 9] 0 #[false, false, false, false, false, false, false, false, false, false]; kernel_rfl; kernel_rfl; exact rfl) | ((with_reducible apply t_seq)) | (apply t_region; kernel_rfl) | ((with_reducible apply t_condT); exact rfl) | ((with_reducible apply t_condF); exact rfl) | ((with_reducible apply t_skip)) | ((with_reducible apply t_block))) | with_reducible apply q_thenN | with_reducible apply q_blockN | exact Rdn.zero | apply Rdn.succ | ((with_reducible apply al_id); first | (apply al_done; decide +kernel)))
  all_goals (refine ⟨(k + 1, me - (ln + 1)), ⟨by simp only; omega, by simp only; omega, hck⟩, by simp only; omega, ?_, ?_⟩ <;> (repeat' (first | exact FrSub.nil | (apply FrSub.cons; exact rfl) | exact HpSub.refl _)))
theorem oq_eqB {c : Cx} {F : Fr} {H : Hp} {d : Option Tmp} {ty t t' : TypeId} {pos : String} {af : Array Edge} {g : Option (Nat × Bool)} {x y : Operand} {a b : Int} {q : Bool} (hx : ev F x = some (.int .i64 a)) (hy : ev F y = some (.int .i64 b)) (e : decide (a = b) = q) : OQ c ⟨d, .binOp .eql t x y t', ty, pos, af, g⟩ F H (.bool q) := by
  by_cases h : a = b
  · rw [decide_eq_true h] at e
    subst e
    exact oq_eqlT hx hy h
  · rw [decide_eq_false h] at e
    subst e
    exact oq_eqlF hx hy h
theorem way63_calls (AM A : Option Addr) (m cM n cp : Nat) (L : List Lg) (w : World) (hr : RdS w 5 A n (L.map lgCells)) (hn : n ≤ 1000000) (hm : m ≤ 1000000) (v q1 q2 q3 q4 : Int) (g0 g1 : Nat) (AC : Option Addr) (nC cC : Nat) (C : List Wn) (hrc : CastR w AC nC C) (hs : ∀ z ∈ C, z.n ≤ 1000000) (hp : PaceOk v q1 q2 q3 q4 g0 g1) (hcw : ∀ x ∈ C, windB x.l = true) (hnC : 1 ≤ nC ∧ nC ≤ 4) (hL : ∀ z ∈ L, LegOk m z) (p : Trp) (rs : List Int) (hTI : TI L m rs p) (h20 : rs.length ≤ 20) (AR : Option Addr) (nR cR : Nat) (hR : RdS w 1 AR nR (rs.map inCells)) (AS : Option Addr) (cS : Nat) (hS : RdS w 1 AS p.2.length ((cI p.2).map inCells)) (h me : Nat) (hh : h ≤ 1000000) (hme : ∀ x, p.1[h]? = some x → me ≤ lnL L x.1) (hme2 : me ≤ 1000000) : Calls Tryz.prog 63 #[.agg #[.slice AM m cM, .slice A n cp], .agg #[.int .i64 v, .int .i64 q1, .int .i64 q2, .int .i64 q3, .int .i64 q4, .int .i64 (g0 : Nat), .int .i64 (g1 : Nat)], .slice AC nC cC, .slice AS p.2.length cS, .slice AR nR cR, .agg #[.int .i64 (h : Nat), .int .i64 (me : Nat)]] w fun e w' => e = .returned (.tuple #[.agg ⟨[.int .i64 (((atF (bilL v q1 q2 q3 g0 g1 C L) (lnL L) p.1 h me p.1.length).1.1 : Nat) : Int), .int .i64 (((atF (bilL v q1 q2 q3 g0 g1 C L) (lnL L) p.1 h me p.1.length).1.2 : Nat) : Int)]⟩, .agg ⟨[.int .i64 (((atF (bilL v q1 q2 q3 g0 g1 C L) (lnL L) p.1 h me p.1.length).2.1.1 : Nat) : Int), .int .i64 (((atF (bilL v q1 q2 q3 g0 g1 C L) (lnL L) p.1 h me p.1.length).2.1.2 : Nat) : Int)]⟩, .agg ⟨[.int .i64 (((atF (bilL v q1 q2 q3 g0 g1 C L) (lnL L) p.1 h me p.1.length).2.2.1 : Nat) : Int), .int .i64 (((atF (bilL v q1 q2 q3 g0 g1 C L) (lnL L) p.1 h me p.1.length).2.2.2 : Nat) : Int)]⟩]) ∧ Ext w w' := by
  have hl : L.length = n := by simpa using hr.len
  have hlr : rs.length = nR := by simpa using hR.len
  have hg1 := hTI.1
  have hg2 := hTI.2.1
  have hbd := atF_bound (bil := (bilL v q1 q2 q3 g0 g1 C L)) (ln := (lnL L)) (g := p.1) (h := h) (me := me) (bilL_bound hL hp hcw) (lnL_le hL) hme2
  obtain ⟨_, _, _, _, _, kg⟩ := id hp
  have hg01 : g0 ≤ g1 ∧ g1 ≤ 1000000 := by omega
  rw [show p.1.length = nR by omega]
  refine enterQ (c := cx w 131) Tryz.func63 rfl rfl rfl rfl ?_
  repeat' (first | ((with_reducible apply oq_id); first | (apply oq_fn; exact rfl; first | exact trivial | (refine ⟨?_, ?_⟩ <;> omega) | (refine ⟨?_, ?_, ?_⟩ <;> omega) | omega | skip)) | ((with_reducible apply tl_id); first | ((with_reducible apply tl_nil)) | ((with_reducible apply u_q); exact rfl; exact rfl; exact rfl; exact rfl) | ((with_reducible apply u_s); exact rfl; exact rfl; exact rfl)) | ((with_reducible apply os_id); first | ((with_reducible apply os_x); exact rfl)) | ((with_reducible apply ox_id); first | ((with_reducible apply ox_alloc); exact rfl; intro _) | ((with_reducible apply ox_boxAgg); exact rfl; intro _)) | ((with_reducible apply t_id); first | ((with_reducible apply t_seq)) | (apply t_region; kernel_rfl) | ((with_reducible apply t_block))) | with_reducible apply q_thenN)
  rename_i b6 b7 b11 b12 b13 b14
  apply t_loopP (ι := Nat) [2, 3, 4, 6, 7, 11, 12, 13, 14] (fun k => [(15, .int .i64 ((k : Nat) : Int))]) (fun k => [(b12, [.int .i64 (((atF (bilL v q1 q2 q3 g0 g1 C L) (lnL L) p.1 h me k).1.1 : Nat) : Int), .int .i64 (((atF (bilL v q1 q2 q3 g0 g1 C L) (lnL L) p.1 h me k).1.2 : Nat) : Int)], some (27, 2, 1)), (b13, [.int .i64 (((atF (bilL v q1 q2 q3 g0 g1 C L) (lnL L) p.1 h me k).2.1.1 : Nat) : Int), .int .i64 (((atF (bilL v q1 q2 q3 g0 g1 C L) (lnL L) p.1 h me k).2.1.2 : Nat) : Int)], some (27, 2, 1)), (b14, [.int .i64 (((atF (bilL v q1 q2 q3 g0 g1 C L) (lnL L) p.1 h me k).2.2.1 : Nat) : Int), .int .i64 (((atF (bilL v q1 q2 q3 g0 g1 C L) (lnL L) p.1 h me k).2.2.2 : Nat) : Int)], some (27, 2, 1)), (b6, [.slice AM m cM, .slice A n cp], some (25, 2, 1)), (b7, [.int .i64 v, .int .i64 q1, .int .i64 q2, .int .i64 q3, .int .i64 q4, .int .i64 (g0 : Nat), .int .i64 (g1 : Nat)], some (29, 7, 1)), (b11, [.int .i64 (h : Nat), .int .i64 (me : Nat)], some (34, 2, 1))]) (fun k => k ≤ nR) (fun k => nR - k) (0)
  (repeat (first | exact KeepF.nil | (apply KeepF.cons; exact rfl) | apply KeepF.skip))
  (repeat (first | exact FrSub.nil | (apply FrSub.cons; exact rfl)))
  (try simp only [List.cons_append, List.nil_append])
  (repeat' (first | exact HpSub.refl _ | (apply HpSub.consE; (repeat (first | exact P0 | apply P1)); first | exact rfl | skip)))
  · exact Nat.zero_le _
  rintro k hk
  try simp only [List.cons_append, List.nil_append]
  by_cases hlt : k < nR
  rotate_left
  · obtain rfl : k = nR := by omega
    repeat' (first | ((with_reducible apply oq_id); first | ((with_reducible apply oq_lssF); exact rfl; exact rfl; omega) | (apply oq_fn; exact rfl; first | exact trivial | (refine ⟨?_, ?_⟩ <;> omega) | (refine ⟨?_, ?_, ?_⟩ <;> omega) | omega | skip) | ((with_reducible apply oq_loadAgg); exact rfl; exact rfl)) | ((with_reducible apply tl_id); first | ((with_reducible apply tl_nil)) | ((with_reducible apply u_q); exact rfl; exact rfl; exact rfl; exact rfl)) | ((with_reducible apply gx_id); first | ((with_reducible apply v_nil)) | ((with_reducible apply v_q); exact rfl; exact rfl; exact rfl)) | ((with_reducible apply os_id); first | ((with_reducible apply os_storeAgg); exact rfl; exact rfl; exact rfl; exact rfl; exact rfl)) | ((with_reducible apply ai_id); first | ((with_reducible apply ai_q); exact rfl; exact rfl; exact rfl; exact rfl; exact rfl) | ((with_reducible apply ai_s0); exact rfl; exact rfl; exact rfl; exact rfl)) | ((with_reducible apply rd_id); first | (apply Rd.own; (repeat (first | exact P0 | apply P1)); exact rfl; done)) | ((with_reducible apply t_id); first | (apply t_mix (id := 17) [0] 5 #[false, false, false, true, true, true]; kernel_rfl; kernel_rfl; exact rfl) | ((with_reducible apply t_seq)) | (apply t_region; kernel_rfl) | ((with_reducible apply t_condF); exact rfl) | ((with_reducible apply t_ret)) | ((with_reducible apply t_exit))) | with_reducible apply q_thenN | with_reducible apply q_thenE | ((with_reducible apply q_blockE); exact rfl) | exact P0 | ((with_reducible apply P1)) | exact Rdn.zero | apply Rdn.succ | ((with_reducible apply Norm.nil); exact rfl) | ((with_reducible apply Norm.cons); exact rfl) | ((with_reducible apply end_ret)) | exact rvs_nil | ((with_reducible apply rvs_cons)) | ((with_reducible apply rv_cellAgg); exact rfl; exact rfl) | ((with_reducible apply al_id); first | (apply al_done; decide +kernel) | (apply al_one 1; decide +kernel) | (apply al_one 2; decide +kernel) | (apply al_one 3; decide +kernel) | (apply al_one 4; decide +kernel) | (apply al_one 5; decide +kernel) | (apply al_two 1 2; decide +kernel) | (apply al_two 1 3; decide +kernel) | (apply al_two 2 3; decide +kernel) | (apply al_two 2 4; decide +kernel) | (apply al_three 1 2 3; decide +kernel)) | exact Nat.le_of_ble_eq_true rfl)
    all_goals rfl
  obtain ⟨z, t, bk, x, y, l1, hri, hz, l4, l5, lcase⟩ := leg_of hTI (show k < rs.length by omega)
  obtain ⟨bR, oR, r', rfl, _, hri', e0⟩ := in_read hR hlt
  rw [hri] at hri'
  obtain rfl := Option.some.inj hri'
  have htn : t < n := by have := (List.getElem?_eq_some_iff.1 hz).1; omega
  obtain ⟨bA, oA, z', rfl, _, hz', c0, c1, c2, c3, c4⟩ := lg_read hr htn
  rw [hz] at hz'
  obtain rfl := Option.some.inj hz'
  have hzL := hL z (List.mem_of_getElem? hz)
  have hLg := fun w1 => long_calls z.a z.b z.x z.y z.h hzL.2.2.2.1 hzL.2.2.2.2.1 w1
  have lb := lenV_bound hzL.2.2.2.1 hzL.2.2.2.2.1
  obtain ⟨ln, hln⟩ := Int.eq_ofNat_of_zero_le lb.1
  rw [hln] at hLg
  have hlnG : (lnG (lnL L) p.1) k = ln := by unfold lnG; rw [l1]; show lnL L t = ln; unfold lnL; rw [hz]; show (lenV z.x z.y).toNat = ln; rw [hln]; rfl
  obtain ⟨bS, oS, rfl, d0⟩ := st_read hS (show k < p.2.length by omega) l4
  have hway : WayIn z.x z.y := ⟨hzL.2.2.2.1, hzL.2.2.2.2.1, hzL.2.2.2.2.2.1⟩
  have HP := fun (bk : Bool) (mm : Nat) (hmm : mm ≤ 1000000) w1 (hx : Ext w w1) => refPart_calls z.a z.b z.x z.y z.h v q1 q2 q3 q4 g0 g1 mm bk AC nC cC C w1 (hrc.ext hx) hs hcw hnC hp hzL.2.2.2.2.2.2 hway hmm
  change ∀ (bk : Bool) (mm : Nat) (hmm : mm ≤ 1000000) w1 (hx : Ext w w1), Calls Tryz.prog 101 _ w1 fun e w' => e = .returned (partV (legRz v q1 q2 q3 z bk C) mm g0 g1) ∧ Ext w1 w' at HP
  have hRk := fun bk => (legRz_ok (z := z) (bk := bk) hcw hp hzL.2.2.2.2.2.2 hway).1
  have hlnL : lnL L t = ln := by unfold lnG at hlnG; rw [l1] at hlnG; exact hlnG
  have hat := atF_at (bil := (bilL v q1 q2 q3 g0 g1 C L)) (ln := (lnL L)) (h := h) (me := me) l1
  simp only [hlnL] at hat
  have hq : ∀ b' mm, (bilL v q1 q2 q3 g0 g1 C L) (t, b') mm = bilV (legRz v q1 q2 q3 z b' C) mm g0 g1 := fun b' mm => by unfold bilL; rw [hz]
  obtain ⟨⟨k1, k2⟩, ⟨k3, k4⟩, k5, k6⟩ := hbd k
  have hk20 : k ≤ 20 := by omega
  generalize (atF (bilL v q1 q2 q3 g0 g1 C L) (lnL L) p.1 h me k) = at0 at *
  obtain ⟨⟨a1, a2⟩, ⟨a3, a4⟩, a5, a6⟩ := at0
  simp only [addP] at hat k1 k2 k3 k4 k5 k6
  have HM : atM ln h me k ≤ ln := by
    unfold atM
    split
    · exact Nat.le_refl _
    · split
      · exact Nat.zero_le _
      · obtain rfl : k = h := by omega
        have := hme _ l1
        rw [hlnL] at this
        exact this
  have htb : decide (z.b = (x : Int)) = bk := by
    rcases lcase with ⟨rfl, h1, h2⟩ | ⟨rfl, h1, h2, h3⟩
    · exact decide_eq_false (fun e => hzL.2.2.1 (h1.trans e.symm))
    · exact decide_eq_true h2
  rcases Nat.lt_trichotomy k h with hc | hc | hc
  · have hM : atM ln h me k = ln := if_pos hc
    rw [hM] at hat HM
    have HA1 := HP bk ln (by omega)
    have HA2 := HP (!bk) ln (by omega)
    have HA3 := HP bk (ln - ln) (by omega)
    rw [hq bk ln, hq (!bk) ln, hq bk (ln - ln)] at hat
    obtain ⟨lo1, lf1, op1, e1⟩ := partV_form (legRz v q1 q2 q3 z bk C) ln g0 g1
    obtain ⟨lo2, lf2, op2, e2⟩ := partV_form (legRz v q1 q2 q3 z (!bk) C) ln g0 g1
    obtain ⟨lo3, lf3, op3, e3⟩ := partV_form (legRz v q1 q2 q3 z bk C) (ln - ln) g0 g1
    rw [e1] at HA1
    rw [e2] at HA2
    rw [e3] at HA3
    have hb1 := bilV_bound (me := ln) (hRk bk) (by omega) hg01
    have hb2 := bilV_bound (me := ln) (hRk (!bk)) (by omega) hg01
    have hb3 := bilV_bound (me := ln - ln) (hRk bk) (by omega) hg01
    clear e1 e2 e3
    generalize bilV (legRz v q1 q2 q3 z bk C) ln g0 g1 = w1 at *
    generalize bilV (legRz v q1 q2 q3 z (!bk) C) ln g0 g1 = w2 at *
    generalize bilV (legRz v q1 q2 q3 z bk C) (ln - ln) g0 g1 = w3 at *
    obtain ⟨u1, u2⟩ := w1
    obtain ⟨u3, u4⟩ := w2
    obtain ⟨u5, u6⟩ := w3
    simp only at HA1 HA2 HA3 hat hb1 hb2 hb3
    repeat' (first | ((with_reducible apply oq_id); first | (focus ((with_reducible apply (oq_subE (m := (ln : Int)) (n := ((ln : Nat) : Int)) (k := ((ln - ln : Nat) : Int)))); exact rfl; exact rfl; omega)) | (focus ((with_reducible apply (oq_eqB (q := bk))); exact rfl; exact rfl; exact htb)) | (focus ((with_reducible apply oq_indexAddrN (i := k)); exact rfl; exact rfl; exact rfl; exact rfl; omega)) | (focus ((with_reducible apply oq_indexAddrN (i := t)); exact rfl; exact rfl; exact rfl; exact rfl; omega)) | ((with_reducible apply oq_lssT); exact rfl; exact rfl; omega) | ((with_reducible apply oq_eqlF); exact rfl; exact rfl; omega) | (apply oq_fn; exact rfl; first | exact trivial | (refine ⟨?_, ?_⟩ <;> omega) | (refine ⟨?_, ?_, ?_⟩ <;> omega) | omega | skip) | ((with_reducible apply oq_load); exact rfl; exact rfl) | ((with_reducible apply oq_loadAgg); exact rfl; exact rfl) | ((with_reducible apply oq_call (k := 100) (hc := Tryz.call100)); exact rfl; exact rfl; exact fun D w1 hw1 => hLg w1) | ((with_reducible apply oq_call (k := 101) (hc := Tryz.call101)); exact rfl; exact rfl; exact fun D w1 hw1 => HA1 w1 hw1.ext.ext) | ((with_reducible apply oq_call (k := 101) (hc := Tryz.call101)); exact rfl; exact rfl; exact fun D w1 hw1 => HA2 w1 hw1.ext.ext) | ((with_reducible apply oq_call (k := 101) (hc := Tryz.call101)); exact rfl; exact rfl; exact fun D w1 hw1 => HA3 w1 hw1.ext.ext)) | ((with_reducible apply tl_id); first | ((with_reducible apply tl_nil)) | ((with_reducible apply u_q); exact rfl; exact rfl; exact rfl; exact rfl) | ((with_reducible apply u_s0); exact rfl; exact rfl) | ((with_reducible apply u_s); exact rfl; exact rfl; exact rfl)) | ((with_reducible apply gx_id); first | ((with_reducible apply v_nil)) | ((with_reducible apply v_q); exact rfl; exact rfl; exact rfl)) | ((with_reducible apply os_id); first | ((with_reducible apply os_x); exact rfl) | ((with_reducible apply os_storeAgg); exact rfl; exact rfl; exact rfl; exact rfl; exact rfl)) | ((with_reducible apply ox_id); first | ((with_reducible apply ox_alloc); exact rfl; intro _)) | ((with_reducible apply ai_id); first | ((with_reducible apply ai_q); exact rfl; exact rfl; exact rfl; exact rfl; exact rfl) | ((with_reducible apply ai_x); exact rfl; exact rfl; exact rfl; exact rfl; exact rfl) | ((with_reducible apply ai_n0); exact rfl; exact rfl; exact rfl)) | ((with_reducible apply al_keep); focus (repeat (first | exact HpSub.refl _ | (apply HpSub.cons; (repeat (first | exact P0 | apply P1))) | apply HpSub.skipX | exact HpSub.nil))) | ((with_reducible apply rd_id); first | (apply Rd.own; (repeat (first | exact P0 | apply P1)); exact rfl; done) | (apply Rd.old; (first | (with_reducible assumption) | exact c0 | exact c1 | exact c2 | exact c3 | exact c4 | exact c5 | exact c6 | exact c7 | exact c8 | exact d0 | exact d1 | exact d2 | exact d3 | exact d4 | exact d5); first | exact List.not_mem_nil | exact m0 | exact m1 | exact m2 | exact m3 | exact m4 | exact m5 | exact m6 | exact m7 | exact m8 | exact m9)) | ((with_reducible apply t_id); first | (with_reducible apply t_cutK (ι := (Nat × Nat)) (rid := 13) [2, 3, 4, 6, 7, 11, 12, 13, 14, 15, 19, 20, 22, 23] (fun i => [(25, .pointer (some ⟨i.1, 0, none⟩)), (26, .pointer (some ⟨i.2, 0, none⟩))]) (fun i => [(i.1, [.int .i64 (lo3 : Nat), .int .i64 (u5 : Nat)], some (27, 2, 1)), (i.2, [.int .i64 (lf3 : Nat), .int .i64 (u6 : Nat)], some (27, 2, 1))])); (repeat (first | exact KeepF.nil | (apply KeepF.cons; exact rfl) | apply KeepF.skip)) | (apply t_mix (id := 4) [0, 1, 2, 3, 4, 5, 6, 7] 2 #[false, false, false, false, false, false, false, false, false, false]; kernel_rfl; kernel_rfl; exact rfl) | (apply t_mix (id := 13) [0, 1, 2, 3, 4, 5, 6, 7, 8, 9, 10, 11, 12] 5 #[false, false, false, false, false, false, false, false, false, false, false, false, false, false, false, false, false, false]; kernel_rfl; kernel_rfl; exact rfl) | ((with_reducible apply t_seq)) | (apply t_region; kernel_rfl) | (apply t_drawn; kernel_rfl; decide +kernel; try simp only [List.append_eq, List.cons_append, List.nil_append]) | ((with_reducible apply t_condT); exact rfl) | ((with_reducible apply t_condF); exact rfl) | ((with_reducible apply t_skip)) | ((with_reducible apply t_block))) | with_reducible apply q_thenN | exact P0 | ((with_reducible apply P1)) | exact Rdn.zero | apply Rdn.succ | ((with_reducible apply Norm.nil); exact rfl) | ((with_reducible apply Norm.cons); exact rfl) | ((with_reducible apply cut_in2) <;> (repeat' (first | exact FrSub.nil | (apply FrSub.cons; exact rfl) | exact HpSub.refl _ | (apply HpSub.consE; (repeat (first | exact P0 | apply P1)); exact rfl) | apply HpSub.skipX | exact HpSub.nil))) | ((with_reducible apply al_id); first | (apply al_done; decide +kernel) | (apply al_one 8; decide +kernel) | (apply al_one 9; decide +kernel)) | ((with_reducible apply al_id); first | (apply al_one 13; decide +kernel) | (apply al_one 14; decide +kernel) | (apply al_one 15; decide +kernel) | (apply al_one 16; decide +kernel) | (apply al_one 17; decide +kernel) | (apply al_two 13 14; decide +kernel)) | exact Nat.le_of_ble_eq_true rfl)
    rintro ⟨b25, b26⟩
    try simp only [List.cons_append, List.nil_append]
    repeat' (first | ((with_reducible apply oq_id); first | (focus ((with_reducible apply (oq_addE (k := ((a1 + u1 : Nat) : Int)))); exact rfl; exact rfl; omega)) | (focus ((with_reducible apply (oq_addE (k := ((a2 + u2 : Nat) : Int)))); exact rfl; exact rfl; omega)) | (focus ((with_reducible apply (oq_addE (k := ((a3 + u3 : Nat) : Int)))); exact rfl; exact rfl; omega)) | (focus ((with_reducible apply (oq_addE (k := ((a4 + u4 : Nat) : Int)))); exact rfl; exact rfl; omega)) | (focus ((with_reducible apply (oq_addE (k := ((a5 + u5 : Nat) : Int)))); exact rfl; exact rfl; omega)) | (focus ((with_reducible apply (oq_addE (k := ((a6 + u6 : Nat) : Int)))); exact rfl; exact rfl; omega)) | (apply oq_fn; exact rfl; first | exact trivial | (refine ⟨?_, ?_⟩ <;> omega) | (refine ⟨?_, ?_, ?_⟩ <;> omega) | omega | skip) | ((with_reducible apply oq_load); exact rfl; exact rfl) | ((with_reducible apply oq_build); exact rfl; exact rfl; exact rfl)) | ((with_reducible apply tl_id); first | ((with_reducible apply tl_nil)) | ((with_reducible apply u_q); exact rfl; exact rfl; exact rfl; exact rfl) | ((with_reducible apply u_s0); exact rfl; exact rfl)) | ((with_reducible apply os_id); first | ((with_reducible apply os_storeAgg); exact rfl; exact rfl; exact rfl; exact rfl; exact rfl)) | ((with_reducible apply rd_id); first | (apply Rd.own; (repeat (first | exact P0 | apply P1)); exact rfl; done)) | ((with_reducible apply t_id); first | ((with_reducible apply t_seq)) | (apply t_region; kernel_rfl)) | with_reducible apply q_thenN | with_reducible apply q_blockN | exact P0 | ((with_reducible apply P1)) | ((with_reducible apply Norm.nil); exact rfl) | ((with_reducible apply Norm.cons); exact rfl) | exact Nat.le_of_ble_eq_true rfl)
    all_goals (refine ⟨k + 1, by omega, by omega, ?_, ?_⟩ <;> (try rw [hat]) <;> (repeat' (first | exact FrSub.nil | (apply FrSub.cons; exact rfl) | exact HpSub.refl _ | (apply HpSub.consE; (repeat (first | exact P0 | apply P1)); first | exact rfl | skip) | apply HpSub.skipX)))
  · have hM : atM ln h me k = me := (by unfold atM; rw [if_neg (by omega), if_neg (by omega)])
    rw [hM] at hat HM
    have HA1 := HP bk me (by omega)
    have HA2 := HP (!bk) me (by omega)
    have HA3 := HP bk (ln - me) (by omega)
    rw [hq bk me, hq (!bk) me, hq bk (ln - me)] at hat
    obtain ⟨lo1, lf1, op1, e1⟩ := partV_form (legRz v q1 q2 q3 z bk C) me g0 g1
    obtain ⟨lo2, lf2, op2, e2⟩ := partV_form (legRz v q1 q2 q3 z (!bk) C) me g0 g1
    obtain ⟨lo3, lf3, op3, e3⟩ := partV_form (legRz v q1 q2 q3 z bk C) (ln - me) g0 g1
    rw [e1] at HA1
    rw [e2] at HA2
    rw [e3] at HA3
    have hb1 := bilV_bound (me := me) (hRk bk) (by omega) hg01
    have hb2 := bilV_bound (me := me) (hRk (!bk)) (by omega) hg01
    have hb3 := bilV_bound (me := ln - me) (hRk bk) (by omega) hg01
    clear e1 e2 e3
    generalize bilV (legRz v q1 q2 q3 z bk C) me g0 g1 = w1 at *
    generalize bilV (legRz v q1 q2 q3 z (!bk) C) me g0 g1 = w2 at *
    generalize bilV (legRz v q1 q2 q3 z bk C) (ln - me) g0 g1 = w3 at *
    obtain ⟨u1, u2⟩ := w1
    obtain ⟨u3, u4⟩ := w2
    obtain ⟨u5, u6⟩ := w3
    simp only at HA1 HA2 HA3 hat hb1 hb2 hb3
    repeat' (first | ((with_reducible apply oq_id); first | (focus ((with_reducible apply (oq_subE (m := (ln : Int)) (n := ((me : Nat) : Int)) (k := ((ln - me : Nat) : Int)))); exact rfl; exact rfl; omega)) | (focus ((with_reducible apply (oq_eqB (q := bk))); exact rfl; exact rfl; exact htb)) | (focus ((with_reducible apply oq_indexAddrN (i := k)); exact rfl; exact rfl; exact rfl; exact rfl; omega)) | (focus ((with_reducible apply oq_indexAddrN (i := t)); exact rfl; exact rfl; exact rfl; exact rfl; omega)) | ((with_reducible apply oq_lssT); exact rfl; exact rfl; omega) | ((with_reducible apply oq_lssF); exact rfl; exact rfl; omega) | ((with_reducible apply oq_eqlT); exact rfl; exact rfl; omega) | (apply oq_fn; exact rfl; first | exact trivial | (refine ⟨?_, ?_⟩ <;> omega) | (refine ⟨?_, ?_, ?_⟩ <;> omega) | omega | skip) | ((with_reducible apply oq_load); exact rfl; exact rfl) | ((with_reducible apply oq_loadAgg); exact rfl; exact rfl) | ((with_reducible apply oq_call (k := 100) (hc := Tryz.call100)); exact rfl; exact rfl; exact fun D w1 hw1 => hLg w1) | ((with_reducible apply oq_call (k := 101) (hc := Tryz.call101)); exact rfl; exact rfl; exact fun D w1 hw1 => HA1 w1 hw1.ext.ext) | ((with_reducible apply oq_call (k := 101) (hc := Tryz.call101)); exact rfl; exact rfl; exact fun D w1 hw1 => HA2 w1 hw1.ext.ext) | ((with_reducible apply oq_call (k := 101) (hc := Tryz.call101)); exact rfl; exact rfl; exact fun D w1 hw1 => HA3 w1 hw1.ext.ext)) | ((with_reducible apply tl_id); first | ((with_reducible apply tl_nil)) | ((with_reducible apply u_q); exact rfl; exact rfl; exact rfl; exact rfl) | ((with_reducible apply u_s0); exact rfl; exact rfl) | ((with_reducible apply u_s); exact rfl; exact rfl; exact rfl)) | ((with_reducible apply gx_id); first | ((with_reducible apply v_nil)) | ((with_reducible apply v_q); exact rfl; exact rfl; exact rfl)) | ((with_reducible apply os_id); first | ((with_reducible apply os_x); exact rfl) | ((with_reducible apply os_storeAgg); exact rfl; exact rfl; exact rfl; exact rfl; exact rfl)) | ((with_reducible apply ox_id); first | ((with_reducible apply ox_alloc); exact rfl; intro _)) | ((with_reducible apply ai_id); first | ((with_reducible apply ai_q); exact rfl; exact rfl; exact rfl; exact rfl; exact rfl) | ((with_reducible apply ai_x); exact rfl; exact rfl; exact rfl; exact rfl; exact rfl) | ((with_reducible apply ai_n0); exact rfl; exact rfl; exact rfl)) | ((with_reducible apply al_keep); focus (repeat (first | exact HpSub.refl _ | (apply HpSub.cons; (repeat (first | exact P0 | apply P1))) | apply HpSub.skipX | exact HpSub.nil))) | ((with_reducible apply rd_id); first | (apply Rd.own; (repeat (first | exact P0 | apply P1)); exact rfl; done) | (apply Rd.old; (first | (with_reducible assumption) | exact c0 | exact c1 | exact c2 | exact c3 | exact c4 | exact c5 | exact c6 | exact c7 | exact c8 | exact d0 | exact d1 | exact d2 | exact d3 | exact d4 | exact d5); first | exact List.not_mem_nil | exact m0 | exact m1 | exact m2 | exact m3 | exact m4 | exact m5 | exact m6 | exact m7 | exact m8 | exact m9)) | ((with_reducible apply t_id); first | (with_reducible apply t_cutK (ι := (Nat × Nat)) (rid := 13) [2, 3, 4, 6, 7, 11, 12, 13, 14, 15, 19, 20, 22, 23] (fun i => [(25, .pointer (some ⟨i.1, 0, none⟩)), (26, .pointer (some ⟨i.2, 0, none⟩))]) (fun i => [(i.1, [.int .i64 (lo3 : Nat), .int .i64 (u5 : Nat)], some (27, 2, 1)), (i.2, [.int .i64 (lf3 : Nat), .int .i64 (u6 : Nat)], some (27, 2, 1))])); (repeat (first | exact KeepF.nil | (apply KeepF.cons; exact rfl) | apply KeepF.skip)) | (apply t_mix (id := 4) [0, 1, 2, 3, 4, 5, 6, 7] 2 #[false, false, false, false, false, false, false, false, false, false]; kernel_rfl; kernel_rfl; exact rfl) | (apply t_mix (id := 13) [0, 1, 2, 3, 4, 5, 6, 7, 8, 9, 10, 11, 12] 5 #[false, false, false, false, false, false, false, false, false, false, false, false, false, false, false, false, false, false]; kernel_rfl; kernel_rfl; exact rfl) | ((with_reducible apply t_seq)) | (apply t_region; kernel_rfl) | (apply t_drawn; kernel_rfl; decide +kernel; try simp only [List.append_eq, List.cons_append, List.nil_append]) | ((with_reducible apply t_condT); exact rfl) | ((with_reducible apply t_condF); exact rfl) | ((with_reducible apply t_skip)) | ((with_reducible apply t_block))) | with_reducible apply q_thenN | exact P0 | ((with_reducible apply P1)) | exact Rdn.zero | apply Rdn.succ | ((with_reducible apply Norm.nil); exact rfl) | ((with_reducible apply Norm.cons); exact rfl) | ((with_reducible apply cut_in2) <;> (repeat' (first | exact FrSub.nil | (apply FrSub.cons; exact rfl) | exact HpSub.refl _ | (apply HpSub.consE; (repeat (first | exact P0 | apply P1)); exact rfl) | apply HpSub.skipX | exact HpSub.nil))) | ((with_reducible apply al_id); first | (apply al_done; decide +kernel) | (apply al_one 8; decide +kernel) | (apply al_one 9; decide +kernel)) | ((with_reducible apply al_id); first | (apply al_one 13; decide +kernel) | (apply al_one 14; decide +kernel) | (apply al_one 15; decide +kernel) | (apply al_one 16; decide +kernel) | (apply al_one 17; decide +kernel) | (apply al_two 13 14; decide +kernel)) | exact Nat.le_of_ble_eq_true rfl)
    rintro ⟨b25, b26⟩
    try simp only [List.cons_append, List.nil_append]
    repeat' (first | ((with_reducible apply oq_id); first | (focus ((with_reducible apply (oq_addE (k := ((a1 + u1 : Nat) : Int)))); exact rfl; exact rfl; omega)) | (focus ((with_reducible apply (oq_addE (k := ((a2 + u2 : Nat) : Int)))); exact rfl; exact rfl; omega)) | (focus ((with_reducible apply (oq_addE (k := ((a3 + u3 : Nat) : Int)))); exact rfl; exact rfl; omega)) | (focus ((with_reducible apply (oq_addE (k := ((a4 + u4 : Nat) : Int)))); exact rfl; exact rfl; omega)) | (focus ((with_reducible apply (oq_addE (k := ((a5 + u5 : Nat) : Int)))); exact rfl; exact rfl; omega)) | (focus ((with_reducible apply (oq_addE (k := ((a6 + u6 : Nat) : Int)))); exact rfl; exact rfl; omega)) | (apply oq_fn; exact rfl; first | exact trivial | (refine ⟨?_, ?_⟩ <;> omega) | (refine ⟨?_, ?_, ?_⟩ <;> omega) | omega | skip) | ((with_reducible apply oq_load); exact rfl; exact rfl) | ((with_reducible apply oq_build); exact rfl; exact rfl; exact rfl)) | ((with_reducible apply tl_id); first | ((with_reducible apply tl_nil)) | ((with_reducible apply u_q); exact rfl; exact rfl; exact rfl; exact rfl) | ((with_reducible apply u_s0); exact rfl; exact rfl)) | ((with_reducible apply os_id); first | ((with_reducible apply os_storeAgg); exact rfl; exact rfl; exact rfl; exact rfl; exact rfl)) | ((with_reducible apply rd_id); first | (apply Rd.own; (repeat (first | exact P0 | apply P1)); exact rfl; done)) | ((with_reducible apply t_id); first | ((with_reducible apply t_seq)) | (apply t_region; kernel_rfl)) | with_reducible apply q_thenN | with_reducible apply q_blockN | exact P0 | ((with_reducible apply P1)) | ((with_reducible apply Norm.nil); exact rfl) | ((with_reducible apply Norm.cons); exact rfl) | exact Nat.le_of_ble_eq_true rfl)
    all_goals (refine ⟨k + 1, by omega, by omega, ?_, ?_⟩ <;> (try rw [hat]) <;> (repeat' (first | exact FrSub.nil | (apply FrSub.cons; exact rfl) | exact HpSub.refl _ | (apply HpSub.consE; (repeat (first | exact P0 | apply P1)); first | exact rfl | skip) | apply HpSub.skipX)))
  · have hM : atM ln h me k = 0 := (by unfold atM; rw [if_neg (by omega), if_pos hc])
    rw [hM] at hat HM
    have HA1 := HP bk 0 (by omega)
    have HA2 := HP (!bk) 0 (by omega)
    have HA3 := HP bk (ln - 0) (by omega)
    rw [hq bk 0, hq (!bk) 0, hq bk (ln - 0)] at hat
    obtain ⟨lo1, lf1, op1, e1⟩ := partV_form (legRz v q1 q2 q3 z bk C) 0 g0 g1
    obtain ⟨lo2, lf2, op2, e2⟩ := partV_form (legRz v q1 q2 q3 z (!bk) C) 0 g0 g1
    obtain ⟨lo3, lf3, op3, e3⟩ := partV_form (legRz v q1 q2 q3 z bk C) (ln - 0) g0 g1
    rw [e1] at HA1
    rw [e2] at HA2
    rw [e3] at HA3
    have hb1 := bilV_bound (me := 0) (hRk bk) (by omega) hg01
    have hb2 := bilV_bound (me := 0) (hRk (!bk)) (by omega) hg01
    have hb3 := bilV_bound (me := ln - 0) (hRk bk) (by omega) hg01
    clear e1 e2 e3
    generalize bilV (legRz v q1 q2 q3 z bk C) 0 g0 g1 = w1 at *
    generalize bilV (legRz v q1 q2 q3 z (!bk) C) 0 g0 g1 = w2 at *
    generalize bilV (legRz v q1 q2 q3 z bk C) (ln - 0) g0 g1 = w3 at *
    obtain ⟨u1, u2⟩ := w1
    obtain ⟨u3, u4⟩ := w2
    obtain ⟨u5, u6⟩ := w3
    simp only at HA1 HA2 HA3 hat hb1 hb2 hb3
    repeat' (first | ((with_reducible apply oq_id); first | (focus ((with_reducible apply (oq_subE (m := (ln : Int)) (n := ((0 : Nat) : Int)) (k := ((ln - 0 : Nat) : Int)))); exact rfl; exact rfl; omega)) | (focus ((with_reducible apply (oq_eqB (q := bk))); exact rfl; exact rfl; exact htb)) | (focus ((with_reducible apply oq_indexAddrN (i := k)); exact rfl; exact rfl; exact rfl; exact rfl; omega)) | (focus ((with_reducible apply oq_indexAddrN (i := t)); exact rfl; exact rfl; exact rfl; exact rfl; omega)) | ((with_reducible apply oq_lssT); exact rfl; exact rfl; omega) | ((with_reducible apply oq_lssF); exact rfl; exact rfl; omega) | ((with_reducible apply oq_eqlF); exact rfl; exact rfl; omega) | (apply oq_fn; exact rfl; first | exact trivial | (refine ⟨?_, ?_⟩ <;> omega) | (refine ⟨?_, ?_, ?_⟩ <;> omega) | omega | skip) | ((with_reducible apply oq_load); exact rfl; exact rfl) | ((with_reducible apply oq_loadAgg); exact rfl; exact rfl) | ((with_reducible apply oq_call (k := 100) (hc := Tryz.call100)); exact rfl; exact rfl; exact fun D w1 hw1 => hLg w1) | ((with_reducible apply oq_call (k := 101) (hc := Tryz.call101)); exact rfl; exact rfl; exact fun D w1 hw1 => HA1 w1 hw1.ext.ext) | ((with_reducible apply oq_call (k := 101) (hc := Tryz.call101)); exact rfl; exact rfl; exact fun D w1 hw1 => HA2 w1 hw1.ext.ext) | ((with_reducible apply oq_call (k := 101) (hc := Tryz.call101)); exact rfl; exact rfl; exact fun D w1 hw1 => HA3 w1 hw1.ext.ext)) | ((with_reducible apply tl_id); first | ((with_reducible apply tl_nil)) | ((with_reducible apply u_q); exact rfl; exact rfl; exact rfl; exact rfl) | ((with_reducible apply u_s0); exact rfl; exact rfl) | ((with_reducible apply u_s); exact rfl; exact rfl; exact rfl)) | ((with_reducible apply gx_id); first | ((with_reducible apply v_nil)) | ((with_reducible apply v_q); exact rfl; exact rfl; exact rfl)) | ((with_reducible apply os_id); first | ((with_reducible apply os_x); exact rfl) | ((with_reducible apply os_storeAgg); exact rfl; exact rfl; exact rfl; exact rfl; exact rfl)) | ((with_reducible apply ox_id); first | ((with_reducible apply ox_alloc); exact rfl; intro _)) | ((with_reducible apply ai_id); first | ((with_reducible apply ai_q); exact rfl; exact rfl; exact rfl; exact rfl; exact rfl) | ((with_reducible apply ai_x); exact rfl; exact rfl; exact rfl; exact rfl; exact rfl) | ((with_reducible apply ai_n0); exact rfl; exact rfl; exact rfl)) | ((with_reducible apply al_keep); focus (repeat (first | exact HpSub.refl _ | (apply HpSub.cons; (repeat (first | exact P0 | apply P1))) | apply HpSub.skipX | exact HpSub.nil))) | ((with_reducible apply rd_id); first | (apply Rd.own; (repeat (first | exact P0 | apply P1)); exact rfl; done) | (apply Rd.old; (first | (with_reducible assumption) | exact c0 | exact c1 | exact c2 | exact c3 | exact c4 | exact c5 | exact c6 | exact c7 | exact c8 | exact d0 | exact d1 | exact d2 | exact d3 | exact d4 | exact d5); first | exact List.not_mem_nil | exact m0 | exact m1 | exact m2 | exact m3 | exact m4 | exact m5 | exact m6 | exact m7 | exact m8 | exact m9)) | ((with_reducible apply t_id); first | (with_reducible apply t_cutK (ι := (Nat × Nat)) (rid := 13) [2, 3, 4, 6, 7, 11, 12, 13, 14, 15, 19, 20, 22, 23] (fun i => [(25, .pointer (some ⟨i.1, 0, none⟩)), (26, .pointer (some ⟨i.2, 0, none⟩))]) (fun i => [(i.1, [.int .i64 (lo3 : Nat), .int .i64 (u5 : Nat)], some (27, 2, 1)), (i.2, [.int .i64 (lf3 : Nat), .int .i64 (u6 : Nat)], some (27, 2, 1))])); (repeat (first | exact KeepF.nil | (apply KeepF.cons; exact rfl) | apply KeepF.skip)) | (apply t_mix (id := 4) [0, 1, 2, 3, 4, 5, 6, 7] 2 #[false, false, false, false, false, false, false, false, false, false]; kernel_rfl; kernel_rfl; exact rfl) | (apply t_mix (id := 13) [0, 1, 2, 3, 4, 5, 6, 7, 8, 9, 10, 11, 12] 5 #[false, false, false, false, false, false, false, false, false, false, false, false, false, false, false, false, false, false]; kernel_rfl; kernel_rfl; exact rfl) | ((with_reducible apply t_seq)) | (apply t_region; kernel_rfl) | (apply t_drawn; kernel_rfl; decide +kernel; try simp only [List.append_eq, List.cons_append, List.nil_append]) | ((with_reducible apply t_condT); exact rfl) | ((with_reducible apply t_condF); exact rfl) | ((with_reducible apply t_skip)) | ((with_reducible apply t_block))) | with_reducible apply q_thenN | exact P0 | ((with_reducible apply P1)) | exact Rdn.zero | apply Rdn.succ | ((with_reducible apply Norm.nil); exact rfl) | ((with_reducible apply Norm.cons); exact rfl) | ((with_reducible apply cut_in2) <;> (repeat' (first | exact FrSub.nil | (apply FrSub.cons; exact rfl) | exact HpSub.refl _ | (apply HpSub.consE; (repeat (first | exact P0 | apply P1)); exact rfl) | apply HpSub.skipX | exact HpSub.nil))) | ((with_reducible apply al_id); first | (apply al_done; decide +kernel) | (apply al_one 8; decide +kernel) | (apply al_one 9; decide +kernel)) | ((with_reducible apply al_id); first | (apply al_one 13; decide +kernel) | (apply al_one 14; decide +kernel) | (apply al_one 15; decide +kernel) | (apply al_one 16; decide +kernel) | (apply al_one 17; decide +kernel) | (apply al_two 13 14; decide +kernel)) | exact Nat.le_of_ble_eq_true rfl)
    rintro ⟨b25, b26⟩
    try simp only [List.cons_append, List.nil_append]
    repeat' (first | ((with_reducible apply oq_id); first | (focus ((with_reducible apply (oq_addE (k := ((a1 + u1 : Nat) : Int)))); exact rfl; exact rfl; omega)) | (focus ((with_reducible apply (oq_addE (k := ((a2 + u2 : Nat) : Int)))); exact rfl; exact rfl; omega)) | (focus ((with_reducible apply (oq_addE (k := ((a3 + u3 : Nat) : Int)))); exact rfl; exact rfl; omega)) | (focus ((with_reducible apply (oq_addE (k := ((a4 + u4 : Nat) : Int)))); exact rfl; exact rfl; omega)) | (focus ((with_reducible apply (oq_addE (k := ((a5 + u5 : Nat) : Int)))); exact rfl; exact rfl; omega)) | (focus ((with_reducible apply (oq_addE (k := ((a6 + u6 : Nat) : Int)))); exact rfl; exact rfl; omega)) | (apply oq_fn; exact rfl; first | exact trivial | (refine ⟨?_, ?_⟩ <;> omega) | (refine ⟨?_, ?_, ?_⟩ <;> omega) | omega | skip) | ((with_reducible apply oq_load); exact rfl; exact rfl) | ((with_reducible apply oq_build); exact rfl; exact rfl; exact rfl)) | ((with_reducible apply tl_id); first | ((with_reducible apply tl_nil)) | ((with_reducible apply u_q); exact rfl; exact rfl; exact rfl; exact rfl) | ((with_reducible apply u_s0); exact rfl; exact rfl)) | ((with_reducible apply os_id); first | ((with_reducible apply os_storeAgg); exact rfl; exact rfl; exact rfl; exact rfl; exact rfl)) | ((with_reducible apply rd_id); first | (apply Rd.own; (repeat (first | exact P0 | apply P1)); exact rfl; done)) | ((with_reducible apply t_id); first | ((with_reducible apply t_seq)) | (apply t_region; kernel_rfl)) | with_reducible apply q_thenN | with_reducible apply q_blockN | exact P0 | ((with_reducible apply P1)) | ((with_reducible apply Norm.nil); exact rfl) | ((with_reducible apply Norm.cons); exact rfl) | exact Nat.le_of_ble_eq_true rfl)
    all_goals (refine ⟨k + 1, by omega, by omega, ?_, ?_⟩ <;> (try rw [hat]) <;> (repeat' (first | exact FrSub.nil | (apply FrSub.cons; exact rfl) | exact HpSub.refl _ | (apply HpSub.consE; (repeat (first | exact P0 | apply P1)); first | exact rfl | skip) | apply HpSub.skipX)))
theorem oq_quo2 {c : Cx} {F : Fr} {H : Hp} {d : Option Tmp} {ty t t' : TypeId} {pos : String} {af : Array Edge} {g : Option (Nat × Bool)} {x y : Operand} {a : Nat} {m : Int} (hx : ev F x = some (.int .i64 m)) (hy : ev F y = some (.int .i64 2)) (e : m = (a : Int) ∧ a ≤ 1000000000) : OQ c ⟨d, .binOp .quo t x y t', ty, pos, af, g⟩ F H (.int .i64 ((a / 2 : Nat) : Int)) := by
  obtain ⟨rfl, h⟩ := e
  have e1 : ((a : Nat) : Int).tdiv 2 = ((a / 2 : Nat) : Int) := by
    rw [Int.tdiv_eq_ediv_of_nonneg (by omega)]
    omega
  exact (oq_quo hx hy (by decide) (by rw [e1]; exact ⟨by omega, by omega⟩)).as (by rw [e1])
theorem lnG_at {ln : Nat → Nat} {g : List (Nat × Bool)} {i : Nat} {x : Nat × Bool} (h : g[i]? = some x) : lnG ln g i = ln x.1 := by unfold lnG; rw [h]
theorem tHi_zero {r : Int × Int} (h : RtOk r) : tHi 0 r = 0 ∧ tLo 0 r = 0 := by
  obtain ⟨h1, h2, h3⟩ := h
  unfold tHi tLo
  exact ⟨Nat.div_eq_of_lt (by omega), by simp⟩
theorem hull_zero : ∀ (l : List (Int × Int)), (∀ r ∈ l, RtOk r) → l.foldl (fun a r => (min a.1 (tLo 0 r), max a.2 (tHi 0 r))) (0, 0) = (0, 0)
  | [], _ => rfl
  | r :: l, h => by
    obtain ⟨h1, h2⟩ := tHi_zero (h r (List.mem_cons_self ..))
    rw [List.foldl_cons, h1, h2]
    exact hull_zero l (fun r hr => h r (List.mem_cons_of_mem _ hr))
theorem aH_zero {c d : Nat} : ∀ k, aH 0 0 c d k = 0
  | 0 => by simp [aH, qc]
  | k + 1 => by
    simp only [aH, aH_zero k]
    unfold prN qc
    simp
theorem bilV_zero {R : List (Int × Int)} {g0 g1 : Nat} (h : ∀ r ∈ R, RtOk r) : bilV R 0 g0 g1 = (0, 0) := by
  unfold bilV
  split
  · rfl
  · have hz : hullT 0 R = (0, 0) := by
      cases R with
      | nil => rfl
      | cons r l =>
        obtain ⟨h1, h2⟩ := tHi_zero (h r (List.mem_cons_self ..))
        show l.foldl _ (tLo 0 r, tHi 0 r) = _
        rw [h1, h2]
        exact hull_zero l (fun r hr => h r (List.mem_cons_of_mem _ hr))
    rw [hz]
    simp only [aH_zero]
theorem atF_zero {bil : Nat × Bool → Nat → Nat × Nat} {ln : Nat → Nat} {g : List (Nat × Bool)} (hb : ∀ x, bil x 0 = (0, 0)) : ∀ k, (atF bil ln g 0 0 k).1 = (0, 0) ∧ (atF bil ln g 0 0 k).2.1 = (0, 0)
  | 0 => ⟨rfl, rfl⟩
  | k + 1 => by
    obtain ⟨h1, h2⟩ := atF_zero (k := k) hb
    simp only [atF]
    split
    · exact ⟨h1, h2⟩
    · rename_i x hx
      have hm : atM (ln x.1) 0 0 k = 0 := by unfold atM; (repeat' split) <;> omega
      simp [hm, hb, h1, h2, addP]
theorem lstP_never {hp : Nat → Nat → Bool} {ln : Nat → Nat} (h : ∀ i, hp i 0 = false) : ∀ t, lstP hp ln t = none
  | 0 => rfl
  | t + 1 => by simp only [lstP]; rw [h t, if_neg (by decide)]; exact lstP_never h t
theorem las_none {FC : Nat × Bool → Int} {g : List (Nat × Bool)} {hp : Nat → Nat → Bool} {ln : Nat → Nat} (hg : g ≠ []) (ho : opB FC g = true) : lasR g (opB FC g) hp ln = match lstP hp ln g.length with | none => ((0, 0), 64) | some x => (x, 0) := by
  unfold lasR
  rw [if_neg hg, ho, if_neg (by decide)]
  cases lstP hp ln g.length <;> rfl
theorem refNoret_err (AM A : Option Addr) (m cM n cp : Nat) (L : List Lg) (w : World) (hr : RdS w 5 A n (L.map lgCells)) (hn : n ≤ 1000000) (hm : m ≤ 1000000) (v q1 q2 q3 q4 g0 g1 : Int) (AC : Option Addr) (nC cC : Nat) (C : List Wn) (hrc : CastR w AC nC C) (hs : ∀ z ∈ C, z.n ≤ 1000000) (s : Int) (AR : Option Addr) (nR cR : Nat) (rs : List Int) (hR : RdS w 1 AR nR (rs.map inCells)) (hnR : nR ≤ 1000000) (he : ledE m L v q1 q2 q3 q4 g0 g1 C s rs ≠ 0) (fu : Int) : Calls Tryz.prog 17 #[.agg #[.slice AM m cM, .slice A n cp], .agg #[.int .i64 v, .int .i64 q1, .int .i64 q2, .int .i64 q3, .int .i64 q4, .int .i64 g0, .int .i64 g1], .slice AC nC cC, .int .i64 s, .slice AR nR cR, .int .i64 fu] w fun e w' => e = .returned (.tuple #[.agg #[.int .i64 0, .int .i64 0], .int .i64 (ledE m L v q1 q2 q3 q4 g0 g1 C s rs)]) ∧ Ext w w' := by
  have HN := fun w1 (hx : Ext w w1) => led60_err AM A m cM n cp L w1 (hr.ext hx) hn hm v q1 q2 q3 q4 g0 g1 AC nC cC C (hrc.ext hx) hs s AR nR cR rs (hR.ext hx) hnR he
  generalize ledE m L v q1 q2 q3 q4 g0 g1 C s rs = e0 at *
  refine enterQ (c := cx w 95) Tryz.func17 rfl rfl rfl rfl ?_
  repeat' (first | ((with_reducible apply oq_id); first | ((with_reducible apply oq_neqT); exact rfl; exact rfl; omega) | (apply oq_fn; exact rfl; first | exact trivial | (refine ⟨?_, ?_⟩ <;> omega) | (refine ⟨?_, ?_, ?_⟩ <;> omega) | omega | skip) | ((with_reducible apply oq_loadAgg); exact rfl; exact rfl) | ((with_reducible apply oq_call (k := 60) (hc := Tryz.call60)); exact rfl; exact rfl; exact fun D w1 hw1 => HN w1 hw1.ext.ext) | ((with_reducible apply oq_build); exact rfl; exact rfl; exact rfl)) | ((with_reducible apply tl_id); first | ((with_reducible apply tl_nil)) | ((with_reducible apply u_q); exact rfl; exact rfl; exact rfl; exact rfl) | ((with_reducible apply u_s0); exact rfl; exact rfl) | ((with_reducible apply u_s); exact rfl; exact rfl; exact rfl)) | ((with_reducible apply os_id); first | ((with_reducible apply os_x); exact rfl) | ((with_reducible apply os_storeAgg); exact rfl; exact rfl; exact rfl; exact rfl; exact rfl)) | ((with_reducible apply ox_id); first | ((with_reducible apply ox_alloc); exact rfl; intro _) | ((with_reducible apply ox_boxAgg); exact rfl; intro _)) | ((with_reducible apply rd_id); first | (apply Rd.own; (repeat (first | exact P0 | apply P1)); exact rfl; done)) | ((with_reducible apply t_id); first | ((with_reducible apply t_seq)) | (apply t_region; kernel_rfl) | ((with_reducible apply t_condT); exact rfl) | ((with_reducible apply t_ret))) | with_reducible apply q_thenN | with_reducible apply q_thenR | exact P0 | exact Rdn.zero | apply Rdn.succ | ((with_reducible apply Norm.nil); exact rfl) | ((with_reducible apply Norm.cons); exact rfl) | ((with_reducible apply end_ret)) | exact rvs_nil | ((with_reducible apply rvs_cons)) | ((with_reducible apply rv_tmp); exact rfl) | ((with_reducible apply rv_cellAgg); exact rfl; exact rfl) | exact Nat.le_of_ble_eq_true rfl)
  all_goals rfl
theorem refEqual_err (AM A : Option Addr) (m cM n cp : Nat) (L : List Lg) (w : World) (hr : RdS w 5 A n (L.map lgCells)) (hn : n ≤ 1000000) (hm : m ≤ 1000000) (v q1 q2 q3 q4 g0 g1 : Int) (AC : Option Addr) (nC cC : Nat) (C : List Wn) (hrc : CastR w AC nC C) (hs : ∀ z ∈ C, z.n ≤ 1000000) (s : Int) (AR : Option Addr) (nR cR : Nat) (rs : List Int) (hR : RdS w 1 AR nR (rs.map inCells)) (hnR : nR ≤ 1000000) (he : ledE m L v q1 q2 q3 q4 g0 g1 C s rs ≠ 0) : Calls Tryz.prog 19 #[.agg #[.slice AM m cM, .slice A n cp], .agg #[.int .i64 v, .int .i64 q1, .int .i64 q2, .int .i64 q3, .int .i64 q4, .int .i64 g0, .int .i64 g1], .slice AC nC cC, .int .i64 s, .slice AR nR cR] w fun e w' => e = .returned (.tuple #[.agg #[.int .i64 0, .int .i64 0], .int .i64 (ledE m L v q1 q2 q3 q4 g0 g1 C s rs)]) ∧ Ext w w' := by
  have HN := fun w1 (hx : Ext w w1) => led60_err AM A m cM n cp L w1 (hr.ext hx) hn hm v q1 q2 q3 q4 g0 g1 AC nC cC C (hrc.ext hx) hs s AR nR cR rs (hR.ext hx) hnR he
  generalize ledE m L v q1 q2 q3 q4 g0 g1 C s rs = e0 at *
  refine enterQ (c := cx w 83) Tryz.func19 rfl rfl rfl rfl ?_
  repeat' (first | ((with_reducible apply oq_id); first | ((with_reducible apply oq_neqT); exact rfl; exact rfl; omega) | (apply oq_fn; exact rfl; first | exact trivial | (refine ⟨?_, ?_⟩ <;> omega) | (refine ⟨?_, ?_, ?_⟩ <;> omega) | omega | skip) | ((with_reducible apply oq_loadAgg); exact rfl; exact rfl) | ((with_reducible apply oq_call (k := 60) (hc := Tryz.call60)); exact rfl; exact rfl; exact fun D w1 hw1 => HN w1 hw1.ext.ext) | ((with_reducible apply oq_build); exact rfl; exact rfl; exact rfl)) | ((with_reducible apply tl_id); first | ((with_reducible apply tl_nil)) | ((with_reducible apply u_q); exact rfl; exact rfl; exact rfl; exact rfl) | ((with_reducible apply u_s0); exact rfl; exact rfl) | ((with_reducible apply u_s); exact rfl; exact rfl; exact rfl)) | ((with_reducible apply os_id); first | ((with_reducible apply os_x); exact rfl) | ((with_reducible apply os_storeAgg); exact rfl; exact rfl; exact rfl; exact rfl; exact rfl)) | ((with_reducible apply ox_id); first | ((with_reducible apply ox_alloc); exact rfl; intro _) | ((with_reducible apply ox_boxAgg); exact rfl; intro _)) | ((with_reducible apply rd_id); first | (apply Rd.own; (repeat (first | exact P0 | apply P1)); exact rfl; done)) | ((with_reducible apply t_id); first | ((with_reducible apply t_seq)) | (apply t_region; kernel_rfl) | ((with_reducible apply t_condT); exact rfl) | ((with_reducible apply t_ret))) | with_reducible apply q_thenN | with_reducible apply q_thenR | exact P0 | exact Rdn.zero | apply Rdn.succ | ((with_reducible apply Norm.nil); exact rfl) | ((with_reducible apply Norm.cons); exact rfl) | ((with_reducible apply end_ret)) | exact rvs_nil | ((with_reducible apply rvs_cons)) | ((with_reducible apply rv_tmp); exact rfl) | ((with_reducible apply rv_cellAgg); exact rfl; exact rfl) | exact Nat.le_of_ble_eq_true rfl)
  all_goals rfl
theorem refNoret_ok (AM A : Option Addr) (m cM n cp : Nat) (L : List Lg) (w : World) (hr : RdS w 5 A n (L.map lgCells)) (hn : n ≤ 1000000) (hm : m ≤ 1000000) (v q1 q2 q3 q4 : Int) (g0 g1 : Nat) (AC : Option Addr) (nC cC : Nat) (C : List Wn) (hrc : CastR w AC nC C) (hs : ∀ z ∈ C, z.n ≤ 1000000) (s : Int) (AR : Option Addr) (nR cR : Nat) (rs : List Int) (hR : RdS w 1 AR nR (rs.map inCells)) (hnR : nR ≤ 1000000) (hE : askE m L v q1 q2 q3 q4 (g0 : Nat) (g1 : Nat) C = 0) (h20 : rs.length ≤ 20) (p : Trp) (htr : tripI m L s rs = some p) (fu : Int) (hfu : fu ≤ 9223372036854775807) : Calls Tryz.prog 17 #[.agg #[.slice AM m cM, .slice A n cp], .agg #[.int .i64 v, .int .i64 q1, .int .i64 q2, .int .i64 q3, .int .i64 q4, .int .i64 (g0 : Nat), .int .i64 (g1 : Nat)], .slice AC nC cC, .int .i64 s, .slice AR nR cR, .int .i64 fu] w fun e w' => e = .returned (.tuple #[.agg #[.int .i64 ((ptR v q1 q2 q3 g0 g1 C L p (noP fu q4)).1.1 : Nat), .int .i64 ((ptR v q1 q2 q3 g0 g1 C L p (noP fu q4)).1.2 : Nat)], .int .i64 (ptR v q1 q2 q3 g0 g1 C L p (noP fu q4)).2]) ∧ Ext w w' := by
  obtain ⟨hch, hpk, hk0⟩ := askE_ok hE
  obtain ⟨hcl, hcw⟩ := castE_zero.1 hk0
  have hlc := hrc.len
  obtain ⟨hm1, hL40, hLk⟩ := chartB_iff.1 hch
  have hl : L.length = n := by simpa using hr.len
  have hlr : rs.length = nR := by simpa using hR.len
  have hTI := trip_in hLk htr
  have hg1 := hTI.1
  have hg2 := hTI.2.1
  obtain ⟨_, _, _, _, p5, kg⟩ := id hpk
  have HO := fun w1 (hx : Ext w w1) => led60_ok AM A m cM n cp L w1 (hr.ext hx) hn hm v q1 q2 q3 q4 g0 g1 AC nC cC C (hrc.ext hx) hs s AR nR cR rs (hR.ext hx) hnR hE h20 p htr
  have H61 := fun w1 (hx : Ext w w1) => open61_calls AM A m cM n cp L w1 (hr.ext hx) hn hm v q1 q2 q3 q4 g0 g1 AC nC cC C (hrc.ext hx) hs hpk hcw (by omega) hLk p rs hTI h20 AR nR cR (hR.ext hx)
  have H62 := fun w1 (hx : Ext w w1) => points62_calls AM A m cM n cp L w1 (hr.ext hx) hLk p rs hTI h20 AR nR cR (hR.ext hx)
  have H64 := fun (n0 : Nat) (hn0 : n0 ≤ 1000000000) w1 (hx : Ext w w1) => point64_calls AM A m cM n cp L w1 (hr.ext hx) hLk p rs hTI h20 AR nR cR (hR.ext hx) n0 hn0
  have H63 := fun (AS : Option Addr) (cS h me : Nat) (hh : h ≤ 1000000) (hme : ∀ x, p.1[h]? = some x → me ≤ lnL L x.1) (hme2 : me ≤ 1000000) w1 (hx : Ext w w1) (hS : RdS w1 1 AS p.2.length ((cI p.2).map inCells)) => way63_calls AM A m cM n cp L w1 (hr.ext hx) hn hm v q1 q2 q3 q4 g0 g1 AC nC cC C (hrc.ext hx) hs hpk hcw (by omega) hLk p rs hTI h20 AR nR cR (hR.ext hx) AS cS hS h me hh hme hme2
  unfold ptR
  by_cases hge : p.1 = []
  · have hg0 : nR = 0 := by rw [hge] at hg1; simp only [List.length_nil] at hg1; omega
    rw [show lasR p.1 (opB (flC v q1 q2 q3 g0 g1 C L) p.1) (hpL (bilL v q1 q2 q3 g0 g1 C L) (lnL L) p.1 (noP fu q4)) (lnG (lnL L) p.1) = ((0, 0), 2) from if_pos hge]
    refine enterQ (c := cx w 95) Tryz.func17 rfl rfl rfl rfl ?_
    repeat' (first | ((with_reducible apply oq_id); first | ((with_reducible apply oq_neqF); exact rfl; exact rfl; omega) | ((with_reducible apply oq_eqlT); exact rfl; exact rfl; omega) | (apply oq_fn; exact rfl; first | exact trivial | (refine ⟨?_, ?_⟩ <;> omega) | (refine ⟨?_, ?_, ?_⟩ <;> omega) | omega | skip) | ((with_reducible apply oq_loadAgg); exact rfl; exact rfl) | ((with_reducible apply oq_build); exact rfl; exact rfl; exact rfl)) | ((with_reducible apply tl_id); first | ((with_reducible apply tl_nil)) | ((with_reducible apply u_s); exact rfl; exact rfl; exact rfl; (with_reducible apply os_callS (PV := LedV 0 p) (k := 60) (hc := Tryz.call60)); exact rfl; exact rfl; exact fun D w1 hw1 => HO w1 hw1.ext.ext; rintro _ _ ⟨bS, cS, rfl, rfl⟩; simp only [List.cons_append, List.nil_append]) | ((with_reducible apply u_q); exact rfl; exact rfl; exact rfl; exact rfl) | ((with_reducible apply u_s0); exact rfl; exact rfl) | ((with_reducible apply u_s); exact rfl; exact rfl; exact rfl)) | ((with_reducible apply os_id); first | ((with_reducible apply os_x); exact rfl) | ((with_reducible apply os_storeAgg); exact rfl; exact rfl; exact rfl; exact rfl; exact rfl)) | ((with_reducible apply ox_id); first | ((with_reducible apply ox_alloc); exact rfl; intro _) | ((with_reducible apply ox_boxAgg); exact rfl; intro _)) | ((with_reducible apply rd_id); first | (apply Rd.own; (repeat (first | exact P0 | apply P1)); exact rfl; done)) | ((with_reducible apply t_id); first | ((with_reducible apply t_seq)) | (apply t_region; kernel_rfl) | ((with_reducible apply t_condT); exact rfl) | ((with_reducible apply t_condF); exact rfl) | ((with_reducible apply t_ret)) | ((with_reducible apply t_skip))) | with_reducible apply q_thenN | with_reducible apply q_thenR | exact P0 | exact Rdn.zero | apply Rdn.succ | ((with_reducible apply Norm.nil); exact rfl) | ((with_reducible apply Norm.cons); exact rfl) | ((with_reducible apply end_ret)) | exact rvs_nil | ((with_reducible apply rvs_cons)) | ((with_reducible apply rv_tmp); exact rfl) | ((with_reducible apply rv_cellAgg); exact rfl; exact rfl) | exact Nat.le_of_ble_eq_true rfl)
    all_goals rfl
  have hgp : 0 < p.1.length := by
    rcases Nat.eq_zero_or_pos p.1.length with h | h
    · exact absurd (List.length_eq_zero_iff.1 h) hge
    · exact h
  by_cases hop : opB (flC v q1 q2 q3 g0 g1 C L) p.1 = true
  rotate_left
  · rw [Bool.not_eq_true] at hop
    rw [show lasR p.1 (opB (flC v q1 q2 q3 g0 g1 C L) p.1) (hpL (bilL v q1 q2 q3 g0 g1 C L) (lnL L) p.1 (noP fu q4)) (lnG (lnL L) p.1) = ((0, 0), 63) by unfold lasR; rw [if_neg hge, if_pos hop]]
    rw [hop] at H61
    refine enterQ (c := cx w 95) Tryz.func17 rfl rfl rfl rfl ?_
    repeat' (first | ((with_reducible apply oq_id); first | ((with_reducible apply oq_neqF); exact rfl; exact rfl; omega) | ((with_reducible apply oq_eqlF); exact rfl; exact rfl; omega) | (apply oq_fn; exact rfl; first | exact trivial | (refine ⟨?_, ?_⟩ <;> omega) | (refine ⟨?_, ?_, ?_⟩ <;> omega) | omega | skip) | ((with_reducible apply oq_loadAgg); exact rfl; exact rfl) | ((with_reducible apply oq_call (k := 61) (hc := Tryz.call61)); exact rfl; exact rfl; exact fun D w1 hw1 => H61 w1 hw1.ext.ext) | ((with_reducible apply oq_build); exact rfl; exact rfl; exact rfl)) | ((with_reducible apply tl_id); first | ((with_reducible apply tl_nil)) | ((with_reducible apply u_s); exact rfl; exact rfl; exact rfl; (with_reducible apply os_callS (PV := LedV 0 p) (k := 60) (hc := Tryz.call60)); exact rfl; exact rfl; exact fun D w1 hw1 => HO w1 hw1.ext.ext; rintro _ _ ⟨bS, cS, rfl, rfl⟩; simp only [List.cons_append, List.nil_append]) | ((with_reducible apply u_q); exact rfl; exact rfl; exact rfl; exact rfl) | ((with_reducible apply u_s0); exact rfl; exact rfl) | ((with_reducible apply u_s); exact rfl; exact rfl; exact rfl)) | ((with_reducible apply os_id); first | ((with_reducible apply os_x); exact rfl) | ((with_reducible apply os_storeAgg); exact rfl; exact rfl; exact rfl; exact rfl; exact rfl)) | ((with_reducible apply ox_id); first | ((with_reducible apply ox_alloc); exact rfl; intro _) | ((with_reducible apply ox_boxAgg); exact rfl; intro _)) | ((with_reducible apply rd_id); first | (apply Rd.own; (repeat (first | exact P0 | apply P1)); exact rfl; done)) | ((with_reducible apply t_id); first | ((with_reducible apply t_seq)) | (apply t_region; kernel_rfl) | ((with_reducible apply t_condT); exact rfl) | ((with_reducible apply t_condF); exact rfl) | ((with_reducible apply t_ret)) | ((with_reducible apply t_skip))) | with_reducible apply q_thenN | with_reducible apply q_thenR | exact P0 | exact Rdn.zero | apply Rdn.succ | ((with_reducible apply Norm.nil); exact rfl) | ((with_reducible apply Norm.cons); exact rfl) | ((with_reducible apply end_ret)) | exact rvs_nil | ((with_reducible apply rvs_cons)) | ((with_reducible apply rv_tmp); exact rfl) | ((with_reducible apply rv_cellAgg); exact rfl; exact rfl) | exact Nat.le_of_ble_eq_true rfl)
    all_goals rfl
  rw [las_none hge hop]
  rw [hop] at H61
  by_cases hfq : fu < q4
  · have hnever : ∀ i, (hpL (bilL v q1 q2 q3 g0 g1 C L) (lnL L) p.1 (noP fu q4)) i 0 = false := fun i => by
      unfold hpL noP
      rw [decide_eq_false_iff_not]
      omega
    rw [lstP_never hnever]
    refine enterQ (c := cx w 95) Tryz.func17 rfl rfl rfl rfl ?_
    repeat' (first | ((with_reducible apply oq_id); first | ((with_reducible apply oq_neqF); exact rfl; exact rfl; omega) | ((with_reducible apply oq_eqlF); exact rfl; exact rfl; omega) | ((with_reducible apply oq_lssT); exact rfl; exact rfl; omega) | (apply oq_fn; exact rfl; first | exact trivial | (refine ⟨?_, ?_⟩ <;> omega) | (refine ⟨?_, ?_, ?_⟩ <;> omega) | omega | skip) | ((with_reducible apply oq_load); exact rfl; exact rfl) | ((with_reducible apply oq_loadAgg); exact rfl; exact rfl) | ((with_reducible apply oq_call (k := 61) (hc := Tryz.call61)); exact rfl; exact rfl; exact fun D w1 hw1 => H61 w1 hw1.ext.ext) | ((with_reducible apply oq_build); exact rfl; exact rfl; exact rfl)) | ((with_reducible apply tl_id); first | ((with_reducible apply tl_nil)) | ((with_reducible apply u_s); exact rfl; exact rfl; exact rfl; (with_reducible apply os_callS (PV := LedV 0 p) (k := 60) (hc := Tryz.call60)); exact rfl; exact rfl; exact fun D w1 hw1 => HO w1 hw1.ext.ext; rintro _ _ ⟨bS, cS, rfl, rfl⟩; simp only [List.cons_append, List.nil_append]) | ((with_reducible apply u_q); exact rfl; exact rfl; exact rfl; exact rfl) | ((with_reducible apply u_s0); exact rfl; exact rfl) | ((with_reducible apply u_s); exact rfl; exact rfl; exact rfl)) | ((with_reducible apply os_id); first | ((with_reducible apply os_x); exact rfl) | ((with_reducible apply os_storeAgg); exact rfl; exact rfl; exact rfl; exact rfl; exact rfl)) | ((with_reducible apply ox_id); first | ((with_reducible apply ox_alloc); exact rfl; intro _) | ((with_reducible apply ox_boxAgg); exact rfl; intro _)) | ((with_reducible apply rd_id); first | (apply Rd.own; (repeat (first | exact P0 | apply P1)); exact rfl; done)) | ((with_reducible apply t_id); first | ((with_reducible apply t_seq)) | (apply t_region; kernel_rfl) | ((with_reducible apply t_condT); exact rfl) | ((with_reducible apply t_condF); exact rfl) | ((with_reducible apply t_ret)) | ((with_reducible apply t_skip))) | with_reducible apply q_thenN | with_reducible apply q_thenR | exact P0 | exact Rdn.zero | apply Rdn.succ | ((with_reducible apply Norm.nil); exact rfl) | ((with_reducible apply Norm.cons); exact rfl) | ((with_reducible apply end_ret)) | exact rvs_nil | ((with_reducible apply rvs_cons)) | ((with_reducible apply rv_tmp); exact rfl) | ((with_reducible apply rv_cellAgg); exact rfl; exact rfl) | exact Nat.le_of_ble_eq_true rfl)
    all_goals rfl
  have hbz : ∀ x, (bilL v q1 q2 q3 g0 g1 C L) x 0 = (0, 0) := fun x => by
    unfold bilL
    split
    · rfl
    · rename_i z hz
      obtain ⟨_, _, _, kx, ky, kz, kh⟩ := hLk z (List.mem_of_getElem? hz)
      exact bilV_zero (legRz_ok (z := z) (bk := x.2) hcw hpk kh ⟨kx, ky, kz⟩).1
  have h00 : (hpL (bilL v q1 q2 q3 g0 g1 C L) (lnL L) p.1 (noP fu q4)) 0 0 = true := by
    obtain ⟨z1, z2⟩ := atF_zero (bil := (bilL v q1 q2 q3 g0 g1 C L)) (ln := (lnL L)) (g := p.1) hbz p.1.length
    unfold hpL noP
    first | rw [z1, z2, decide_eq_true_eq] | rw [z2, decide_eq_true_eq]
    simp only
    omega
  have hanti : AntiP (hpL (bilL v q1 q2 q3 g0 g1 C L) (lnL L) p.1 (noP fu q4)) (lnG (lnL L) p.1) p.1.length := anti_of (fun x m m' h => bilL_mono h) noP_anti
  rw [last_same hgp hanti h00]
  have hpb := ptN_le (ln := (lnG (lnL L) p.1)) (fun i => by unfold lnG; split; exact Nat.zero_le _; exact lnL_le hLk _) p.1.length 0
  have hpos := ptN_pos (ln := (lnG (lnL L) p.1)) hgp 0
  have hpix := pt_ix (ln := (lnG (lnL L) p.1)) p.1.length 0
  have hplex := pt_lex (ln := (lnG (lnL L) p.1)) p.1.length 0
  have hlen20 : p.1.length ≤ 20 := by omega
  generalize hN : ptN (lnG (lnL L) p.1) p.1.length 0 = N at *
  have hpt0 : ptF (lnG (lnL L) p.1) p.1.length 0 0 = (0, 0) := by
    obtain ⟨d, hd⟩ : ∃ d, p.1.length = d + 1 := ⟨p.1.length - 1, by omega⟩
    rw [hd]
    simp only [ptF]
    rw [if_pos (Nat.zero_le _)]
  simp only
  refine enterQ (c := cx w 95) Tryz.func17 rfl rfl rfl rfl ?_
  repeat' (first | ((with_reducible apply oq_id); first | (focus ((with_reducible apply (oq_subE (k := ((N - 1 : Nat) : Int)))); exact rfl; exact rfl; omega)) | ((with_reducible apply oq_neqF); exact rfl; exact rfl; omega) | ((with_reducible apply oq_eqlF); exact rfl; exact rfl; omega) | ((with_reducible apply oq_lssF); exact rfl; exact rfl; omega) | (apply oq_fn; exact rfl; first | exact trivial | (refine ⟨?_, ?_⟩ <;> omega) | (refine ⟨?_, ?_, ?_⟩ <;> omega) | omega | skip) | ((with_reducible apply oq_load); exact rfl; exact rfl) | ((with_reducible apply oq_loadAgg); exact rfl; exact rfl) | ((with_reducible apply oq_call (k := 61) (hc := Tryz.call61)); exact rfl; exact rfl; exact fun D w1 hw1 => H61 w1 hw1.ext.ext) | ((with_reducible apply oq_call (k := 62) (hc := Tryz.call62)); exact rfl; exact rfl; exact fun D w1 hw1 => H62 w1 hw1.ext.ext)) | ((with_reducible apply tl_id); first | ((with_reducible apply tl_nil)) | ((with_reducible apply u_s); exact rfl; exact rfl; exact rfl; (with_reducible apply os_callS (PV := LedV 0 p) (k := 60) (hc := Tryz.call60)); exact rfl; exact rfl; exact fun D w1 hw1 => HO w1 hw1.ext.ext; rintro _ _ ⟨bS, cS, rfl, rfl⟩; simp only [List.cons_append, List.nil_append]) | ((with_reducible apply u_q); exact rfl; exact rfl; exact rfl; exact rfl) | ((with_reducible apply u_s); exact rfl; exact rfl; exact rfl)) | ((with_reducible apply os_id); first | ((with_reducible apply os_x); exact rfl)) | ((with_reducible apply ox_id); first | ((with_reducible apply ox_alloc); exact rfl; intro _) | ((with_reducible apply ox_boxAgg); exact rfl; intro _)) | ((with_reducible apply rd_id); first | (apply Rd.own; (repeat (first | exact P0 | apply P1)); exact rfl; done)) | ((with_reducible apply t_id); first | ((with_reducible apply t_seq)) | (apply t_region; kernel_rfl) | ((with_reducible apply t_condF); exact rfl) | ((with_reducible apply t_skip)) | ((with_reducible apply t_block))) | with_reducible apply q_thenN | exact Rdn.zero | apply Rdn.succ)
  rename_i b6 b7 b12
  apply t_loopP (ι := Nat × Nat) [2, 4, 5, 6, 7, 12, 14] (fun z => [(16, .int .i64 ((z.1 : Nat) : Int)), (17, .int .i64 ((z.2 : Nat) : Int))]) (fun _ => [(b6, [.slice AM m cM, .slice A n cp], some (25, 2, 1)), (b7, [.int .i64 v, .int .i64 q1, .int .i64 q2, .int .i64 q3, .int .i64 q4, .int .i64 (g0 : Nat), .int .i64 (g1 : Nat)], some (29, 7, 1)), (b12, [.int .i64 0, .int .i64 0], some (34, 2, 1)), (bS, (cI p.2).map iv, some (3, 1, cS))]) (fun z => z.1 ≤ z.2 ∧ z.2 ≤ N - 1 ∧ (fun n => (hpL (bilL v q1 q2 q3 g0 g1 C L) (lnL L) p.1 (noP fu q4)) (ptF (lnG (lnL L) p.1) p.1.length 0 n).1 (ptF (lnG (lnL L) p.1) p.1.length 0 n).2) z.1 = true ∧ ∀ n', z.2 < n' → n' ≤ N - 1 → (fun n => (hpL (bilL v q1 q2 q3 g0 g1 C L) (lnL L) p.1 (noP fu q4)) (ptF (lnG (lnL L) p.1) p.1.length 0 n).1 (ptF (lnG (lnL L) p.1) p.1.length 0 n).2) n' = false) (fun z => z.2 - z.1) ((0, N - 1))
  (repeat (first | exact KeepF.nil | (apply KeepF.cons; exact rfl) | apply KeepF.skip))
  (repeat (first | exact FrSub.nil | (apply FrSub.cons; exact rfl)))
  (try simp only [List.cons_append, List.nil_append])
  (repeat' (first | exact HpSub.refl _ | (apply HpSub.consE; (repeat (first | exact P0 | apply P1)); first | exact rfl | skip)))
  · exact ⟨Nat.zero_le _, Nat.le_refl _, by simp only [hpt0]; exact h00, fun n' h1 h2 => by simp only at h1; omega⟩
  rintro ⟨lo, hi⟩ ⟨hlh, hhn, hflo, hfhi⟩
  simp only at hlh hhn hflo hfhi
  try simp only [List.cons_append, List.nil_append]
  by_cases hlt : lo < hi
  rotate_left
  · obtain rfl : lo = hi := by omega
    rw [lastM_eq (f := (fun n => (hpL (bilL v q1 q2 q3 g0 g1 C L) (lnL L) p.1 (noP fu q4)) (ptF (lnG (lnL L) p.1) p.1.length 0 n).1 (ptF (lnG (lnL L) p.1) p.1.length 0 n).2)) hflo _ hhn hfhi]
    have HQ64 := H64 lo (by omega)
    repeat' (first | ((with_reducible apply oq_id); first | ((with_reducible apply oq_lssF); exact rfl; exact rfl; omega) | (apply oq_fn; exact rfl; first | exact trivial | (refine ⟨?_, ?_⟩ <;> omega) | (refine ⟨?_, ?_, ?_⟩ <;> omega) | omega | skip) | ((with_reducible apply oq_loadAgg); exact rfl; exact rfl) | ((with_reducible apply oq_call (k := 64) (hc := Tryz.call64)); exact rfl; exact rfl; exact fun D w1 hw1 => HQ64 w1 hw1.ext.ext)) | ((with_reducible apply tl_id); first | ((with_reducible apply tl_nil)) | ((with_reducible apply u_q); exact rfl; exact rfl; exact rfl; exact rfl) | ((with_reducible apply u_s0); exact rfl; exact rfl)) | ((with_reducible apply os_id); first | ((with_reducible apply os_storeAgg); exact rfl; exact rfl; exact rfl; exact rfl; exact rfl)) | ((with_reducible apply rd_id); first | (apply Rd.own; (repeat (first | exact P0 | apply P1)); exact rfl; done)) | ((with_reducible apply t_id); first | ((with_reducible apply t_seq)) | (apply t_region; kernel_rfl) | ((with_reducible apply t_condF); exact rfl) | ((with_reducible apply t_ret)) | ((with_reducible apply t_exit))) | with_reducible apply q_thenN | with_reducible apply q_thenE | ((with_reducible apply q_blockE); exact rfl) | exact P0 | ((with_reducible apply P1)) | exact Rdn.zero | apply Rdn.succ | ((with_reducible apply Norm.nil); exact rfl) | ((with_reducible apply Norm.cons); exact rfl) | ((with_reducible apply end_ret)) | exact rvs_nil | ((with_reducible apply rvs_cons)) | ((with_reducible apply rv_tmp); exact rfl) | ((with_reducible apply rv_cellAgg); exact rfl; exact rfl) | exact Nat.le_of_ble_eq_true rfl)
    all_goals rfl
  obtain ⟨nn, hnn⟩ : ∃ nn : Nat, nn = hi - (hi - lo) / 2 := ⟨_, rfl⟩
  have hx := hpix nn (by omega)
  have HQ64 := H64 nn (by omega)
  have hmel : ∀ x, p.1[(ptF (lnG (lnL L) p.1) p.1.length 0 nn).1]? = some x → (ptF (lnG (lnL L) p.1) p.1.length 0 nn).2 ≤ lnL L x.1 := fun x hx' => by
    have h := hx.2.2
    rw [lnG_at hx'] at h
    exact h
  have hme2 : (ptF (lnG (lnL L) p.1) p.1.length 0 nn).2 ≤ 1000000 := by
    obtain ⟨x, hx'⟩ : ∃ x, p.1[(ptF (lnG (lnL L) p.1) p.1.length 0 nn).1]? = some x := ⟨_, List.getElem?_eq_getElem (by omega)⟩
    exact Nat.le_trans (hmel x hx') (lnL_le hLk _)
  have HQ63 := H63 (some ⟨bS, 0, none⟩) cS (ptF (lnG (lnL L) p.1) p.1.length 0 nn).1 (ptF (lnG (lnL L) p.1) p.1.length 0 nn).2 (by omega) hmel hme2
  have hbnd := atF_bound (bil := (bilL v q1 q2 q3 g0 g1 C L)) (ln := (lnL L)) (g := p.1) (h := (ptF (lnG (lnL L) p.1) p.1.length 0 nn).1) (me := (ptF (lnG (lnL L) p.1) p.1.length 0 nn).2) (bilL_bound hLk hpk hcw) (lnL_le hLk) hme2 p.1.length
  have hfn : (fun n => (hpL (bilL v q1 q2 q3 g0 g1 C L) (lnL L) p.1 (noP fu q4)) (ptF (lnG (lnL L) p.1) p.1.length 0 n).1 (ptF (lnG (lnL L) p.1) p.1.length 0 n).2) nn = decide (0 ≤ fu ∧ (((atF (bilL v q1 q2 q3 g0 g1 C L) (lnL L) p.1 (ptF (lnG (lnL L) p.1) p.1.length 0 nn).1 (ptF (lnG (lnL L) p.1) p.1.length 0 nn).2 p.1.length).1.2 + (atF (bilL v q1 q2 q3 g0 g1 C L) (lnL L) p.1 (ptF (lnG (lnL L) p.1) p.1.length 0 nn).1 (ptF (lnG (lnL L) p.1) p.1.length 0 nn).2 p.1.length).2.1.2 : Nat) : Int) ≤ fu - q4) := rfl
  have hdown : (fun n => (hpL (bilL v q1 q2 q3 g0 g1 C L) (lnL L) p.1 (noP fu q4)) (ptF (lnG (lnL L) p.1) p.1.length 0 n).1 (ptF (lnG (lnL L) p.1) p.1.length 0 n).2) nn = false → ∀ j, nn - 1 < j → j ≤ N - 1 → (fun n => (hpL (bilL v q1 q2 q3 g0 g1 C L) (lnL L) p.1 (noP fu q4)) (ptF (lnG (lnL L) p.1) p.1.length 0 n).1 (ptF (lnG (lnL L) p.1) p.1.length 0 n).2) j = false := fun hf j h1 h2 => by
    rcases Nat.lt_or_ge nn j with h3 | h3
    · cases hj : (fun n => (hpL (bilL v q1 q2 q3 g0 g1 C L) (lnL L) p.1 (noP fu q4)) (ptF (lnG (lnL L) p.1) p.1.length 0 n).1 (ptF (lnG (lnL L) p.1) p.1.length 0 n).2) j with
      | false => rfl
      | true =>
        have hxj := hpix j (by omega)
        have := hanti (ptF (lnG (lnL L) p.1) p.1.length 0 nn).1 (ptF (lnG (lnL L) p.1) p.1.length 0 nn).2 _ _ (by omega) hx.2.2 hxj.2.2 (by rcases hplex nn j h3 (by omega) with h4 | ⟨h4, h5⟩; exact .inl h4; exact .inr ⟨h4, by simp only; omega⟩) hj
        rw [show (hpL (bilL v q1 q2 q3 g0 g1 C L) (lnL L) p.1 (noP fu q4)) (ptF (lnG (lnL L) p.1) p.1.length 0 nn).1 (ptF (lnG (lnL L) p.1) p.1.length 0 nn).2 = (fun n => (hpL (bilL v q1 q2 q3 g0 g1 C L) (lnL L) p.1 (noP fu q4)) (ptF (lnG (lnL L) p.1) p.1.length 0 n).1 (ptF (lnG (lnL L) p.1) p.1.length 0 n).2) nn from rfl, hf] at this
        cases this
    · rw [show j = nn by omega]; exact hf
  generalize (atF (bilL v q1 q2 q3 g0 g1 C L) (lnL L) p.1 (ptF (lnG (lnL L) p.1) p.1.length 0 nn).1 (ptF (lnG (lnL L) p.1) p.1.length 0 nn).2 p.1.length) = at0 at *
  generalize (ptF (lnG (lnL L) p.1) p.1.length 0 nn) = pt0 at *
  obtain ⟨p1', p2'⟩ := pt0
  obtain ⟨⟨x1, x2⟩, ⟨x3, x4⟩, x5, x6⟩ := at0
  simp only at HQ63 HQ64 hbnd
  cases hf : (fun n => (hpL (bilL v q1 q2 q3 g0 g1 C L) (lnL L) p.1 (noP fu q4)) (ptF (lnG (lnL L) p.1) p.1.length 0 n).1 (ptF (lnG (lnL L) p.1) p.1.length 0 n).2) nn with
  | true =>
    have hd : 0 ≤ fu ∧ ((x2 + x4 : Nat) : Int) ≤ fu - q4 := of_decide_eq_true (hfn.symm.trans hf)
    repeat' (first | ((with_reducible apply oq_id); first | (focus ((with_reducible apply (oq_subE (m := (hi : Int)) (n := (lo : Int)) (k := ((hi - lo : Nat) : Int)))); exact rfl; exact rfl; omega)) | (focus ((with_reducible apply (oq_quo2 (a := hi - lo))); exact rfl; exact rfl; (exact ⟨rfl, by omega⟩))) | (focus ((with_reducible apply (oq_subE (m := (hi : Int)) (k := ((nn : Nat) : Int)))); exact rfl; exact rfl; omega)) | ((with_reducible apply oq_lssT); exact rfl; exact rfl; omega) | (apply oq_fn; exact rfl; first | exact trivial | (refine ⟨?_, ?_⟩ <;> omega) | (refine ⟨?_, ?_, ?_⟩ <;> omega) | omega | skip) | ((with_reducible apply oq_loadAgg); exact rfl; exact rfl) | ((with_reducible apply oq_call (k := 64) (hc := Tryz.call64)); exact rfl; exact rfl; exact fun D w1 hw1 => HQ64 w1 hw1.ext.ext) | ((with_reducible apply oq_call (k := 63) (hc := Tryz.call63)); exact rfl; exact rfl; exact fun D w1 hw1 => HQ63 w1 hw1.ext.ext (in_rows1 (by simp [cI]) hw1 (by (repeat (first | exact P0 | apply P1)))))) | ((with_reducible apply tl_id); first | ((with_reducible apply tl_nil)) | ((with_reducible apply u_q); exact rfl; exact rfl; exact rfl; exact rfl)) | ((with_reducible apply gx_id); first | ((with_reducible apply v_nil)) | ((with_reducible apply v_q); exact rfl; exact rfl; exact rfl)) | ((with_reducible apply os_id); first | ((with_reducible apply os_storeAgg); exact rfl; exact rfl; exact rfl; exact rfl; exact rfl)) | ((with_reducible apply ox_id); first | ((with_reducible apply ox_alloc); exact rfl; intro _)) | ((with_reducible apply ai_id); first | ((with_reducible apply ai_x); exact rfl; exact rfl; exact rfl; exact rfl; exact rfl) | ((with_reducible apply ai_n0); exact rfl; exact rfl; exact rfl)) | ((with_reducible apply al_keep); focus (repeat (first | exact HpSub.refl _ | (apply HpSub.cons; (repeat (first | exact P0 | apply P1))) | apply HpSub.skipX | exact HpSub.nil))) | ((with_reducible apply rd_id); first | (apply Rd.own; (repeat (first | exact P0 | apply P1)); exact rfl; done)) | ((with_reducible apply t_id); first | (with_reducible apply t_cutK (ι := (Nat × Nat × Nat)) (rid := 13) [2, 4, 5, 6, 7, 12, 14, 16, 17, 18] (fun i => [(19, .pointer (some ⟨i.1, 0, none⟩)), (20, .pointer (some ⟨i.2.1, 0, none⟩)), (21, .pointer (some ⟨i.2.2, 0, none⟩))]) (fun i => [(i.1, [.int .i64 (x1 : Nat), .int .i64 (x2 : Nat)], some (27, 2, 1)), (i.2.1, [.int .i64 (x3 : Nat), .int .i64 (x4 : Nat)], some (27, 2, 1)), (i.2.2, [.int .i64 (x5 : Nat), .int .i64 (x6 : Nat)], some (27, 2, 1))])); (repeat (first | exact KeepF.nil | (apply KeepF.cons; exact rfl) | apply KeepF.skip)) | (apply t_mix (id := 13) [0, 1, 2, 3, 4, 5, 6, 7, 8, 9, 10, 11, 12, 13] 6 #[false, false, false, false, false, false, false, false, false, false, false, false, false, false, false, false, false, false, false, false]; kernel_rfl; kernel_rfl; exact rfl) | ((with_reducible apply t_seq)) | (apply t_region; kernel_rfl) | ((with_reducible apply t_condT); exact rfl) | ((with_reducible apply t_skip)) | ((with_reducible apply t_block))) | with_reducible apply q_thenN | exact P0 | ((with_reducible apply P1)) | exact Rdn.zero | apply Rdn.succ | ((with_reducible apply Norm.nil); exact rfl) | ((with_reducible apply Norm.cons); exact rfl) | ((with_reducible apply cut_in3) <;> (repeat' (first | exact FrSub.nil | (apply FrSub.cons; exact rfl) | exact HpSub.refl _ | (apply HpSub.consE; (repeat (first | exact P0 | apply P1)); exact rfl) | apply HpSub.skipX | exact HpSub.nil))) | ((with_reducible apply al_id); first | (apply al_done; decide +kernel) | (apply al_one 14; decide +kernel) | (apply al_one 15; decide +kernel) | (apply al_one 16; decide +kernel) | (apply al_one 17; decide +kernel) | (apply al_one 18; decide +kernel) | (apply al_one 19; decide +kernel) | (apply al_two 14 15; decide +kernel) | (apply al_two 14 16; decide +kernel) | (apply al_two 15 16; decide +kernel) | (apply al_three 14 15 16; decide +kernel)) | exact Nat.le_of_ble_eq_true rfl)
    rintro ⟨b19, b20, b21⟩
    try simp only [List.cons_append, List.nil_append]
    repeat' (first | ((with_reducible apply oq_id); first | (focus ((with_reducible apply (oq_addE (k := ((x2 + x4 : Nat) : Int)))); exact rfl; exact rfl; omega)) | ((with_reducible apply oq_leqT); exact rfl; exact rfl; omega) | (apply oq_fn; exact rfl; first | exact trivial | (refine ⟨?_, ?_⟩ <;> omega) | (refine ⟨?_, ?_, ?_⟩ <;> omega) | omega | skip) | ((with_reducible apply oq_load); exact rfl; exact rfl)) | ((with_reducible apply tl_id); first | ((with_reducible apply tl_nil)) | ((with_reducible apply u_q); exact rfl; exact rfl; exact rfl; exact rfl)) | ((with_reducible apply rd_id); first | (apply Rd.own; (repeat (first | exact P0 | apply P1)); exact rfl; done)) | ((with_reducible apply t_id); first | ((with_reducible apply t_seq)) | (apply t_region; kernel_rfl) | ((with_reducible apply t_condT); exact rfl)) | with_reducible apply q_thenN | with_reducible apply q_blockN)
    all_goals (refine ⟨(nn, hi), ⟨by simp only; omega, hhn, hf, hfhi⟩, by simp only; omega, ?_, ?_⟩ <;> (repeat' (first | exact FrSub.nil | (apply FrSub.cons; exact rfl) | exact HpSub.refl _ | (apply HpSub.consE; (repeat (first | exact P0 | apply P1)); first | exact rfl | skip) | apply HpSub.skipX)))
  | false =>
    have hd : ¬ (0 ≤ fu ∧ ((x2 + x4 : Nat) : Int) ≤ fu - q4) := of_decide_eq_false (hfn.symm.trans hf)
    repeat' (first | ((with_reducible apply oq_id); first | (focus ((with_reducible apply (oq_subE (m := (hi : Int)) (n := (lo : Int)) (k := ((hi - lo : Nat) : Int)))); exact rfl; exact rfl; omega)) | (focus ((with_reducible apply (oq_quo2 (a := hi - lo))); exact rfl; exact rfl; (exact ⟨rfl, by omega⟩))) | (focus ((with_reducible apply (oq_subE (m := (hi : Int)) (k := ((nn : Nat) : Int)))); exact rfl; exact rfl; omega)) | ((with_reducible apply oq_lssT); exact rfl; exact rfl; omega) | (apply oq_fn; exact rfl; first | exact trivial | (refine ⟨?_, ?_⟩ <;> omega) | (refine ⟨?_, ?_, ?_⟩ <;> omega) | omega | skip) | ((with_reducible apply oq_loadAgg); exact rfl; exact rfl) | ((with_reducible apply oq_call (k := 64) (hc := Tryz.call64)); exact rfl; exact rfl; exact fun D w1 hw1 => HQ64 w1 hw1.ext.ext) | ((with_reducible apply oq_call (k := 63) (hc := Tryz.call63)); exact rfl; exact rfl; exact fun D w1 hw1 => HQ63 w1 hw1.ext.ext (in_rows1 (by simp [cI]) hw1 (by (repeat (first | exact P0 | apply P1)))))) | ((with_reducible apply tl_id); first | ((with_reducible apply tl_nil)) | ((with_reducible apply u_q); exact rfl; exact rfl; exact rfl; exact rfl)) | ((with_reducible apply gx_id); first | ((with_reducible apply v_nil)) | ((with_reducible apply v_q); exact rfl; exact rfl; exact rfl)) | ((with_reducible apply os_id); first | ((with_reducible apply os_storeAgg); exact rfl; exact rfl; exact rfl; exact rfl; exact rfl)) | ((with_reducible apply ox_id); first | ((with_reducible apply ox_alloc); exact rfl; intro _)) | ((with_reducible apply ai_id); first | ((with_reducible apply ai_x); exact rfl; exact rfl; exact rfl; exact rfl; exact rfl) | ((with_reducible apply ai_n0); exact rfl; exact rfl; exact rfl)) | ((with_reducible apply al_keep); focus (repeat (first | exact HpSub.refl _ | (apply HpSub.cons; (repeat (first | exact P0 | apply P1))) | apply HpSub.skipX | exact HpSub.nil))) | ((with_reducible apply rd_id); first | (apply Rd.own; (repeat (first | exact P0 | apply P1)); exact rfl; done)) | ((with_reducible apply t_id); first | (with_reducible apply t_cutK (ι := (Nat × Nat × Nat)) (rid := 13) [2, 4, 5, 6, 7, 12, 14, 16, 17, 18] (fun i => [(19, .pointer (some ⟨i.1, 0, none⟩)), (20, .pointer (some ⟨i.2.1, 0, none⟩)), (21, .pointer (some ⟨i.2.2, 0, none⟩))]) (fun i => [(i.1, [.int .i64 (x1 : Nat), .int .i64 (x2 : Nat)], some (27, 2, 1)), (i.2.1, [.int .i64 (x3 : Nat), .int .i64 (x4 : Nat)], some (27, 2, 1)), (i.2.2, [.int .i64 (x5 : Nat), .int .i64 (x6 : Nat)], some (27, 2, 1))])); (repeat (first | exact KeepF.nil | (apply KeepF.cons; exact rfl) | apply KeepF.skip)) | (apply t_mix (id := 13) [0, 1, 2, 3, 4, 5, 6, 7, 8, 9, 10, 11, 12, 13] 6 #[false, false, false, false, false, false, false, false, false, false, false, false, false, false, false, false, false, false, false, false]; kernel_rfl; kernel_rfl; exact rfl) | ((with_reducible apply t_seq)) | (apply t_region; kernel_rfl) | ((with_reducible apply t_condT); exact rfl) | ((with_reducible apply t_skip)) | ((with_reducible apply t_block))) | with_reducible apply q_thenN | exact P0 | ((with_reducible apply P1)) | exact Rdn.zero | apply Rdn.succ | ((with_reducible apply Norm.nil); exact rfl) | ((with_reducible apply Norm.cons); exact rfl) | ((with_reducible apply cut_in3) <;> (repeat' (first | exact FrSub.nil | (apply FrSub.cons; exact rfl) | exact HpSub.refl _ | (apply HpSub.consE; (repeat (first | exact P0 | apply P1)); exact rfl) | apply HpSub.skipX | exact HpSub.nil))) | ((with_reducible apply al_id); first | (apply al_done; decide +kernel) | (apply al_one 14; decide +kernel) | (apply al_one 15; decide +kernel) | (apply al_one 16; decide +kernel) | (apply al_one 17; decide +kernel) | (apply al_one 18; decide +kernel) | (apply al_one 19; decide +kernel) | (apply al_two 14 15; decide +kernel) | (apply al_two 14 16; decide +kernel) | (apply al_two 15 16; decide +kernel) | (apply al_three 14 15 16; decide +kernel)) | exact Nat.le_of_ble_eq_true rfl)
    rintro ⟨b19, b20, b21⟩
    try simp only [List.cons_append, List.nil_append]
    repeat' (first | ((with_reducible apply oq_id); first | (focus ((with_reducible apply (oq_addE (k := ((x2 + x4 : Nat) : Int)))); exact rfl; exact rfl; omega)) | (focus ((with_reducible apply (oq_subE (m := ((nn : Nat) : Int)) (k := ((nn - 1 : Nat) : Int)))); exact rfl; exact rfl; omega)) | ((with_reducible apply oq_leqF); exact rfl; exact rfl; omega) | (apply oq_fn; exact rfl; first | exact trivial | (refine ⟨?_, ?_⟩ <;> omega) | (refine ⟨?_, ?_, ?_⟩ <;> omega) | omega | skip) | ((with_reducible apply oq_load); exact rfl; exact rfl)) | ((with_reducible apply tl_id); first | ((with_reducible apply tl_nil)) | ((with_reducible apply u_q); exact rfl; exact rfl; exact rfl; exact rfl)) | ((with_reducible apply rd_id); first | (apply Rd.own; (repeat (first | exact P0 | apply P1)); exact rfl; done)) | ((with_reducible apply t_id); first | ((with_reducible apply t_seq)) | (apply t_region; kernel_rfl) | ((with_reducible apply t_condF); exact rfl)) | with_reducible apply q_thenN | with_reducible apply q_blockN)
    all_goals (refine ⟨(lo, nn - 1), ⟨by simp only; omega, by simp only; omega, hflo, hdown hf⟩, by simp only; omega, ?_, ?_⟩ <;> (repeat' (first | exact FrSub.nil | (apply FrSub.cons; exact rfl) | exact HpSub.refl _ | (apply HpSub.consE; (repeat (first | exact P0 | apply P1)); first | exact rfl | skip) | apply HpSub.skipX)))
theorem refEqual_ok (AM A : Option Addr) (m cM n cp : Nat) (L : List Lg) (w : World) (hr : RdS w 5 A n (L.map lgCells)) (hn : n ≤ 1000000) (hm : m ≤ 1000000) (v q1 q2 q3 q4 : Int) (g0 g1 : Nat) (AC : Option Addr) (nC cC : Nat) (C : List Wn) (hrc : CastR w AC nC C) (hs : ∀ z ∈ C, z.n ≤ 1000000) (s : Int) (AR : Option Addr) (nR cR : Nat) (rs : List Int) (hR : RdS w 1 AR nR (rs.map inCells)) (hnR : nR ≤ 1000000) (hE : askE m L v q1 q2 q3 q4 (g0 : Nat) (g1 : Nat) C = 0) (h20 : rs.length ≤ 20) (p : Trp) (htr : tripI m L s rs = some p) : Calls Tryz.prog 19 #[.agg #[.slice AM m cM, .slice A n cp], .agg #[.int .i64 v, .int .i64 q1, .int .i64 q2, .int .i64 q3, .int .i64 q4, .int .i64 (g0 : Nat), .int .i64 (g1 : Nat)], .slice AC nC cC, .int .i64 s, .slice AR nR cR] w fun e w' => e = .returned (.tuple #[.agg #[.int .i64 ((ptR v q1 q2 q3 g0 g1 C L p (eqP)).1.1 : Nat), .int .i64 ((ptR v q1 q2 q3 g0 g1 C L p (eqP)).1.2 : Nat)], .int .i64 (ptR v q1 q2 q3 g0 g1 C L p (eqP)).2]) ∧ Ext w w' := by
  obtain ⟨hch, hpk, hk0⟩ := askE_ok hE
  obtain ⟨hcl, hcw⟩ := castE_zero.1 hk0
  have hlc := hrc.len
  obtain ⟨hm1, hL40, hLk⟩ := chartB_iff.1 hch
  have hl : L.length = n := by simpa using hr.len
  have hlr : rs.length = nR := by simpa using hR.len
  have hTI := trip_in hLk htr
  have hg1 := hTI.1
  have hg2 := hTI.2.1
  obtain ⟨_, _, _, _, p5, kg⟩ := id hpk
  have HO := fun w1 (hx : Ext w w1) => led60_ok AM A m cM n cp L w1 (hr.ext hx) hn hm v q1 q2 q3 q4 g0 g1 AC nC cC C (hrc.ext hx) hs s AR nR cR rs (hR.ext hx) hnR hE h20 p htr
  have H61 := fun w1 (hx : Ext w w1) => open61_calls AM A m cM n cp L w1 (hr.ext hx) hn hm v q1 q2 q3 q4 g0 g1 AC nC cC C (hrc.ext hx) hs hpk hcw (by omega) hLk p rs hTI h20 AR nR cR (hR.ext hx)
  have H62 := fun w1 (hx : Ext w w1) => points62_calls AM A m cM n cp L w1 (hr.ext hx) hLk p rs hTI h20 AR nR cR (hR.ext hx)
  have H64 := fun (n0 : Nat) (hn0 : n0 ≤ 1000000000) w1 (hx : Ext w w1) => point64_calls AM A m cM n cp L w1 (hr.ext hx) hLk p rs hTI h20 AR nR cR (hR.ext hx) n0 hn0
  have H63 := fun (AS : Option Addr) (cS h me : Nat) (hh : h ≤ 1000000) (hme : ∀ x, p.1[h]? = some x → me ≤ lnL L x.1) (hme2 : me ≤ 1000000) w1 (hx : Ext w w1) (hS : RdS w1 1 AS p.2.length ((cI p.2).map inCells)) => way63_calls AM A m cM n cp L w1 (hr.ext hx) hn hm v q1 q2 q3 q4 g0 g1 AC nC cC C (hrc.ext hx) hs hpk hcw (by omega) hLk p rs hTI h20 AR nR cR (hR.ext hx) AS cS hS h me hh hme hme2
  unfold ptR
  by_cases hge : p.1 = []
  · have hg0 : nR = 0 := by rw [hge] at hg1; simp only [List.length_nil] at hg1; omega
    rw [show lasR p.1 (opB (flC v q1 q2 q3 g0 g1 C L) p.1) (hpL (bilL v q1 q2 q3 g0 g1 C L) (lnL L) p.1 eqP) (lnG (lnL L) p.1) = ((0, 0), 2) from if_pos hge]
    refine enterQ (c := cx w 83) Tryz.func19 rfl rfl rfl rfl ?_
    repeat' (first | ((with_reducible apply oq_id); first | ((with_reducible apply oq_neqF); exact rfl; exact rfl; omega) | ((with_reducible apply oq_eqlT); exact rfl; exact rfl; omega) | (apply oq_fn; exact rfl; first | exact trivial | (refine ⟨?_, ?_⟩ <;> omega) | (refine ⟨?_, ?_, ?_⟩ <;> omega) | omega | skip) | ((with_reducible apply oq_loadAgg); exact rfl; exact rfl) | ((with_reducible apply oq_build); exact rfl; exact rfl; exact rfl)) | ((with_reducible apply tl_id); first | ((with_reducible apply tl_nil)) | ((with_reducible apply u_s); exact rfl; exact rfl; exact rfl; (with_reducible apply os_callS (PV := LedV 0 p) (k := 60) (hc := Tryz.call60)); exact rfl; exact rfl; exact fun D w1 hw1 => HO w1 hw1.ext.ext; rintro _ _ ⟨bS, cS, rfl, rfl⟩; simp only [List.cons_append, List.nil_append]) | ((with_reducible apply u_q); exact rfl; exact rfl; exact rfl; exact rfl) | ((with_reducible apply u_s0); exact rfl; exact rfl) | ((with_reducible apply u_s); exact rfl; exact rfl; exact rfl)) | ((with_reducible apply os_id); first | ((with_reducible apply os_x); exact rfl) | ((with_reducible apply os_storeAgg); exact rfl; exact rfl; exact rfl; exact rfl; exact rfl)) | ((with_reducible apply ox_id); first | ((with_reducible apply ox_alloc); exact rfl; intro _) | ((with_reducible apply ox_boxAgg); exact rfl; intro _)) | ((with_reducible apply rd_id); first | (apply Rd.own; (repeat (first | exact P0 | apply P1)); exact rfl; done)) | ((with_reducible apply t_id); first | ((with_reducible apply t_seq)) | (apply t_region; kernel_rfl) | ((with_reducible apply t_condT); exact rfl) | ((with_reducible apply t_condF); exact rfl) | ((with_reducible apply t_ret)) | ((with_reducible apply t_skip))) | with_reducible apply q_thenN | with_reducible apply q_thenR | exact P0 | exact Rdn.zero | apply Rdn.succ | ((with_reducible apply Norm.nil); exact rfl) | ((with_reducible apply Norm.cons); exact rfl) | ((with_reducible apply end_ret)) | exact rvs_nil | ((with_reducible apply rvs_cons)) | ((with_reducible apply rv_tmp); exact rfl) | ((with_reducible apply rv_cellAgg); exact rfl; exact rfl) | exact Nat.le_of_ble_eq_true rfl)
    all_goals rfl
  have hgp : 0 < p.1.length := by
    rcases Nat.eq_zero_or_pos p.1.length with h | h
    · exact absurd (List.length_eq_zero_iff.1 h) hge
    · exact h
  by_cases hop : opB (flC v q1 q2 q3 g0 g1 C L) p.1 = true
  rotate_left
  · rw [Bool.not_eq_true] at hop
    rw [show lasR p.1 (opB (flC v q1 q2 q3 g0 g1 C L) p.1) (hpL (bilL v q1 q2 q3 g0 g1 C L) (lnL L) p.1 eqP) (lnG (lnL L) p.1) = ((0, 0), 63) by unfold lasR; rw [if_neg hge, if_pos hop]]
    rw [hop] at H61
    refine enterQ (c := cx w 83) Tryz.func19 rfl rfl rfl rfl ?_
    repeat' (first | ((with_reducible apply oq_id); first | ((with_reducible apply oq_neqF); exact rfl; exact rfl; omega) | ((with_reducible apply oq_eqlF); exact rfl; exact rfl; omega) | (apply oq_fn; exact rfl; first | exact trivial | (refine ⟨?_, ?_⟩ <;> omega) | (refine ⟨?_, ?_, ?_⟩ <;> omega) | omega | skip) | ((with_reducible apply oq_loadAgg); exact rfl; exact rfl) | ((with_reducible apply oq_call (k := 61) (hc := Tryz.call61)); exact rfl; exact rfl; exact fun D w1 hw1 => H61 w1 hw1.ext.ext) | ((with_reducible apply oq_build); exact rfl; exact rfl; exact rfl)) | ((with_reducible apply tl_id); first | ((with_reducible apply tl_nil)) | ((with_reducible apply u_s); exact rfl; exact rfl; exact rfl; (with_reducible apply os_callS (PV := LedV 0 p) (k := 60) (hc := Tryz.call60)); exact rfl; exact rfl; exact fun D w1 hw1 => HO w1 hw1.ext.ext; rintro _ _ ⟨bS, cS, rfl, rfl⟩; simp only [List.cons_append, List.nil_append]) | ((with_reducible apply u_q); exact rfl; exact rfl; exact rfl; exact rfl) | ((with_reducible apply u_s0); exact rfl; exact rfl) | ((with_reducible apply u_s); exact rfl; exact rfl; exact rfl)) | ((with_reducible apply os_id); first | ((with_reducible apply os_x); exact rfl) | ((with_reducible apply os_storeAgg); exact rfl; exact rfl; exact rfl; exact rfl; exact rfl)) | ((with_reducible apply ox_id); first | ((with_reducible apply ox_alloc); exact rfl; intro _) | ((with_reducible apply ox_boxAgg); exact rfl; intro _)) | ((with_reducible apply rd_id); first | (apply Rd.own; (repeat (first | exact P0 | apply P1)); exact rfl; done)) | ((with_reducible apply t_id); first | ((with_reducible apply t_seq)) | (apply t_region; kernel_rfl) | ((with_reducible apply t_condT); exact rfl) | ((with_reducible apply t_condF); exact rfl) | ((with_reducible apply t_ret)) | ((with_reducible apply t_skip))) | with_reducible apply q_thenN | with_reducible apply q_thenR | exact P0 | exact Rdn.zero | apply Rdn.succ | ((with_reducible apply Norm.nil); exact rfl) | ((with_reducible apply Norm.cons); exact rfl) | ((with_reducible apply end_ret)) | exact rvs_nil | ((with_reducible apply rvs_cons)) | ((with_reducible apply rv_tmp); exact rfl) | ((with_reducible apply rv_cellAgg); exact rfl; exact rfl) | exact Nat.le_of_ble_eq_true rfl)
    all_goals rfl
  rw [las_none hge hop]
  rw [hop] at H61
  have hbz : ∀ x, (bilL v q1 q2 q3 g0 g1 C L) x 0 = (0, 0) := fun x => by
    unfold bilL
    split
    · rfl
    · rename_i z hz
      obtain ⟨_, _, _, kx, ky, kz, kh⟩ := hLk z (List.mem_of_getElem? hz)
      exact bilV_zero (legRz_ok (z := z) (bk := x.2) hcw hpk kh ⟨kx, ky, kz⟩).1
  have h00 : (hpL (bilL v q1 q2 q3 g0 g1 C L) (lnL L) p.1 eqP) 0 0 = true := by
    obtain ⟨z1, z2⟩ := atF_zero (bil := (bilL v q1 q2 q3 g0 g1 C L)) (ln := (lnL L)) (g := p.1) hbz p.1.length
    unfold hpL eqP
    first | rw [z1, z2, decide_eq_true_eq] | rw [z2, decide_eq_true_eq]
    simp only
    omega
  have hanti : AntiP (hpL (bilL v q1 q2 q3 g0 g1 C L) (lnL L) p.1 eqP) (lnG (lnL L) p.1) p.1.length := anti_of (fun x m m' h => bilL_mono h) eqP_anti
  rw [last_same hgp hanti h00]
  have hpb := ptN_le (ln := (lnG (lnL L) p.1)) (fun i => by unfold lnG; split; exact Nat.zero_le _; exact lnL_le hLk _) p.1.length 0
  have hpos := ptN_pos (ln := (lnG (lnL L) p.1)) hgp 0
  have hpix := pt_ix (ln := (lnG (lnL L) p.1)) p.1.length 0
  have hplex := pt_lex (ln := (lnG (lnL L) p.1)) p.1.length 0
  have hlen20 : p.1.length ≤ 20 := by omega
  generalize hN : ptN (lnG (lnL L) p.1) p.1.length 0 = N at *
  have hpt0 : ptF (lnG (lnL L) p.1) p.1.length 0 0 = (0, 0) := by
    obtain ⟨d, hd⟩ : ∃ d, p.1.length = d + 1 := ⟨p.1.length - 1, by omega⟩
    rw [hd]
    simp only [ptF]
    rw [if_pos (Nat.zero_le _)]
  simp only
  refine enterQ (c := cx w 83) Tryz.func19 rfl rfl rfl rfl ?_
  repeat' (first | ((with_reducible apply oq_id); first | (focus ((with_reducible apply (oq_subE (k := ((N - 1 : Nat) : Int)))); exact rfl; exact rfl; omega)) | ((with_reducible apply oq_neqF); exact rfl; exact rfl; omega) | ((with_reducible apply oq_eqlF); exact rfl; exact rfl; omega) | (apply oq_fn; exact rfl; first | exact trivial | (refine ⟨?_, ?_⟩ <;> omega) | (refine ⟨?_, ?_, ?_⟩ <;> omega) | omega | skip) | ((with_reducible apply oq_loadAgg); exact rfl; exact rfl) | ((with_reducible apply oq_call (k := 61) (hc := Tryz.call61)); exact rfl; exact rfl; exact fun D w1 hw1 => H61 w1 hw1.ext.ext) | ((with_reducible apply oq_call (k := 62) (hc := Tryz.call62)); exact rfl; exact rfl; exact fun D w1 hw1 => H62 w1 hw1.ext.ext)) | ((with_reducible apply tl_id); first | ((with_reducible apply tl_nil)) | ((with_reducible apply u_s); exact rfl; exact rfl; exact rfl; (with_reducible apply os_callS (PV := LedV 0 p) (k := 60) (hc := Tryz.call60)); exact rfl; exact rfl; exact fun D w1 hw1 => HO w1 hw1.ext.ext; rintro _ _ ⟨bS, cS, rfl, rfl⟩; simp only [List.cons_append, List.nil_append]) | ((with_reducible apply u_q); exact rfl; exact rfl; exact rfl; exact rfl) | ((with_reducible apply u_s); exact rfl; exact rfl; exact rfl)) | ((with_reducible apply os_id); first | ((with_reducible apply os_x); exact rfl)) | ((with_reducible apply ox_id); first | ((with_reducible apply ox_alloc); exact rfl; intro _) | ((with_reducible apply ox_boxAgg); exact rfl; intro _)) | ((with_reducible apply rd_id); first | (apply Rd.own; (repeat (first | exact P0 | apply P1)); exact rfl; done)) | ((with_reducible apply t_id); first | ((with_reducible apply t_seq)) | (apply t_region; kernel_rfl) | ((with_reducible apply t_condF); exact rfl) | ((with_reducible apply t_skip)) | ((with_reducible apply t_block))) | with_reducible apply q_thenN | exact Rdn.zero | apply Rdn.succ)
  rename_i b5 b6 b10
  apply t_loopP (ι := Nat × Nat) [2, 4, 5, 6, 10, 12] (fun z => [(14, .int .i64 ((z.1 : Nat) : Int)), (15, .int .i64 ((z.2 : Nat) : Int))]) (fun _ => [(b5, [.slice AM m cM, .slice A n cp], some (25, 2, 1)), (b6, [.int .i64 v, .int .i64 q1, .int .i64 q2, .int .i64 q3, .int .i64 q4, .int .i64 (g0 : Nat), .int .i64 (g1 : Nat)], some (29, 7, 1)), (b10, [.int .i64 0, .int .i64 0], some (34, 2, 1)), (bS, (cI p.2).map iv, some (3, 1, cS))]) (fun z => z.1 ≤ z.2 ∧ z.2 ≤ N - 1 ∧ (fun n => (hpL (bilL v q1 q2 q3 g0 g1 C L) (lnL L) p.1 eqP) (ptF (lnG (lnL L) p.1) p.1.length 0 n).1 (ptF (lnG (lnL L) p.1) p.1.length 0 n).2) z.1 = true ∧ ∀ n', z.2 < n' → n' ≤ N - 1 → (fun n => (hpL (bilL v q1 q2 q3 g0 g1 C L) (lnL L) p.1 eqP) (ptF (lnG (lnL L) p.1) p.1.length 0 n).1 (ptF (lnG (lnL L) p.1) p.1.length 0 n).2) n' = false) (fun z => z.2 - z.1) ((0, N - 1))
  (repeat (first | exact KeepF.nil | (apply KeepF.cons; exact rfl) | apply KeepF.skip))
  (repeat (first | exact FrSub.nil | (apply FrSub.cons; exact rfl)))
  (try simp only [List.cons_append, List.nil_append])
  (repeat' (first | exact HpSub.refl _ | (apply HpSub.consE; (repeat (first | exact P0 | apply P1)); first | exact rfl | skip)))
  · exact ⟨Nat.zero_le _, Nat.le_refl _, by simp only [hpt0]; exact h00, fun n' h1 h2 => by simp only at h1; omega⟩
  rintro ⟨lo, hi⟩ ⟨hlh, hhn, hflo, hfhi⟩
  simp only at hlh hhn hflo hfhi
  try simp only [List.cons_append, List.nil_append]
  by_cases hlt : lo < hi
  rotate_left
  · obtain rfl : lo = hi := by omega
    rw [lastM_eq (f := (fun n => (hpL (bilL v q1 q2 q3 g0 g1 C L) (lnL L) p.1 eqP) (ptF (lnG (lnL L) p.1) p.1.length 0 n).1 (ptF (lnG (lnL L) p.1) p.1.length 0 n).2)) hflo _ hhn hfhi]
    have HQ64 := H64 lo (by omega)
    repeat' (first | ((with_reducible apply oq_id); first | ((with_reducible apply oq_lssF); exact rfl; exact rfl; omega) | (apply oq_fn; exact rfl; first | exact trivial | (refine ⟨?_, ?_⟩ <;> omega) | (refine ⟨?_, ?_, ?_⟩ <;> omega) | omega | skip) | ((with_reducible apply oq_loadAgg); exact rfl; exact rfl) | ((with_reducible apply oq_call (k := 64) (hc := Tryz.call64)); exact rfl; exact rfl; exact fun D w1 hw1 => HQ64 w1 hw1.ext.ext)) | ((with_reducible apply tl_id); first | ((with_reducible apply tl_nil)) | ((with_reducible apply u_q); exact rfl; exact rfl; exact rfl; exact rfl) | ((with_reducible apply u_s0); exact rfl; exact rfl)) | ((with_reducible apply os_id); first | ((with_reducible apply os_storeAgg); exact rfl; exact rfl; exact rfl; exact rfl; exact rfl)) | ((with_reducible apply rd_id); first | (apply Rd.own; (repeat (first | exact P0 | apply P1)); exact rfl; done)) | ((with_reducible apply t_id); first | ((with_reducible apply t_seq)) | (apply t_region; kernel_rfl) | ((with_reducible apply t_condF); exact rfl) | ((with_reducible apply t_ret)) | ((with_reducible apply t_exit))) | with_reducible apply q_thenN | with_reducible apply q_thenE | ((with_reducible apply q_blockE); exact rfl) | exact P0 | ((with_reducible apply P1)) | exact Rdn.zero | apply Rdn.succ | ((with_reducible apply Norm.nil); exact rfl) | ((with_reducible apply Norm.cons); exact rfl) | ((with_reducible apply end_ret)) | exact rvs_nil | ((with_reducible apply rvs_cons)) | ((with_reducible apply rv_tmp); exact rfl) | ((with_reducible apply rv_cellAgg); exact rfl; exact rfl) | exact Nat.le_of_ble_eq_true rfl)
    all_goals rfl
  obtain ⟨nn, hnn⟩ : ∃ nn : Nat, nn = hi - (hi - lo) / 2 := ⟨_, rfl⟩
  have hx := hpix nn (by omega)
  have HQ64 := H64 nn (by omega)
  have hmel : ∀ x, p.1[(ptF (lnG (lnL L) p.1) p.1.length 0 nn).1]? = some x → (ptF (lnG (lnL L) p.1) p.1.length 0 nn).2 ≤ lnL L x.1 := fun x hx' => by
    have h := hx.2.2
    rw [lnG_at hx'] at h
    exact h
  have hme2 : (ptF (lnG (lnL L) p.1) p.1.length 0 nn).2 ≤ 1000000 := by
    obtain ⟨x, hx'⟩ : ∃ x, p.1[(ptF (lnG (lnL L) p.1) p.1.length 0 nn).1]? = some x := ⟨_, List.getElem?_eq_getElem (by omega)⟩
    exact Nat.le_trans (hmel x hx') (lnL_le hLk _)
  have HQ63 := H63 (some ⟨bS, 0, none⟩) cS (ptF (lnG (lnL L) p.1) p.1.length 0 nn).1 (ptF (lnG (lnL L) p.1) p.1.length 0 nn).2 (by omega) hmel hme2
  have hbnd := atF_bound (bil := (bilL v q1 q2 q3 g0 g1 C L)) (ln := (lnL L)) (g := p.1) (h := (ptF (lnG (lnL L) p.1) p.1.length 0 nn).1) (me := (ptF (lnG (lnL L) p.1) p.1.length 0 nn).2) (bilL_bound hLk hpk hcw) (lnL_le hLk) hme2 p.1.length
  have hfn : (fun n => (hpL (bilL v q1 q2 q3 g0 g1 C L) (lnL L) p.1 eqP) (ptF (lnG (lnL L) p.1) p.1.length 0 n).1 (ptF (lnG (lnL L) p.1) p.1.length 0 n).2) nn = decide ((atF (bilL v q1 q2 q3 g0 g1 C L) (lnL L) p.1 (ptF (lnG (lnL L) p.1) p.1.length 0 nn).1 (ptF (lnG (lnL L) p.1) p.1.length 0 nn).2 p.1.length).2.1.1 ≤ (atF (bilL v q1 q2 q3 g0 g1 C L) (lnL L) p.1 (ptF (lnG (lnL L) p.1) p.1.length 0 nn).1 (ptF (lnG (lnL L) p.1) p.1.length 0 nn).2 p.1.length).2.2.1) := rfl
  have hdown : (fun n => (hpL (bilL v q1 q2 q3 g0 g1 C L) (lnL L) p.1 eqP) (ptF (lnG (lnL L) p.1) p.1.length 0 n).1 (ptF (lnG (lnL L) p.1) p.1.length 0 n).2) nn = false → ∀ j, nn - 1 < j → j ≤ N - 1 → (fun n => (hpL (bilL v q1 q2 q3 g0 g1 C L) (lnL L) p.1 eqP) (ptF (lnG (lnL L) p.1) p.1.length 0 n).1 (ptF (lnG (lnL L) p.1) p.1.length 0 n).2) j = false := fun hf j h1 h2 => by
    rcases Nat.lt_or_ge nn j with h3 | h3
    · cases hj : (fun n => (hpL (bilL v q1 q2 q3 g0 g1 C L) (lnL L) p.1 eqP) (ptF (lnG (lnL L) p.1) p.1.length 0 n).1 (ptF (lnG (lnL L) p.1) p.1.length 0 n).2) j with
      | false => rfl
      | true =>
        have hxj := hpix j (by omega)
        have := hanti (ptF (lnG (lnL L) p.1) p.1.length 0 nn).1 (ptF (lnG (lnL L) p.1) p.1.length 0 nn).2 _ _ (by omega) hx.2.2 hxj.2.2 (by rcases hplex nn j h3 (by omega) with h4 | ⟨h4, h5⟩; exact .inl h4; exact .inr ⟨h4, by simp only; omega⟩) hj
        rw [show (hpL (bilL v q1 q2 q3 g0 g1 C L) (lnL L) p.1 eqP) (ptF (lnG (lnL L) p.1) p.1.length 0 nn).1 (ptF (lnG (lnL L) p.1) p.1.length 0 nn).2 = (fun n => (hpL (bilL v q1 q2 q3 g0 g1 C L) (lnL L) p.1 eqP) (ptF (lnG (lnL L) p.1) p.1.length 0 n).1 (ptF (lnG (lnL L) p.1) p.1.length 0 n).2) nn from rfl, hf] at this
        cases this
    · rw [show j = nn by omega]; exact hf
  generalize (atF (bilL v q1 q2 q3 g0 g1 C L) (lnL L) p.1 (ptF (lnG (lnL L) p.1) p.1.length 0 nn).1 (ptF (lnG (lnL L) p.1) p.1.length 0 nn).2 p.1.length) = at0 at *
  generalize (ptF (lnG (lnL L) p.1) p.1.length 0 nn) = pt0 at *
  obtain ⟨p1', p2'⟩ := pt0
  obtain ⟨⟨x1, x2⟩, ⟨x3, x4⟩, x5, x6⟩ := at0
  simp only at HQ63 HQ64 hbnd
  cases hf : (fun n => (hpL (bilL v q1 q2 q3 g0 g1 C L) (lnL L) p.1 eqP) (ptF (lnG (lnL L) p.1) p.1.length 0 n).1 (ptF (lnG (lnL L) p.1) p.1.length 0 n).2) nn with
  | true =>
    have hd : x3 ≤ x5 := of_decide_eq_true (hfn.symm.trans hf)
    repeat' (first | ((with_reducible apply oq_id); first | (focus ((with_reducible apply (oq_subE (m := (hi : Int)) (n := (lo : Int)) (k := ((hi - lo : Nat) : Int)))); exact rfl; exact rfl; omega)) | (focus ((with_reducible apply (oq_quo2 (a := hi - lo))); exact rfl; exact rfl; (exact ⟨rfl, by omega⟩))) | (focus ((with_reducible apply (oq_subE (m := (hi : Int)) (k := ((nn : Nat) : Int)))); exact rfl; exact rfl; omega)) | ((with_reducible apply oq_lssT); exact rfl; exact rfl; omega) | (apply oq_fn; exact rfl; first | exact trivial | (refine ⟨?_, ?_⟩ <;> omega) | (refine ⟨?_, ?_, ?_⟩ <;> omega) | omega | skip) | ((with_reducible apply oq_loadAgg); exact rfl; exact rfl) | ((with_reducible apply oq_call (k := 64) (hc := Tryz.call64)); exact rfl; exact rfl; exact fun D w1 hw1 => HQ64 w1 hw1.ext.ext) | ((with_reducible apply oq_call (k := 63) (hc := Tryz.call63)); exact rfl; exact rfl; exact fun D w1 hw1 => HQ63 w1 hw1.ext.ext (in_rows1 (by simp [cI]) hw1 (by (repeat (first | exact P0 | apply P1)))))) | ((with_reducible apply tl_id); first | ((with_reducible apply tl_nil)) | ((with_reducible apply u_q); exact rfl; exact rfl; exact rfl; exact rfl)) | ((with_reducible apply gx_id); first | ((with_reducible apply v_nil)) | ((with_reducible apply v_q); exact rfl; exact rfl; exact rfl)) | ((with_reducible apply os_id); first | ((with_reducible apply os_storeAgg); exact rfl; exact rfl; exact rfl; exact rfl; exact rfl)) | ((with_reducible apply ox_id); first | ((with_reducible apply ox_alloc); exact rfl; intro _)) | ((with_reducible apply ai_id); first | ((with_reducible apply ai_x); exact rfl; exact rfl; exact rfl; exact rfl; exact rfl) | ((with_reducible apply ai_n0); exact rfl; exact rfl; exact rfl)) | ((with_reducible apply al_keep); focus (repeat (first | exact HpSub.refl _ | (apply HpSub.cons; (repeat (first | exact P0 | apply P1))) | apply HpSub.skipX | exact HpSub.nil))) | ((with_reducible apply rd_id); first | (apply Rd.own; (repeat (first | exact P0 | apply P1)); exact rfl; done)) | ((with_reducible apply t_id); first | (with_reducible apply t_cutK (ι := (Nat × Nat × Nat)) (rid := 11) [2, 4, 5, 6, 10, 12, 14, 15, 16] (fun i => [(17, .pointer (some ⟨i.1, 0, none⟩)), (18, .pointer (some ⟨i.2.1, 0, none⟩)), (19, .pointer (some ⟨i.2.2, 0, none⟩))]) (fun i => [(i.1, [.int .i64 (x1 : Nat), .int .i64 (x2 : Nat)], some (27, 2, 1)), (i.2.1, [.int .i64 (x3 : Nat), .int .i64 (x4 : Nat)], some (27, 2, 1)), (i.2.2, [.int .i64 (x5 : Nat), .int .i64 (x6 : Nat)], some (27, 2, 1))])); (repeat (first | exact KeepF.nil | (apply KeepF.cons; exact rfl) | apply KeepF.skip)) | (apply t_mix (id := 11) [0, 1, 2, 3, 4, 5, 6, 7, 8, 9, 10, 11, 12, 13] 6 #[false, false, false, false, false, false, false, false, false, false, false, false, false, false, false, false, false, false, false, false]; kernel_rfl; kernel_rfl; exact rfl) | ((with_reducible apply t_seq)) | (apply t_region; kernel_rfl) | ((with_reducible apply t_condT); exact rfl) | ((with_reducible apply t_skip)) | ((with_reducible apply t_block))) | with_reducible apply q_thenN | exact P0 | ((with_reducible apply P1)) | exact Rdn.zero | apply Rdn.succ | ((with_reducible apply Norm.nil); exact rfl) | ((with_reducible apply Norm.cons); exact rfl) | ((with_reducible apply cut_in3) <;> (repeat' (first | exact FrSub.nil | (apply FrSub.cons; exact rfl) | exact HpSub.refl _ | (apply HpSub.consE; (repeat (first | exact P0 | apply P1)); exact rfl) | apply HpSub.skipX | exact HpSub.nil))) | ((with_reducible apply al_id); first | (apply al_done; decide +kernel) | (apply al_one 14; decide +kernel) | (apply al_one 15; decide +kernel) | (apply al_one 16; decide +kernel) | (apply al_one 17; decide +kernel) | (apply al_one 18; decide +kernel) | (apply al_one 19; decide +kernel) | (apply al_two 14 15; decide +kernel) | (apply al_two 14 16; decide +kernel) | (apply al_two 15 16; decide +kernel) | (apply al_three 14 15 16; decide +kernel)) | exact Nat.le_of_ble_eq_true rfl)
    rintro ⟨b19, b20, b21⟩
    try simp only [List.cons_append, List.nil_append]
    repeat' (first | ((with_reducible apply oq_id); first | ((with_reducible apply oq_leqT); exact rfl; exact rfl; omega) | (apply oq_fn; exact rfl; first | exact trivial | (refine ⟨?_, ?_⟩ <;> omega) | (refine ⟨?_, ?_, ?_⟩ <;> omega) | omega | skip) | ((with_reducible apply oq_load); exact rfl; exact rfl)) | ((with_reducible apply tl_id); first | ((with_reducible apply tl_nil)) | ((with_reducible apply u_q); exact rfl; exact rfl; exact rfl; exact rfl)) | ((with_reducible apply rd_id); first | (apply Rd.own; (repeat (first | exact P0 | apply P1)); exact rfl; done)) | ((with_reducible apply t_id); first | ((with_reducible apply t_seq)) | (apply t_region; kernel_rfl) | ((with_reducible apply t_condT); exact rfl)) | with_reducible apply q_thenN | with_reducible apply q_blockN)
    all_goals (refine ⟨(nn, hi), ⟨by simp only; omega, hhn, hf, hfhi⟩, by simp only; omega, ?_, ?_⟩ <;> (repeat' (first | exact FrSub.nil | (apply FrSub.cons; exact rfl) | exact HpSub.refl _ | (apply HpSub.consE; (repeat (first | exact P0 | apply P1)); first | exact rfl | skip) | apply HpSub.skipX)))
  | false =>
    have hd : ¬ (x3 ≤ x5) := of_decide_eq_false (hfn.symm.trans hf)
    repeat' (first | ((with_reducible apply oq_id); first | (focus ((with_reducible apply (oq_subE (m := (hi : Int)) (n := (lo : Int)) (k := ((hi - lo : Nat) : Int)))); exact rfl; exact rfl; omega)) | (focus ((with_reducible apply (oq_quo2 (a := hi - lo))); exact rfl; exact rfl; (exact ⟨rfl, by omega⟩))) | (focus ((with_reducible apply (oq_subE (m := (hi : Int)) (k := ((nn : Nat) : Int)))); exact rfl; exact rfl; omega)) | ((with_reducible apply oq_lssT); exact rfl; exact rfl; omega) | (apply oq_fn; exact rfl; first | exact trivial | (refine ⟨?_, ?_⟩ <;> omega) | (refine ⟨?_, ?_, ?_⟩ <;> omega) | omega | skip) | ((with_reducible apply oq_loadAgg); exact rfl; exact rfl) | ((with_reducible apply oq_call (k := 64) (hc := Tryz.call64)); exact rfl; exact rfl; exact fun D w1 hw1 => HQ64 w1 hw1.ext.ext) | ((with_reducible apply oq_call (k := 63) (hc := Tryz.call63)); exact rfl; exact rfl; exact fun D w1 hw1 => HQ63 w1 hw1.ext.ext (in_rows1 (by simp [cI]) hw1 (by (repeat (first | exact P0 | apply P1)))))) | ((with_reducible apply tl_id); first | ((with_reducible apply tl_nil)) | ((with_reducible apply u_q); exact rfl; exact rfl; exact rfl; exact rfl)) | ((with_reducible apply gx_id); first | ((with_reducible apply v_nil)) | ((with_reducible apply v_q); exact rfl; exact rfl; exact rfl)) | ((with_reducible apply os_id); first | ((with_reducible apply os_storeAgg); exact rfl; exact rfl; exact rfl; exact rfl; exact rfl)) | ((with_reducible apply ox_id); first | ((with_reducible apply ox_alloc); exact rfl; intro _)) | ((with_reducible apply ai_id); first | ((with_reducible apply ai_x); exact rfl; exact rfl; exact rfl; exact rfl; exact rfl) | ((with_reducible apply ai_n0); exact rfl; exact rfl; exact rfl)) | ((with_reducible apply al_keep); focus (repeat (first | exact HpSub.refl _ | (apply HpSub.cons; (repeat (first | exact P0 | apply P1))) | apply HpSub.skipX | exact HpSub.nil))) | ((with_reducible apply rd_id); first | (apply Rd.own; (repeat (first | exact P0 | apply P1)); exact rfl; done)) | ((with_reducible apply t_id); first | (with_reducible apply t_cutK (ι := (Nat × Nat × Nat)) (rid := 11) [2, 4, 5, 6, 10, 12, 14, 15, 16] (fun i => [(17, .pointer (some ⟨i.1, 0, none⟩)), (18, .pointer (some ⟨i.2.1, 0, none⟩)), (19, .pointer (some ⟨i.2.2, 0, none⟩))]) (fun i => [(i.1, [.int .i64 (x1 : Nat), .int .i64 (x2 : Nat)], some (27, 2, 1)), (i.2.1, [.int .i64 (x3 : Nat), .int .i64 (x4 : Nat)], some (27, 2, 1)), (i.2.2, [.int .i64 (x5 : Nat), .int .i64 (x6 : Nat)], some (27, 2, 1))])); (repeat (first | exact KeepF.nil | (apply KeepF.cons; exact rfl) | apply KeepF.skip)) | (apply t_mix (id := 11) [0, 1, 2, 3, 4, 5, 6, 7, 8, 9, 10, 11, 12, 13] 6 #[false, false, false, false, false, false, false, false, false, false, false, false, false, false, false, false, false, false, false, false]; kernel_rfl; kernel_rfl; exact rfl) | ((with_reducible apply t_seq)) | (apply t_region; kernel_rfl) | ((with_reducible apply t_condT); exact rfl) | ((with_reducible apply t_skip)) | ((with_reducible apply t_block))) | with_reducible apply q_thenN | exact P0 | ((with_reducible apply P1)) | exact Rdn.zero | apply Rdn.succ | ((with_reducible apply Norm.nil); exact rfl) | ((with_reducible apply Norm.cons); exact rfl) | ((with_reducible apply cut_in3) <;> (repeat' (first | exact FrSub.nil | (apply FrSub.cons; exact rfl) | exact HpSub.refl _ | (apply HpSub.consE; (repeat (first | exact P0 | apply P1)); exact rfl) | apply HpSub.skipX | exact HpSub.nil))) | ((with_reducible apply al_id); first | (apply al_done; decide +kernel) | (apply al_one 14; decide +kernel) | (apply al_one 15; decide +kernel) | (apply al_one 16; decide +kernel) | (apply al_one 17; decide +kernel) | (apply al_one 18; decide +kernel) | (apply al_one 19; decide +kernel) | (apply al_two 14 15; decide +kernel) | (apply al_two 14 16; decide +kernel) | (apply al_two 15 16; decide +kernel) | (apply al_three 14 15 16; decide +kernel)) | exact Nat.le_of_ble_eq_true rfl)
    rintro ⟨b19, b20, b21⟩
    try simp only [List.cons_append, List.nil_append]
    repeat' (first | ((with_reducible apply oq_id); first | (focus ((with_reducible apply (oq_subE (m := ((nn : Nat) : Int)) (k := ((nn - 1 : Nat) : Int)))); exact rfl; exact rfl; omega)) | ((with_reducible apply oq_leqF); exact rfl; exact rfl; omega) | (apply oq_fn; exact rfl; first | exact trivial | (refine ⟨?_, ?_⟩ <;> omega) | (refine ⟨?_, ?_, ?_⟩ <;> omega) | omega | skip) | ((with_reducible apply oq_load); exact rfl; exact rfl)) | ((with_reducible apply tl_id); first | ((with_reducible apply tl_nil)) | ((with_reducible apply u_q); exact rfl; exact rfl; exact rfl; exact rfl)) | ((with_reducible apply rd_id); first | (apply Rd.own; (repeat (first | exact P0 | apply P1)); exact rfl; done)) | ((with_reducible apply t_id); first | ((with_reducible apply t_seq)) | (apply t_region; kernel_rfl) | ((with_reducible apply t_condF); exact rfl)) | with_reducible apply q_thenN | with_reducible apply q_blockN)
    all_goals (refine ⟨(lo, nn - 1), ⟨by simp only; omega, by simp only; omega, hflo, hdown hf⟩, by simp only; omega, ?_, ?_⟩ <;> (repeat' (first | exact FrSub.nil | (apply FrSub.cons; exact rfl) | exact HpSub.refl _ | (apply HpSub.consE; (repeat (first | exact P0 | apply P1)); first | exact rfl | skip) | apply HpSub.skipX)))
end Go.Proofs.YtcjkndjjbjoehaaGreat

