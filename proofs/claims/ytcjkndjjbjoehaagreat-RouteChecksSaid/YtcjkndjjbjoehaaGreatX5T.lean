/- A part of the proof: rules for walks, and contracts of functions (20). -/
import Derived.Test.YtcjkndjjbjoehaaGreatX5A
import Derived.Test.YtcjkndjjbjoehaaGreatX5R
import Derived.Test.YtcjkndjjbjoehaaGreatX5S
import Derived.Test.YtcjkndjjbjoehaaGreatX5D
import Derived.Test.YtcjkndjjbjoehaaGreatX5M
import Derived.Test.YtcjkndjjbjoehaaGreatX5B
import Derived.Test.YtcjkndjjbjoehaaGreatX5L
set_option linter.unusedVariables false
set_option linter.unusedSimpArgs false
set_option maxRecDepth 100000
set_option maxHeartbeats 2000000
namespace Go.Proofs.YtcjkndjjbjoehaaGreat
theorem gqT0 {G A1 A2 A3 A4 A5 A6 A7 A8 A9 A10 A11 A12 A13 A14 A15 A16 : Prop} (p : GoP A1 A2 A3 A4 A5 A6 A7 A8 A9 A10 A11 A12 A13 A14 A15 A16) (h : GoL A1 → GoL A2 → GoL A3 → GoL A4 → GoL A5 → GoL A6 → GoL A7 → GoL A8 → GoL A9 → GoL A10 → GoL A11 → GoL A12 → GoL A13 → GoL A14 → GoL A15 → GoL A16 → GoM → G := by intro m1 m2 m3 m4 m5 m6 m7 m8 m9 m10 m11 m12 m13 m14 m15 m16 _; (repeat' (first | ((with_reducible apply oq_id); first | ((with_reducible apply oc_id); first | ((with_reducible apply oq_call (hc := Tryz.call66)); exact rfl; exact rfl; exact fun D w1 hw1 => HN w1 hw1.ext.ext) | ((with_reducible apply oq_call (hc := Tryz.call57)); exact rfl; exact rfl; exact fun D w1 hw1 => HN w1 hw1.ext.ext) | ((with_reducible apply oq_call (hc := Tryz.call75)); exact rfl; exact rfl; exact fun D w1 hw1 => sameInts_calls _ _ _ _ _ _ (cI l) (cI l) true (by simp) w1 (hq.ext hw1.ext.ext) (hq'.ext hw1.ext.ext) hln hln) | ((with_reducible apply oq_call (hc := Tryz.call71)); exact rfl; exact rfl; (intro D w1 hw1; refine within6_f _ _ _ ?_ w1; omega)) | ((with_reducible apply oq_call (hc := Tryz.call71)); exact rfl; exact rfl; (intro D w1 hw1; refine within6_t _ _ _ ?_ w1; omega)) | ((with_reducible apply oq_call (hc := Tryz.call70)); exact rfl; exact rfl; exact fun D w1 hw1 => HA w1 hw1.ext.ext) | ((with_reducible apply oq_call (hc := Tryz.call79)); exact rfl; exact rfl; exact fun D w1 hw1 => HS2 w1 hw1.ext.ext)) | ((with_reducible apply ob_id); first | ((with_reducible apply oq_lssF); exact rfl; exact rfl; omega) | (focus ((with_reducible apply (oq_subE (k := (n : Int) - 1))); exact rfl; exact rfl; omega)) | (focus ((with_reducible apply (oq_subE (k := ((k : Nat) : Int)))); exact rfl; exact rfl; omega)) | (focus ((with_reducible apply (oq_subE (k := ((y : Nat) : Int)))); exact rfl; exact rfl; omega)) | ((with_reducible apply oq_neqT); exact rfl; exact rfl; omega) | ((with_reducible apply oq_neqF); exact rfl; exact rfl; omega) | ((with_reducible apply oq_gtrT); exact rfl; exact rfl; omega) | ((with_reducible apply oq_lssT); exact rfl; exact rfl; omega) | ((with_reducible apply oq_gtrF); exact rfl; exact rfl; omega)) | (focus ((with_reducible apply oq_indexAddrN); (iterate 4 exact rfl); omega)) | (focus ((with_reducible apply oq_indexAddrN (i := k)); (iterate 4 exact rfl); omega)) | (focus ((with_reducible apply oq_indexAddrN (i := t)); (iterate 4 exact rfl); omega)) | (apply oq_fn; exact rfl; first | exact trivial | (constructor <;> omega) | omega | skip) | ((with_reducible apply oq_load); exact rfl; exact rfl) | ((with_reducible apply oq_loadAgg); exact rfl; exact rfl)) | ((with_reducible apply tl_id); first | (with_reducible apply tl_nil) | ((with_reducible apply u_s); (iterate 3 exact rfl); (with_reducible apply os_callS (PV := DskV AM _ m cM n cp v q1 q2 q3 q4 g0 g1 C L) (hc := Tryz.call66)); exact rfl; exact rfl; exact fun D w1 hw1 => HO w1 hw1.ext.ext; rintro _ _ ⟨bD, bM, E, rfl, rfl, hE2, hnl⟩; simp only [dkH, List.cons_append, List.nil_append]) | ((with_reducible apply u_q); (iterate 4 exact rfl)) | ((with_reducible apply u_s); (iterate 3 exact rfl)) | ((with_reducible apply u_skip); (iterate 3 exact rfl))) | ((with_reducible apply gx_id); first | (with_reducible apply v_nil) | ((with_reducible apply v_q); (iterate 3 exact rfl))) | ((with_reducible apply os_id); first | ((with_reducible apply os_x); exact rfl) | ((with_reducible apply os_storeAgg); (iterate 5 exact rfl)) | ((with_reducible apply os_append (hk := app_ok31)); exact rfl; exact rfl; (repeat first | exact P0 | apply P1))) | ((with_reducible apply ox_id); first | ((with_reducible apply ox_boxAgg); exact rfl; intro _) | ((with_reducible apply ox_alloc); exact rfl; intro _) | ((with_reducible apply ox_buildSlice1); (iterate 6 exact rfl); intro _)) | ((with_reducible apply ai_id); first | ((with_reducible apply ai_x); (iterate 5 exact rfl)) | ((with_reducible apply ai_n0); (iterate 3 exact rfl))) | ((with_reducible apply al_keep); focus (repeat (first | exact HpSub.refl _ | (apply HpSub.cons; (repeat first | exact P0 | apply P1)) | apply HpSub.skipX | exact HpSub.nil))) | ((with_reducible apply rd_id); first | (apply rd_st hxl; (repeat first | exact P0 | apply P1); done) | (apply Rd.own; (repeat first | exact P0 | apply P1); exact rfl; done) | (apply Rd.old; (first | (with_reducible assumption) | exact c0 | exact c1 | exact c2 | exact c3 | exact c4 | exact c5 | exact c6 | exact c7 | exact c8 | exact d0 | exact d1 | exact d2 | exact d3 | exact d4 | exact d5); first | exact List.not_mem_nil | exact m0 | exact m1 | exact m2 | exact m3 | exact m4 | exact m5 | exact m6 | exact m7 | exact m8 | exact m9)) | ((with_reducible apply t_id); first | (apply t_mix (id := 10) [0, 1, 2, 3, 4, 5, 6, 7] 2 #[false, false, false, false, false, false, false, false, false, false]; kernel_rfl; kernel_rfl; exact rfl) | (with_reducible apply t_seq) | (apply t_region; kernel_rfl) | (apply t_drawn; kernel_rfl; decide +kernel; try simp only [List.append_eq, List.cons_append, List.nil_append]) | ((with_reducible apply t_condT); exact rfl) | ((with_reducible apply t_condF); exact rfl) | (with_reducible apply t_ret) | (with_reducible apply t_exit) | (with_reducible apply t_skip) | (with_reducible apply t_block)) | with_reducible apply q_thenN | with_reducible apply q_thenR | with_reducible apply q_blockR | with_reducible apply q_thenE | ((with_reducible apply q_blockE); exact rfl) | with_reducible apply q_blockN | exact P0 | exact Rdn.zero | apply Rdn.succ | ((with_reducible apply Norm.nil); exact rfl) | ((with_reducible apply Norm.cons); exact rfl) | (with_reducible apply end_ret) | exact rvs_nil | (with_reducible apply rvs_cons) | ((with_reducible apply rv_tmp); exact rfl) | ((with_reducible apply al_id); first | (apply al_done; decide +kernel) | (apply al_one 8; decide +kernel) | (apply al_one 9; decide +kernel)) | exact cI_len1 _ | exact Nat.le_of_ble_eq_true rfl | exact (rfl : (_ : Bool) = true) | omega | (intro _ _; with_reducible apply tl_id))); (try focus (repeat (rename_i x; first | exact goD x m1.p | revert x))); (try focus (repeat (rename_i x; first | exact goD x m2.p | revert x))); (try focus (repeat (rename_i x; first | exact goD x m3.p | revert x))); (try focus (repeat (rename_i x; first | exact goD x m4.p | revert x))); (try focus (repeat (rename_i x; first | exact goD x m5.p | revert x))); (try focus (repeat (rename_i x; first | exact goD x m6.p | revert x))); (try focus (repeat (rename_i x; first | exact goD x m7.p | revert x))); (try focus (repeat (rename_i x; first | exact goD x m8.p | revert x))); (try focus (repeat (rename_i x; first | exact goD x m9.p | revert x))); (try focus (repeat (rename_i x; first | exact goD x m10.p | revert x))); (try focus (repeat (rename_i x; first | exact goD x m11.p | revert x))); (try focus (repeat (rename_i x; first | exact goD x m12.p | revert x))); (try focus (repeat (rename_i x; first | exact goD x m13.p | revert x))); (try focus (repeat (rename_i x; first | exact goD x m14.p | revert x))); (try focus (repeat (rename_i x; first | exact goD x m15.p | revert x))); (try focus (repeat (rename_i x; first | exact goD x m16.p | revert x)))) (e : GoTs A1 A2 A3 A4 A5 A6 A7 A8 A9 A10 A11 A12 A13 A14 A15 A16 := by constructor <;> first | (with_reducible exact GoT.t) | exact GoT.u) : G := p.run h
theorem gqT6 {G A1 A2 A3 A4 A5 A6 A7 A8 A9 A10 A11 A12 A13 A14 A15 A16 : Prop} (p : GoP A1 A2 A3 A4 A5 A6 A7 A8 A9 A10 A11 A12 A13 A14 A15 A16) (h : GoL A1 → GoL A2 → GoL A3 → GoL A4 → GoL A5 → GoL A6 → GoL A7 → GoL A8 → GoL A9 → GoL A10 → GoL A11 → GoL A12 → GoL A13 → GoL A14 → GoL A15 → GoL A16 → GoM → G := by intro m1 m2 m3 m4 m5 m6 m7 m8 m9 m10 m11 m12 m13 m14 m15 m16 _; (repeat' (first | ((with_reducible apply oq_id); first | ((with_reducible apply oq_call (hc := Tryz.call67)); exact rfl; exact rfl; (intro D w1 hw1; refine rfrom1_f ?_ hw1 (by (repeat first | exact P0 | apply P1)); omega)) | ((with_reducible apply oq_call (hc := Tryz.call71)); exact rfl; exact rfl; (intro D w1 hw1; refine within6_f _ _ _ ?_ w1; omega)) | ((with_reducible apply oq_call (hc := Tryz.call71)); exact rfl; exact rfl; (intro D w1 hw1; refine within6_t _ _ _ ?_ w1; omega)) | ((with_reducible apply oq_eqNilT); (iterate 3 exact rfl)) | (focus ((with_reducible apply (oq_subE (k := (m : Int) - 1))); exact rfl; exact rfl; omega)) | (apply oq_fn; exact rfl; first | exact trivial | (constructor <;> omega) | omega | skip) | ((with_reducible apply oq_load); exact rfl; exact rfl)) | ((with_reducible apply tl_id); first | (with_reducible apply tl_nil) | ((with_reducible apply u_q); (iterate 4 exact rfl)) | ((with_reducible apply u_s); (iterate 3 exact rfl))) | ((with_reducible apply os_id); first | ((with_reducible apply os_x); exact rfl)) | ((with_reducible apply ox_id); first | ((with_reducible apply ox_boxAgg); exact rfl; intro _) | ((with_reducible apply ox_buildSlice1); (iterate 6 exact rfl); intro _)) | ((with_reducible apply rd_id); first | (apply Rd.own; (repeat first | exact P0 | apply P1); exact rfl; done)) | ((with_reducible apply t_id); first | (with_reducible apply t_seq) | (apply t_region; kernel_rfl) | ((with_reducible apply t_condT); exact rfl) | (with_reducible apply t_ret) | ((with_reducible apply t_condF); exact rfl) | (with_reducible apply t_skip) | (with_reducible apply t_block)) | with_reducible apply q_thenN | with_reducible apply q_thenR | (with_reducible apply end_ret) | exact rvs_nil | (with_reducible apply rvs_cons) | ((with_reducible apply rv_tmp); exact rfl))); (try focus (repeat (rename_i x; first | exact goD x m1.p | revert x))); (try focus (repeat (rename_i x; first | exact goD x m2.p | revert x))); (try focus (repeat (rename_i x; first | exact goD x m3.p | revert x))); (try focus (repeat (rename_i x; first | exact goD x m4.p | revert x))); (try focus (repeat (rename_i x; first | exact goD x m5.p | revert x))); (try focus (repeat (rename_i x; first | exact goD x m6.p | revert x))); (try focus (repeat (rename_i x; first | exact goD x m7.p | revert x))); (try focus (repeat (rename_i x; first | exact goD x m8.p | revert x))); (try focus (repeat (rename_i x; first | exact goD x m9.p | revert x))); (try focus (repeat (rename_i x; first | exact goD x m10.p | revert x))); (try focus (repeat (rename_i x; first | exact goD x m11.p | revert x))); (try focus (repeat (rename_i x; first | exact goD x m12.p | revert x))); (try focus (repeat (rename_i x; first | exact goD x m13.p | revert x))); (try focus (repeat (rename_i x; first | exact goD x m14.p | revert x))); (try focus (repeat (rename_i x; first | exact goD x m15.p | revert x))); (try focus (repeat (rename_i x; first | exact goD x m16.p | revert x)))) (e : GoTs A1 A2 A3 A4 A5 A6 A7 A8 A9 A10 A11 A12 A13 A14 A15 A16 := by constructor <;> first | (with_reducible exact GoT.t) | exact GoT.u) : G := p.run h
theorem goT1 {G A1 A2 A3 A4 A5 A6 A7 A8 A9 A10 A11 A12 A13 A14 A15 A16 : Prop} (p : GoP A1 A2 A3 A4 A5 A6 A7 A8 A9 A10 A11 A12 A13 A14 A15 A16) (h : GoL A1 → GoL A2 → GoL A3 → GoL A4 → GoL A5 → GoL A6 → GoL A7 → GoL A8 → GoL A9 → GoL A10 → GoL A11 → GoL A12 → GoL A13 → GoL A14 → GoL A15 → GoL A16 → GoM → G := by intro m1 m2 m3 m4 m5 m6 m7 m8 m9 m10 m11 m12 m13 m14 m15 m16 _; (repeat' (first | ((with_reducible apply oq_id); first | ((with_reducible apply oq_call (hc := Tryz.call75)); exact rfl; exact rfl; exact fun D w1 hw1 => sameInts_calls A A' n c n' c' l l true (by simp) w1 (hr.ext hw1.ext.ext) (hr'.ext hw1.ext.ext) hn hn') | ((with_reducible apply oq_call (hc := Tryz.call15)); exact rfl; exact rfl; exact fun D w1 hw1 => HG w1 hw1.ext.ext) | (focus ((with_reducible apply oq_indexAddrN); (iterate 4 exact rfl); omega)) | (apply oq_fn; exact rfl; first | exact trivial | (constructor <;> omega) | omega | skip) | ((with_reducible apply oq_load); exact rfl; exact rfl) | ((with_reducible apply oq_loadAgg); exact rfl; exact rfl)) | ((with_reducible apply tl_id); first | (with_reducible apply tl_nil) | ((with_reducible apply u_q); (iterate 4 exact rfl)) | ((with_reducible apply u_s); (iterate 3 exact rfl))) | ((with_reducible apply gx_id); first | (with_reducible apply v_nil) | ((with_reducible apply v_q); (iterate 3 exact rfl))) | ((with_reducible apply os_id); first | ((with_reducible apply os_x); exact rfl)) | ((with_reducible apply ox_id); first | ((with_reducible apply ox_boxAgg); exact rfl; intro _)) | ((with_reducible apply rd_id); first | (apply Rd.own; (repeat first | exact P0 | apply P1); exact rfl; done) | (apply Rd.old; (first | (with_reducible assumption) | exact c0 | exact c1 | exact c2 | exact c3 | exact c4 | exact c5 | exact c6 | exact c7 | exact c8 | exact d0 | exact d1 | exact d2 | exact d3 | exact d4 | exact d5); first | exact List.not_mem_nil | exact m0 | exact m1 | exact m2 | exact m3 | exact m4 | exact m5 | exact m6 | exact m7 | exact m8 | exact m9)) | ((with_reducible apply t_id); first | (with_reducible apply t_seq) | (apply t_region; kernel_rfl) | (apply t_drawn; kernel_rfl; decide +kernel; try simp only [List.append_eq, List.cons_append, List.nil_append]) | ((with_reducible apply t_condT); exact rfl) | ((with_reducible apply t_condD); exact rfl; all_goals first | (intro _; try (exfalso; omega)) | skip) | ((with_reducible apply t_condN); exact rfl; all_goals first | (intro _; try (exfalso; omega)) | skip) | (with_reducible apply t_ret) | (with_reducible apply t_skip) | (with_reducible apply t_exit) | (with_reducible apply t_block)) | with_reducible apply q_thenN | with_reducible apply q_thenR | with_reducible apply q_blockR | with_reducible apply q_blockN | with_reducible apply q_thenE | ((with_reducible apply q_blockE); exact rfl) | exact Rdn.zero | apply Rdn.succ | (with_reducible apply end_ret) | exact rvs_nil | (with_reducible apply rvs_cons) | ((with_reducible apply rv_tmp); exact rfl))); (try focus (repeat (rename_i x; first | exact goD x m1.p | revert x))); (try focus (repeat (rename_i x; first | exact goD x m2.p | revert x))); (try focus (repeat (rename_i x; first | exact goD x m3.p | revert x))); (try focus (repeat (rename_i x; first | exact goD x m4.p | revert x))); (try focus (repeat (rename_i x; first | exact goD x m5.p | revert x))); (try focus (repeat (rename_i x; first | exact goD x m6.p | revert x))); (try focus (repeat (rename_i x; first | exact goD x m7.p | revert x))); (try focus (repeat (rename_i x; first | exact goD x m8.p | revert x))); (try focus (repeat (rename_i x; first | exact goD x m9.p | revert x))); (try focus (repeat (rename_i x; first | exact goD x m10.p | revert x))); (try focus (repeat (rename_i x; first | exact goD x m11.p | revert x))); (try focus (repeat (rename_i x; first | exact goD x m12.p | revert x))); (try focus (repeat (rename_i x; first | exact goD x m13.p | revert x))); (try focus (repeat (rename_i x; first | exact goD x m14.p | revert x))); (try focus (repeat (rename_i x; first | exact goD x m15.p | revert x))); (try focus (repeat (rename_i x; first | exact goD x m16.p | revert x)))) (e : GoTs A1 A2 A3 A4 A5 A6 A7 A8 A9 A10 A11 A12 A13 A14 A15 A16 := by constructor <;> first | (with_reducible exact GoT.t) | exact GoT.u) : G := p.run h
open Go.RowKit
attribute [local irreducible] OQ OS OX Rd T TL GX GL AL AI RV wpG SAny Calls
def flCells (x : Nat × Bool) : List Value := [.int .i64 (x.1 : Nat), .bool x.2]
theorem flF_len : ∀ g : List (Nat × Bool), (g.map flCells).flatten.length = g.length * 2
 | [] => rfl
 | x :: g => by
   simp only [List.map_cons, List.flatten_cons, List.length_append, flF_len g, List.length_cons, flCells, List.length_nil]
   omega
theorem cI_len1 (S : List Nat) : ((cI S).map iv).length = S.length * 1 := by simp [cI]
theorem fl_snoc (g : List (Nat × Bool)) (t : Nat) (b : Bool) : (g.map flCells).flatten ++ [Value.int .i64 ((t : Nat) : Int), Value.bool b] = ((g ++ [(t, b)]).map flCells).flatten := by simp [flCells]
theorem fl_rows_len (g : List (Nat × Bool)) : ∀ r ∈ g.map flCells, r.length = 2 := by simp only [List.mem_map]; rintro r ⟨x, _, rfl⟩; rfl
def flS (g : List (Nat × Bool)) : Option (Nat × Nat) → Value
 | none => .slice none 0 0
 | some (b, cap) => .slice (some ⟨b, 0, none⟩) g.length cap
def flH (g : List (Nat × Bool)) : Option (Nat × Nat) → Hp
 | none => []
 | some (b, cap) => [(b, (g.map flCells).flatten, some (153, 2, cap))]
theorem rd_st {c : Cx} {H H' : Hp} {g k : Nat} {S : List Nat} {x : Nat} {tg : Tg} (h : S[k]? = some x) (p : Pick H g ((cI S).map iv) tg H') : Rd c H ⟨g, 0 + k * 1, none⟩ (.int .i64 (x : Nat)) :=
 Rd.own p (by rw [Nat.zero_add, Nat.mul_one, List.getElem?_map]; unfold cI; rw [List.getElem?_map, h]; rfl)
def TrvH (bT bD bM bS cS : Nat) (E : List En) (AP AT : Option Addr) (m cM n cp : Nat) (v q1 q2 q3 q4 g0 g1 : Int) (p : Trp) (o : Option (Nat × Nat)) : Hp := (bT, [.pointer (some ⟨bD, 0, none⟩), .slice (some ⟨bS, 0, none⟩) p.2.length cS, flS p.1 o], some (147, 3, 1)) :: (bS, (cI p.2).map iv, some (3, 1, cS)) :: (flH p.1 o ++ dkH bD bM AP AT m cM n cp v q1 q2 q3 q4 g0 g1 E)
def TravV (AP AT : Option Addr) (m cM n cp : Nat) (v q1 q2 q3 q4 g0 g1 : Int) (C : List Wn) (L : List Lg) : Option Trp → Value → Hp → Prop
 | none, u, H => u = .tuple #[.pointer none, .int .i64 2] ∧ H = []
 | some p, u, H => ∃ bT bD bM bS cS E o, u = .tuple #[.pointer (some ⟨bT, 0, none⟩), .int .i64 0] ∧ (o = none → p.1 = []) ∧ H = TrvH bT bD bM bS cS E AP AT m cM n cp v q1 q2 q3 q4 g0 g1 p o ∧ E.map keyOf = deskE v q1 q2 q3 C L n ∧ ∀ e ∈ E, e.o = none → e.l = []
def tripI (m : Nat) (L : List Lg) (s : Int) (rs : List Int) : Option Trp := if 0 ≤ s ∧ s ≤ (m : Int) - 1 then tripF L s.toNat rs else none
theorem allF_iff {lo hi : Int} {rs : List Int} : allFrom lo hi rs = true ↔ ∀ r ∈ rs, lo ≤ r ∧ r ≤ hi := by simp [allFrom]
theorem travel_no (AM A : Option Addr) (m cM n cp : Nat) (L : List Lg) (w : World) (hr : RdS w 5 A n (L.map lgCells)) (hn : n ≤ 1000000) (hm : m ≤ 1000000) (v q1 q2 q3 q4 g0 g1 : Int) (AC : Option Addr) (nC cC : Nat) (C : List Wn) (hrc : CastR w AC nC C) (hs : ∀ z ∈ C, z.n ≤ 1000000) (s : Int) (AR : Option Addr) (nR cR : Nat) (rs : List Int) (hR : RdS w 1 AR nR (rs.map inCells)) (hnR : nR ≤ 1000000) (hE : askE m L v q1 q2 q3 q4 g0 g1 C ≠ 0) : Calls Tryz.prog 57 #[.agg #[.slice AM m cM, .slice A n cp], .agg #[.int .i64 v, .int .i64 q1, .int .i64 q2, .int .i64 q3, .int .i64 q4, .int .i64 g0, .int .i64 g1], .slice AC nC cC, .int .i64 s, .slice AR nR cR] w fun e w' => e = .returned (.tuple #[.pointer none, .int .i64 (askE m L v q1 q2 q3 q4 g0 g1 C)]) ∧ Ext w w' := by
 have HN := fun w1 (hx : Ext w w1) => open_no AM A m cM n cp L w1 (hr.ext hx) hn hm v q1 q2 q3 q4 g0 g1 AC nC cC C (hrc.ext hx) hs hE
 generalize askE m L v q1 q2 q3 q4 g0 g1 C = e at *
 refine enterQ (c := cx w 123) Tryz.func57 rfl rfl rfl rfl ?_
 ((all_goals refine gqT0 ?_); (all_goals constructor); (any_goals exact trivial); all_goals intros)
 all_goals rfl
theorem travel_many (AM A : Option Addr) (m cM n cp : Nat) (L : List Lg) (w : World) (hr : RdS w 5 A n (L.map lgCells)) (hn : n ≤ 1000000) (hm : m ≤ 1000000) (v q1 q2 q3 q4 g0 g1 : Int) (AC : Option Addr) (nC cC : Nat) (C : List Wn) (hrc : CastR w AC nC C) (hs : ∀ z ∈ C, z.n ≤ 1000000) (s : Int) (AR : Option Addr) (nR cR : Nat) (rs : List Int) (hR : RdS w 1 AR nR (rs.map inCells)) (hnR : nR ≤ 1000000) (hE : askE m L v q1 q2 q3 q4 g0 g1 C = 0) (h20 : 20 < rs.length) : Calls Tryz.prog 57 #[.agg #[.slice AM m cM, .slice A n cp], .agg #[.int .i64 v, .int .i64 q1, .int .i64 q2, .int .i64 q3, .int .i64 q4, .int .i64 g0, .int .i64 g1], .slice AC nC cC, .int .i64 s, .slice AR nR cR] w fun e w' => e = .returned (.tuple #[.pointer none, .int .i64 4]) ∧ Ext w w' := by
 have hl : rs.length = nR := by simpa using hR.len
 have HO := fun w1 (hx : Ext w w1) => open_ok AM A m cM n cp L w1 (hr.ext hx) hn hm v q1 q2 q3 q4 g0 g1 AC nC cC C (hrc.ext hx) hs hE
 refine enterQ (c := cx w 123) Tryz.func57 rfl rfl rfl rfl ?_
 ((all_goals refine gqT0 ?_); (all_goals constructor); (any_goals exact trivial); all_goals intros)
 all_goals rfl
theorem travel_ok (AM A : Option Addr) (m cM n cp : Nat) (L : List Lg) (w : World) (hr : RdS w 5 A n (L.map lgCells)) (hn : n ≤ 1000000) (hm : m ≤ 1000000) (v q1 q2 q3 q4 g0 g1 : Int) (AC : Option Addr) (nC cC : Nat) (C : List Wn) (hrc : CastR w AC nC C) (hs : ∀ z ∈ C, z.n ≤ 1000000) (s : Int) (AR : Option Addr) (nR cR : Nat) (rs : List Int) (hR : RdS w 1 AR nR (rs.map inCells)) (hnR : nR ≤ 1000000) (hE : askE m L v q1 q2 q3 q4 g0 g1 C = 0) (h20 : rs.length ≤ 20) : Calls Tryz.prog 57 #[.agg #[.slice AM m cM, .slice A n cp], .agg #[.int .i64 v, .int .i64 q1, .int .i64 q2, .int .i64 q3, .int .i64 q4, .int .i64 g0, .int .i64 g1], .slice AC nC cC, .int .i64 s, .slice AR nR cR] w fun e w' => ∃ u H', e = .returned u ∧ TravV AM A m cM n cp v q1 q2 q3 q4 g0 g1 C L (tripI m L s rs) u H' ∧ Has w ⟨[], []⟩ H' w' := by
 have hl : L.length = n := by simpa using hr.len
 have hlr : rs.length = nR := by simpa using hR.len
 have HO := fun w1 (hx : Ext w w1) => open_ok AM A m cM n cp L w1 (hr.ext hx) hn hm v q1 q2 q3 q4 g0 g1 AC nC cC C (hrc.ext hx) hs hE
 have hLk : ∀ z ∈ L, LegOk m z := (chartB_iff.1 (askE_ok hE).1).2.2
 clear hE
 have HRt := fun w1 (hx : Ext w w1) => rfrom_calls 0 ((n : Int) - 1) AR nR cR rs w1 (hR.ext hx) (by omega)
 by_cases hst : 0 ≤ s ∧ s ≤ (m : Int) - 1
 rotate_left
 · rw [show tripI m L s rs = none from if_neg hst]
   refine enterF (c := cx w 123) Tryz.func57 rfl rfl rfl rfl ?_
   repeat' (first | ((with_reducible apply oq_id); first | (focus ((with_reducible apply (oq_subE (k := (m : Int) - 1))); exact rfl; exact rfl; omega)) | ((with_reducible apply oq_neqF); exact rfl; exact rfl; omega) | ((with_reducible apply oq_gtrF); exact rfl; exact rfl; omega) | (apply oq_fn; exact rfl; first | exact trivial | (constructor <;> omega) | omega | skip) | ((with_reducible apply oq_load); exact rfl; exact rfl) | ((with_reducible apply oq_loadAgg); exact rfl; exact rfl) | ((with_reducible apply oq_call (hc := Tryz.call67)); exact rfl; exact rfl; (intro D w1 hw1; refine rfrom1_f ?_ hw1 (by (repeat first | exact P0 | apply P1)); omega))) | ((with_reducible apply tl_id); first | (with_reducible apply tl_nil) | ((with_reducible apply u_s); (iterate 3 exact rfl); (with_reducible apply os_callS (PV := DskV AM _ m cM n cp v q1 q2 q3 q4 g0 g1 C L) (hc := Tryz.call66)); exact rfl; exact rfl; exact fun D w1 hw1 => HO w1 hw1.ext.ext; rintro _ _ ⟨bD, bM, E, rfl, rfl, hE2, hnl⟩; simp only [dkH, List.cons_append, List.nil_append]) | ((with_reducible apply u_q); (iterate 4 exact rfl)) | ((with_reducible apply u_s); (iterate 3 exact rfl)) | ((with_reducible apply u_skip); (iterate 3 exact rfl))) | ((with_reducible apply os_id); first | ((with_reducible apply os_x); exact rfl)) | ((with_reducible apply ox_id); first | ((with_reducible apply ox_boxAgg); exact rfl; intro _) | ((with_reducible apply ox_buildSlice1); (iterate 6 exact rfl); intro _)) | ((with_reducible apply rd_id); first | (apply Rd.own; (repeat first | exact P0 | apply P1); exact rfl; done)) | ((with_reducible apply t_id); first | (with_reducible apply t_seq) | (apply t_region; kernel_rfl) | ((with_reducible apply t_condT); exact rfl) | ((with_reducible apply t_condF); exact rfl) | (with_reducible apply t_ret) | (with_reducible apply t_block)) | with_reducible apply q_thenN | with_reducible apply q_thenR | with_reducible apply q_blockR | exact Rdn.zero | apply Rdn.succ | (with_reducible apply end_ret) | exact rvs_nil | (with_reducible apply rvs_cons) | ((with_reducible apply rv_tmp); exact rfl))
   all_goals exact ⟨_, ⟨rfl, rfl⟩, HpSub.nil⟩
 rw [show tripI m L s rs = tripF L s.toNat rs from if_pos hst]
 by_cases hal : allFrom 0 ((n : Int) - 1) rs = true
 rotate_left
 · rw [Bool.not_eq_true] at hal
   have hno : tripF L s.toNat rs = none := by
     obtain ⟨r, hr, h⟩ : ∃ r ∈ rs, ¬ (0 ≤ r ∧ r ≤ (n : Int) - 1) := by
       refine Classical.byContradiction fun hn => ?_
       rw [show allFrom 0 ((n : Int) - 1) rs = true from allF_iff.2 fun r hr => Classical.byContradiction fun h => hn ⟨r, hr, h⟩] at hal
       cases hal
     exact tripF_bad hr (by omega)
   rw [hno]
   simp only [hal] at HRt
   refine enterF (c := cx w 123) Tryz.func57 rfl rfl rfl rfl ?_
   repeat' (first | ((with_reducible apply oq_id); first | (focus ((with_reducible apply (oq_subE (k := (m : Int) - 1))); exact rfl; exact rfl; omega)) | (focus ((with_reducible apply (oq_subE (k := (n : Int) - 1))); exact rfl; exact rfl; omega)) | ((with_reducible apply oq_neqF); exact rfl; exact rfl; omega) | ((with_reducible apply oq_gtrF); exact rfl; exact rfl; omega) | (apply oq_fn; exact rfl; first | exact trivial | (constructor <;> omega) | omega | skip) | ((with_reducible apply oq_load); exact rfl; exact rfl) | ((with_reducible apply oq_loadAgg); exact rfl; exact rfl) | ((with_reducible apply oq_call (hc := Tryz.call67)); exact rfl; exact rfl; (intro D w1 hw1; refine rfrom1_t ?_ hw1 (by (repeat first | exact P0 | apply P1)); omega)) | ((with_reducible apply oq_call (hc := Tryz.call67)); exact rfl; exact rfl; exact fun D w1 hw1 => HRt w1 hw1.ext.ext)) | ((with_reducible apply tl_id); first | (with_reducible apply tl_nil) | ((with_reducible apply u_s); (iterate 3 exact rfl); (with_reducible apply os_callS (PV := DskV AM _ m cM n cp v q1 q2 q3 q4 g0 g1 C L) (hc := Tryz.call66)); exact rfl; exact rfl; exact fun D w1 hw1 => HO w1 hw1.ext.ext; rintro _ _ ⟨bD, bM, E, rfl, rfl, hE2, hnl⟩; simp only [dkH, List.cons_append, List.nil_append]) | ((with_reducible apply u_q); (iterate 4 exact rfl)) | ((with_reducible apply u_s); (iterate 3 exact rfl))) | ((with_reducible apply os_id); first | ((with_reducible apply os_x); exact rfl)) | ((with_reducible apply ox_id); first | ((with_reducible apply ox_boxAgg); exact rfl; intro _) | ((with_reducible apply ox_buildSlice1); (iterate 6 exact rfl); intro _)) | ((with_reducible apply rd_id); first | (apply Rd.own; (repeat first | exact P0 | apply P1); exact rfl; done)) | ((with_reducible apply t_id); first | (with_reducible apply t_seq) | (apply t_region; kernel_rfl) | ((with_reducible apply t_condT); exact rfl) | ((with_reducible apply t_condF); exact rfl) | (with_reducible apply t_ret) | (with_reducible apply t_block)) | with_reducible apply q_thenN | with_reducible apply q_thenR | with_reducible apply q_blockR | exact Rdn.zero | apply Rdn.succ | (with_reducible apply end_ret) | exact rvs_nil | (with_reducible apply rvs_cons) | ((with_reducible apply rv_tmp); exact rfl))
   all_goals exact ⟨_, ⟨rfl, rfl⟩, HpSub.nil⟩
 have hall := allF_iff.1 hal
 simp only [hal] at HRt
 obtain ⟨s, rfl⟩ := Int.eq_ofNat_of_zero_le hst.1
 rw [Int.toNat_natCast]
 refine enterF (c := cx w 123) Tryz.func57 rfl rfl rfl rfl ?_
 repeat' (first | ((with_reducible apply oq_id); first | (focus ((with_reducible apply (oq_subE (k := (m : Int) - 1))); exact rfl; exact rfl; omega)) | (focus ((with_reducible apply (oq_subE (k := (n : Int) - 1))); exact rfl; exact rfl; omega)) | ((with_reducible apply oq_neqF); exact rfl; exact rfl; omega) | ((with_reducible apply oq_gtrF); exact rfl; exact rfl; omega) | (apply oq_fn; exact rfl; first | exact trivial | (constructor <;> omega) | omega | skip) | ((with_reducible apply oq_load); exact rfl; exact rfl) | ((with_reducible apply oq_loadAgg); exact rfl; exact rfl) | ((with_reducible apply oq_call (hc := Tryz.call67)); exact rfl; exact rfl; (intro D w1 hw1; refine rfrom1_t ?_ hw1 (by (repeat first | exact P0 | apply P1)); omega)) | ((with_reducible apply oq_call (hc := Tryz.call67)); exact rfl; exact rfl; exact fun D w1 hw1 => HRt w1 hw1.ext.ext) | ((with_reducible apply oq_build); (iterate 3 exact rfl))) | ((with_reducible apply tl_id); first | (with_reducible apply tl_nil) | ((with_reducible apply u_s); (iterate 3 exact rfl); (with_reducible apply os_callS (PV := DskV AM _ m cM n cp v q1 q2 q3 q4 g0 g1 C L) (hc := Tryz.call66)); exact rfl; exact rfl; exact fun D w1 hw1 => HO w1 hw1.ext.ext; rintro _ _ ⟨bD, bM, E, rfl, rfl, hE2, hnl⟩; simp only [dkH, List.cons_append, List.nil_append]) | ((with_reducible apply u_q); (iterate 4 exact rfl)) | ((with_reducible apply u_s); (iterate 3 exact rfl))) | ((with_reducible apply os_id); first | ((with_reducible apply os_x); exact rfl)) | ((with_reducible apply ox_id); first | ((with_reducible apply ox_boxAgg); exact rfl; intro _) | ((with_reducible apply ox_buildSlice1); (iterate 6 exact rfl); intro _)) | ((with_reducible apply rd_id); first | (apply Rd.own; (repeat first | exact P0 | apply P1); exact rfl; done)) | ((with_reducible apply t_id); first | (with_reducible apply t_seq) | (apply t_region; kernel_rfl) | ((with_reducible apply t_condF); exact rfl) | (with_reducible apply t_skip) | (with_reducible apply t_block)) | with_reducible apply q_thenN | with_reducible apply q_blockN | exact Rdn.zero | apply Rdn.succ | ((with_reducible apply Norm.nil); exact rfl) | ((with_reducible apply Norm.cons); exact rfl))
 rename_i b5 b6 b40 b54 bT
 apply t_loopP (ι := Nat × Trp × Nat × Nat × Option (Nat × Nat)) [5, 14, 57, 58] (fun z => [(59, .int .i64 ((z.1 : Nat) : Int))]) (fun z => (bT, [.pointer (some ⟨bD, 0, none⟩), .slice (some ⟨z.2.2.1, 0, none⟩) z.2.1.2.length z.2.2.2.1, flS z.2.1.1 z.2.2.2.2], some (147, 3, 1)) :: (z.2.2.1, (cI z.2.1.2).map iv, some (3, 1, z.2.2.2.1)) :: (b5, [.slice AM m cM, .slice A n cp], some (25, 2, 1)) :: (flH z.2.1.1 z.2.2.2.2 ++ (bD, dkC AM A m cM n cp v q1 q2 q3 q4 g0 g1 bM, some (172, 10, 1)) :: (bM, [], mapTg 170 (enM E)) :: enH E)) (fun z => z.1 ≤ nR ∧ tripF L s (rs.take z.1) = some z.2.1 ∧ (z.2.2.2.2 = none → z.2.1.1 = [])) (fun z => nR - z.1) ((0, ([], [s]), b54, 1, none))
 (repeat (first | exact KeepF.nil | (apply KeepF.cons; exact rfl) | apply KeepF.skip))
 (repeat (first | exact FrSub.nil | (apply FrSub.cons; exact rfl)))
 (try simp only [List.cons_append, List.nil_append])
 (repeat' (first | exact HpSub.refl _ | (apply HpSub.consE; (repeat first | exact P0 | apply P1); first | exact rfl | exact cN_snoc _ _ | exact fl_snoc _ _ _ | (simp [flCells, flS, cI, iv]; done) | skip) | apply HpSub.skipX))
 · exact ⟨Nat.zero_le _, rfl, fun _ => rfl⟩
 rintro ⟨k, ⟨g, S⟩, bS, cS, o⟩ ⟨hk, hp, ho⟩
 simp only at hk hp ho
 try simp only [List.cons_append, List.nil_append]
 obtain ⟨hp1, hp2, hp3, hp4⟩ := trip_ti hLk (show s < m by omega) hp
 rw [List.length_take, Nat.min_eq_left (by omega)] at hp1 hp2
 simp only at hp1 hp2 hp3
 by_cases hlt : k < nR
 rotate_left
 · obtain rfl : k = nR := by omega
   rw [List.take_of_length_le (by omega)] at hp
   rw [hp]
   ((all_goals refine gqT0 ?_); (all_goals constructor); (any_goals exact trivial); all_goals intros)
   all_goals (refine ⟨_, ⟨bT, bD, bM, bS, cS, E, o, rfl, ho, rfl, hE2, hnl⟩, ?_⟩; unfold TrvH dkH; (repeat' (first | exact HpSub.refl _ | (apply HpSub.consE; (repeat first | exact P0 | apply P1); first | exact rfl | exact cN_snoc _ _ | exact fl_snoc _ _ _ | (simp [flCells, flS, cI, iv]; done) | skip) | apply HpSub.skipX)))
 obtain ⟨bR, oR, r, rfl, _, hrk, e0⟩ := in_read hR hlt
 have hrr := hall r (List.mem_of_getElem? hrk)
 obtain ⟨t, rfl⟩ := Int.eq_ofNat_of_zero_le hrr.1
 obtain ⟨bA, oA, z, rfl, _, hz, c0, c1, c2, c3, c4⟩ := lg_read hr (show t < n by omega)
 obtain ⟨hz1, hz2, hz3, _⟩ := hLk z (List.mem_of_getElem? hz)
 have hst' := tripF_take (L := L) (s := s) hrk
 rw [hp] at hst'
 simp only [stF] at hst'
 rw [if_pos (by omega), Int.toNat_natCast, hz] at hst'
 simp only at hst'
 obtain ⟨x, hxl, hxe⟩ : ∃ x, S[k]? = some x ∧ S.getLastD 0 = x := by
   refine ⟨S.getLastD 0, ?_, rfl⟩
   rw [List.getLastD_eq_getLast?, List.getLast?_eq_getElem?, hp2, Nat.add_sub_cancel]
   rw [List.getElem?_eq_getElem (by omega)]
   rfl
 have hxm := hp3 x (List.mem_of_getElem? hxl)
 rw [hxe] at hst'
 by_cases hx : (x : Int) = z.a ∨ (x : Int) = z.b
 rotate_left
 · rw [if_neg hx] at hst'
   rw [tripF_cut hst']
   repeat' (first | ((with_reducible apply oq_id); first | (focus ((with_reducible apply (oq_subE (k := ((k : Nat) : Int)))); exact rfl; exact rfl; omega)) | (focus ((with_reducible apply oq_indexAddrN (i := k)); (iterate 4 exact rfl); omega)) | (focus ((with_reducible apply oq_indexAddrN (i := t)); (iterate 4 exact rfl); omega)) | ((with_reducible apply oq_neqT); exact rfl; exact rfl; omega) | ((with_reducible apply oq_lssT); exact rfl; exact rfl; omega) | (apply oq_fn; exact rfl; first | exact trivial | (constructor <;> omega) | omega | skip) | ((with_reducible apply oq_load); exact rfl; exact rfl) | ((with_reducible apply oq_loadAgg); exact rfl; exact rfl)) | ((with_reducible apply tl_id); first | (with_reducible apply tl_nil) | ((with_reducible apply u_q); (iterate 4 exact rfl))) | ((with_reducible apply gx_id); first | (with_reducible apply v_nil) | ((with_reducible apply v_q); (iterate 3 exact rfl))) | ((with_reducible apply os_id); first | ((with_reducible apply os_storeAgg); (iterate 5 exact rfl))) | ((with_reducible apply ox_id); first | ((with_reducible apply ox_alloc); exact rfl; intro _)) | ((with_reducible apply ai_id); first | ((with_reducible apply ai_q); (iterate 5 exact rfl)) | ((with_reducible apply ai_x); (iterate 5 exact rfl)) | ((with_reducible apply ai_n0); (iterate 3 exact rfl))) | ((with_reducible apply al_keep); focus (repeat (first | exact HpSub.refl _ | (apply HpSub.cons; (repeat first | exact P0 | apply P1)) | apply HpSub.skipX | exact HpSub.nil))) | ((with_reducible apply rd_id); first | (apply rd_st hxl; (repeat first | exact P0 | apply P1); done) | (apply Rd.own; (repeat first | exact P0 | apply P1); exact rfl; done) | (apply Rd.old; (first | (with_reducible assumption) | exact c0 | exact c1 | exact c2 | exact c3 | exact c4 | exact c5 | exact c6 | exact c7 | exact c8 | exact d0 | exact d1 | exact d2 | exact d3 | exact d4 | exact d5); first | exact List.not_mem_nil | exact m0 | exact m1 | exact m2 | exact m3 | exact m4 | exact m5 | exact m6 | exact m7 | exact m8 | exact m9)) | ((with_reducible apply t_id); first | (apply t_mix (id := 12) [0, 1, 2, 3, 4, 5, 6, 7, 8, 9, 10, 11, 12, 13, 14, 15, 16] 3 #[false, false, false, false, false, false, false, false, false, false, false, false, false, false, false, false, false, false, false, false]; kernel_rfl; kernel_rfl; exact rfl) | (with_reducible apply t_seq) | (apply t_region; kernel_rfl) | ((with_reducible apply t_condT); exact rfl) | (with_reducible apply t_ret) | (with_reducible apply t_skip) | (with_reducible apply t_block)) | with_reducible apply q_thenN | with_reducible apply q_thenR | with_reducible apply q_blockR | exact P0 | exact Rdn.zero | apply Rdn.succ | ((with_reducible apply Norm.nil); exact rfl) | ((with_reducible apply Norm.cons); exact rfl) | (with_reducible apply end_ret) | exact rvs_nil | (with_reducible apply rvs_cons) | ((with_reducible apply rv_tmp); exact rfl) | ((with_reducible apply al_id); first | (apply al_done; decide +kernel) | (apply al_one 17; decide +kernel) | (apply al_one 18; decide +kernel) | (apply al_one 19; decide +kernel)) | exact Nat.le_of_ble_eq_true rfl)
   all_goals exact ⟨_, ⟨rfl, rfl⟩, HpSub.nil⟩
 rw [if_pos hx] at hst'
 obtain ⟨y, hy⟩ : ∃ y : Nat, (z.a + z.b - (x : Int)) = y := Int.eq_ofNat_of_zero_le (by omega)
 rw [hy, Int.toNat_natCast] at hst'
 rcases o with _ | ⟨bL, cL⟩
 · obtain rfl := ho rfl
   simp only [flS, flH, List.nil_append, List.cons_append]
   rcases hx with hx | hx
   all_goals (repeat' (first | ((with_reducible apply oq_id); first | (focus ((with_reducible apply (oq_subE (k := ((k : Nat) : Int)))); exact rfl; exact rfl; omega)) | (focus ((with_reducible apply (oq_subE (k := ((y : Nat) : Int)))); exact rfl; exact rfl; omega)) | (focus ((with_reducible apply oq_indexAddrN (i := k)); (iterate 4 exact rfl); omega)) | (focus ((with_reducible apply oq_indexAddrN (i := t)); (iterate 4 exact rfl); omega)) | ((with_reducible apply oq_neqT); exact rfl; exact rfl; omega) | ((with_reducible apply oq_neqF); exact rfl; exact rfl; omega) | ((with_reducible apply oq_lssT); exact rfl; exact rfl; omega) | (apply oq_fn; exact rfl; first | exact trivial | (constructor <;> omega) | omega | skip) | ((with_reducible apply oq_load); exact rfl; exact rfl) | ((with_reducible apply oq_loadAgg); exact rfl; exact rfl) | ((with_reducible apply oq_build); (iterate 3 exact rfl))) | ((with_reducible apply tl_id); first | (with_reducible apply tl_nil) | ((with_reducible apply u_q); (iterate 4 exact rfl)) | ((with_reducible apply u_skip); (iterate 3 exact rfl))) | ((with_reducible apply gx_id); first | (with_reducible apply v_nil) | ((with_reducible apply v_q); (iterate 3 exact rfl))) | ((with_reducible apply os_id); first | ((with_reducible apply os_store); (iterate 4 exact rfl)) | ((with_reducible apply os_storeAgg); (iterate 5 exact rfl)) | ((with_reducible apply os_appendNil (hk := app_ok145)); exact rfl; exact rfl) | ((with_reducible apply os_append (hk := app_ok31)); exact rfl; exact rfl; (repeat first | exact P0 | apply P1))) | ((with_reducible apply ox_id); first | ((with_reducible apply ox_alloc); exact rfl; intro _) | ((with_reducible apply ox_buildSlice1); (iterate 6 exact rfl); intro _) | ((with_reducible apply ox_buildSlice2); (iterate 6 exact rfl); intro _)) | ((with_reducible apply ai_id); first | ((with_reducible apply ai_q); (iterate 5 exact rfl)) | ((with_reducible apply ai_x); (iterate 5 exact rfl)) | ((with_reducible apply ai_s0); (iterate 4 exact rfl)) | ((with_reducible apply ai_n0); (iterate 3 exact rfl)) | ((with_reducible apply ai_s); (iterate 5 exact rfl))) | ((with_reducible apply al_keep); focus (repeat (first | exact HpSub.refl _ | (apply HpSub.cons; (repeat first | exact P0 | apply P1)) | apply HpSub.skipX | exact HpSub.nil))) | ((with_reducible apply rd_id); first | (apply rd_st hxl; (repeat first | exact P0 | apply P1); done) | (apply Rd.own; (repeat first | exact P0 | apply P1); exact rfl; done) | (apply Rd.old; (first | (with_reducible assumption) | exact c0 | exact c1 | exact c2 | exact c3 | exact c4 | exact c5 | exact c6 | exact c7 | exact c8 | exact d0 | exact d1 | exact d2 | exact d3 | exact d4 | exact d5); first | exact List.not_mem_nil | exact m0 | exact m1 | exact m2 | exact m3 | exact m4 | exact m5 | exact m6 | exact m7 | exact m8 | exact m9)) | ((with_reducible apply t_id); first | (apply t_mix (id := 12) [0, 1, 2, 3, 4, 5, 6, 7, 8, 9, 10, 11, 12, 13, 14, 15, 16] 3 #[false, false, false, false, false, false, false, false, false, false, false, false, false, false, false, false, false, false, false, false]; kernel_rfl; kernel_rfl; exact rfl) | (apply t_mix (id := 15) [1, 2, 3, 4, 5, 6, 7, 8, 9, 10] 6 #[false, false, false, false, false, false, false, false, false, false, false, false, true, false, false, true]; kernel_rfl; kernel_rfl; exact rfl) | (apply t_mix (id := 16) [1, 2, 3, 4, 5, 6, 7, 8, 9, 10, 11] 6 #[false, false, false, false, false, false, false, false, false, false, false, false, false, true, false, false, true]; kernel_rfl; kernel_rfl; exact rfl) | (with_reducible apply t_seq) | (apply t_region; kernel_rfl) | ((with_reducible apply t_condT); exact rfl) | ((with_reducible apply t_condF); exact rfl) | (with_reducible apply t_skip) | (with_reducible apply t_block)) | with_reducible apply q_thenN | with_reducible apply q_blockN | exact P0 | (with_reducible apply P1) | exact Rdn.zero | apply Rdn.succ | ((with_reducible apply Norm.nil); exact rfl) | ((with_reducible apply Norm.cons); exact rfl) | ((with_reducible apply al_id); first | (apply al_done; decide +kernel) | (apply al_one 17; decide +kernel) | (apply al_one 18; decide +kernel) | (apply al_one 19; decide +kernel)) | ((with_reducible apply al_id); first | (apply al_one 0; decide +kernel) | (apply al_one 11; decide +kernel) | (apply al_one 12; decide +kernel) | (apply al_one 13; decide +kernel) | (apply al_one 14; decide +kernel) | (apply al_one 15; decide +kernel) | (apply al_two 0 11; decide +kernel) | (apply al_two 0 12; decide +kernel)) | ((with_reducible apply al_id); first | (apply al_one 16; decide +kernel) | (apply al_two 0 13; decide +kernel)) | exact cI_len1 _ | exact Nat.le_of_ble_eq_true rfl | exact (rfl : (_ : Bool) = true) | omega | (intro _ _; with_reducible apply al_id)))
   all_goals (rename_i b17 b101 bL1 cL1 b117 bS1 cS1; refine ⟨(k + 1, ([] ++ [(t, decide ((x : Int) = z.b))], S ++ [y]), bS1, cS1, some (bL1, cL1)), ⟨by simp only; omega, hst', fun h => (by cases h)⟩, by simp only; omega, ?_, ?_⟩ <;> (try simp only [flS, flH, List.nil_append, List.cons_append, List.length_append, List.length_singleton]) <;> (repeat' (first | exact FrSub.nil | (apply FrSub.cons; exact rfl) | exact HpSub.refl _ | (apply HpSub.consE; (repeat first | exact P0 | apply P1); first | exact rfl | exact cN_snoc _ _ | exact fl_snoc _ _ _ | (simp [flCells, flS, cI, iv]; done) | skip) | apply HpSub.skipX)))
 · simp only [flS, flH, List.nil_append, List.cons_append]
   rcases hx with hx | hx
   all_goals (repeat' (first | ((with_reducible apply oq_id); first | (focus ((with_reducible apply (oq_subE (k := ((k : Nat) : Int)))); exact rfl; exact rfl; omega)) | (focus ((with_reducible apply (oq_subE (k := ((y : Nat) : Int)))); exact rfl; exact rfl; omega)) | (focus ((with_reducible apply oq_indexAddrN (i := k)); (iterate 4 exact rfl); omega)) | (focus ((with_reducible apply oq_indexAddrN (i := t)); (iterate 4 exact rfl); omega)) | ((with_reducible apply oq_neqT); exact rfl; exact rfl; omega) | ((with_reducible apply oq_neqF); exact rfl; exact rfl; omega) | ((with_reducible apply oq_lssT); exact rfl; exact rfl; omega) | (apply oq_fn; exact rfl; first | exact trivial | (constructor <;> omega) | omega | skip) | ((with_reducible apply oq_load); exact rfl; exact rfl) | ((with_reducible apply oq_loadAgg); exact rfl; exact rfl) | ((with_reducible apply oq_build); (iterate 3 exact rfl))) | ((with_reducible apply tl_id); first | (with_reducible apply tl_nil) | ((with_reducible apply u_q); (iterate 4 exact rfl)) | ((with_reducible apply u_skip); (iterate 3 exact rfl))) | ((with_reducible apply gx_id); first | (with_reducible apply v_nil) | ((with_reducible apply v_q); (iterate 3 exact rfl))) | ((with_reducible apply os_id); first | ((with_reducible apply os_store); (iterate 4 exact rfl)) | ((with_reducible apply os_storeAgg); (iterate 5 exact rfl)) | ((with_reducible apply os_append (hk := app_ok145)); exact rfl; exact rfl; (repeat first | exact P0 | apply P1)) | ((with_reducible apply os_append (hk := app_ok31)); exact rfl; exact rfl; (repeat first | exact P0 | apply P1))) | ((with_reducible apply ox_id); first | ((with_reducible apply ox_alloc); exact rfl; intro _) | ((with_reducible apply ox_buildSlice1); (iterate 6 exact rfl); intro _) | ((with_reducible apply ox_buildSlice2); (iterate 6 exact rfl); intro _)) | ((with_reducible apply ai_id); first | ((with_reducible apply ai_q); (iterate 5 exact rfl)) | ((with_reducible apply ai_x); (iterate 5 exact rfl)) | ((with_reducible apply ai_s0); (iterate 4 exact rfl)) | ((with_reducible apply ai_n0); (iterate 3 exact rfl)) | ((with_reducible apply ai_s); (iterate 5 exact rfl))) | ((with_reducible apply al_keep); focus (repeat (first | exact HpSub.refl _ | (apply HpSub.cons; (repeat first | exact P0 | apply P1)) | apply HpSub.skipX | exact HpSub.nil))) | ((with_reducible apply rd_id); first | (apply rd_st hxl; (repeat first | exact P0 | apply P1); done) | (apply Rd.own; (repeat first | exact P0 | apply P1); exact rfl; done) | (apply Rd.old; (first | (with_reducible assumption) | exact c0 | exact c1 | exact c2 | exact c3 | exact c4 | exact c5 | exact c6 | exact c7 | exact c8 | exact d0 | exact d1 | exact d2 | exact d3 | exact d4 | exact d5); first | exact List.not_mem_nil | exact m0 | exact m1 | exact m2 | exact m3 | exact m4 | exact m5 | exact m6 | exact m7 | exact m8 | exact m9)) | ((with_reducible apply t_id); first | (apply t_mix (id := 12) [0, 1, 2, 3, 4, 5, 6, 7, 8, 9, 10, 11, 12, 13, 14, 15, 16] 3 #[false, false, false, false, false, false, false, false, false, false, false, false, false, false, false, false, false, false, false, false]; kernel_rfl; kernel_rfl; exact rfl) | (apply t_mix (id := 15) [1, 2, 3, 4, 5, 6, 7, 8, 9, 10] 6 #[false, false, false, false, false, false, false, false, false, false, false, false, true, false, false, true]; kernel_rfl; kernel_rfl; exact rfl) | (apply t_mix (id := 16) [1, 2, 3, 4, 5, 6, 7, 8, 9, 10, 11] 6 #[false, false, false, false, false, false, false, false, false, false, false, false, false, true, false, false, true]; kernel_rfl; kernel_rfl; exact rfl) | (with_reducible apply t_seq) | (apply t_region; kernel_rfl) | ((with_reducible apply t_condT); exact rfl) | ((with_reducible apply t_condF); exact rfl) | (with_reducible apply t_skip) | (with_reducible apply t_block)) | with_reducible apply q_thenN | with_reducible apply q_blockN | exact P0 | (with_reducible apply P1) | exact Rdn.zero | apply Rdn.succ | ((with_reducible apply Norm.nil); exact rfl) | ((with_reducible apply Norm.cons); exact rfl) | ((with_reducible apply al_id); first | (apply al_done; decide +kernel) | (apply al_one 17; decide +kernel) | (apply al_one 18; decide +kernel) | (apply al_one 19; decide +kernel)) | ((with_reducible apply al_id); first | (apply al_one 0; decide +kernel) | (apply al_one 11; decide +kernel) | (apply al_one 12; decide +kernel) | (apply al_one 13; decide +kernel) | (apply al_one 14; decide +kernel) | (apply al_one 15; decide +kernel) | (apply al_two 0 11; decide +kernel) | (apply al_two 0 12; decide +kernel)) | ((with_reducible apply al_id); first | (apply al_one 16; decide +kernel) | (apply al_two 0 13; decide +kernel)) | exact flF_len _ | exact cI_len1 _ | exact Nat.le_of_ble_eq_true rfl | exact (rfl : (_ : Bool) = true) | omega | (intro _ _; with_reducible apply al_id)))
   all_goals (rename_i b17 b101 bL1 cL1 b117 bS1 cS1; refine ⟨(k + 1, (g ++ [(t, decide ((x : Int) = z.b))], S ++ [y]), bS1, cS1, some (bL1, cL1)), ⟨by simp only; omega, hst', fun h => (by cases h)⟩, by simp only; omega, ?_, ?_⟩ <;> (try simp only [flS, flH, List.nil_append, List.cons_append, List.length_append, List.length_singleton]) <;> (repeat' (first | exact FrSub.nil | (apply FrSub.cons; exact rfl) | exact HpSub.refl _ | (apply HpSub.consE; (repeat first | exact P0 | apply P1); first | exact rfl | exact cN_snoc _ _ | exact fl_snoc _ _ _ | (simp [flCells, flS, cI, iv]; done) | skip) | apply HpSub.skipX)))
structure TrpR (w : World) (bT bD bM : Nat) (AS : Option Addr) (cS : Nat) (AG : Option Addr) (cG : Nat) (AP AT : Option Addr) (m cM n cp : Nat) (v q1 q2 q3 q4 g0 g1 : Int) (E : List En) (p : Trp) : Prop where
 t0 : w.cell? ⟨bT, 0, none⟩ = some (.pointer (some ⟨bD, 0, none⟩))
 t1 : w.cell? ⟨bT, 0 + 1, none⟩ = some (.slice AS p.2.length cS)
 t2 : w.cell? ⟨bT, 0 + 2, none⟩ = some (.slice AG p.1.length cG)
 rs : RdS w 1 AS p.2.length ((cI p.2).map inCells)
 rg : RdS w 2 AG p.1.length (p.1.map flCells)
 hd : DskR w bD bM AP AT m cM n cp v q1 q2 q3 q4 g0 g1 E
theorem fl_own {w0 : World} {M : Ms} {H H' : Hp} {w : World} {g : Nat} {l : List (Nat × Bool)} {tg : Tg} (h : Has w0 M H w) (q : Pick H g ((l.map flCells).flatten) tg H') : RdS w 2 (some ⟨g, 0, none⟩) l.length (l.map flCells) :=
 Blk.rows (h.blk _ q.mem).2 (by simp) (fl_rows_len l)
theorem TrpR.of_has {w0 w : World} {M : Ms} {bT bD bM bS cS : Nat} {E : List En} {AP AT : Option Addr} {m cM n cp : Nat} {v q1 q2 q3 q4 g0 g1 : Int} {p : Trp} {o : Option (Nat × Nat)} (h : Has w0 M (TrvH bT bD bM bS cS E AP AT m cM n cp v q1 q2 q3 q4 g0 g1 p o) w) (ho : o = none → p.1 = []) (hn : ∀ e ∈ E, e.o = none → e.l = []) :
   ∃ AG cG, TrpR w bT bD bM (some ⟨bS, 0, none⟩) cS AG cG AP AT m cM n cp v q1 q2 q3 q4 g0 g1 E p := by
 unfold TrvH at h
 have hb := (h.blk _ (List.mem_cons_self ..)).2
 have hs : RdS w 1 (some ⟨bS, 0, none⟩) p.2.length ((cI p.2).map inCells) := in_rows1 (by simp [cI]) h (.tail (.head _ _ _ _))
 have hd := DskR.of_has (h.sub (HpSub.skipX (HpSub.skipX (HpSub.skipApp (HpSub.refl _))))) hn
 rcases o with _ | ⟨bL, cL⟩
 · have e := ho rfl
   refine ⟨none, 0, hb.cell rfl, hb.cell rfl, ?_, hs, ?_, hd⟩
   · rw [e]; exact hb.cell rfl
   · rw [e]; exact RdS.nil _ _ _
 · exact ⟨some ⟨bL, 0, none⟩, cL, hb.cell rfl, hb.cell rfl, hb.cell rfl, hs, fl_own h (.tail (.tail (.head _ _ _ _))), hd⟩
theorem st_read {w : World} {A : Option Addr} {n : Nat} {S : List Nat} (h : RdS w 1 A n ((cI S).map inCells)) {i s : Nat} (hi : i < n) (hs : S[i]? = some s) : ∃ b o, A = some ⟨b, o, none⟩ ∧ w.cell? ⟨b, o + i * 1, none⟩ = some (.int .i64 (s : Nat)) := by
 obtain ⟨b, o, x, h1, _, h2, h3⟩ := in_read h hi
 refine ⟨b, o, h1, ?_⟩
 unfold cI at h2
 rw [List.getElem?_map, hs] at h2
 obtain rfl := Option.some.inj h2
 exact h3
theorem fl_read {w : World} {A : Option Addr} {n : Nat} {g : List (Nat × Bool)} (h : RdS w 2 A n (g.map flCells)) {i : Nat} (hi : i < n) : ∃ b o t bk, A = some ⟨b, o, none⟩ ∧ g[i]? = some (t, bk) ∧ w.cell? ⟨b, o + i * 2, none⟩ = some (.int .i64 (t : Nat)) ∧ w.cell? ⟨b, o + i * 2 + 1, none⟩ = some (.bool bk) := by
 obtain ⟨b, o, cs, hA, hb, hx, _, hc⟩ := h.row hi
 simp only [List.getElem?_map, Option.map_eq_some_iff] at hx
 obtain ⟨⟨t, bk⟩, hx, rfl⟩ := hx
 exact ⟨b, o, t, bk, hA, hx, hc 0 _ rfl, hc 1 _ rfl⟩
def pnS (l : List Pn) : Option (Nat × Nat) → Value
 | none => .slice none 0 0
 | some (g, c) => .slice (some ⟨g, 0, none⟩) l.length c
def pnH (l : List Pn) : Option (Nat × Nat) → Hp
 | none => []
 | some (g, c) => [(g, (l.map pnCells).flatten, some (131, 3, c))]
def ChkV (need : Nat → Pl) (S : List Nat) (r : Int × Int) (u : Value) (H : Hp) : Prop := ∃ l P o, u = .tuple #[.int .i64 r.1, pnS l o, .int .i64 r.2] ∧ (r.2 = 0 → l.map (·.p) = S.map need) ∧ (r.2 ≠ 0 → l = []) ∧ (∀ x ∈ l, InP P x) ∧ (o = none → l = []) ∧ H = pnH l o ++ poolH P
noncomputable def flC (v q1 q2 q3 : Int) (g0 g1 : Nat) (C : List Wn) (L : List Lg) (x : Nat × Bool) : Int := match L[x.1]? with
 | none => -1
 | some z => legC v q1 q2 q3 g0 g1 C z x.2
theorem pn_snoc1 (l : List Pn) (p : Pl) (A : Option Addr) (n c : Nat) : (l.map pnCells).flatten ++ [.int .i64 (plF p), .slice A n c, .bool p.isNone] = ((l ++ [(⟨p, A, n, c⟩ : Pn)]).map pnCells).flatten := by simp [pnCells]
theorem pn_snoc (l : List Pn) (x : Pn) : (l.map pnCells).flatten ++ pnCells x = ((l ++ [x]).map pnCells).flatten := by simp
theorem check76_calls (bT bD bM : Nat) (AS : Option Addr) (cS : Nat) (AG : Option Addr) (cG : Nat) (AP AT : Option Addr) (m cM n cp : Nat) (L : List Lg) (v q1 q2 q3 q4 : Int) (g0 g1 : Nat) (E : List En) (C : List Wn) (T : List Bool) (p : Trp) (rs : List Int) (w : World) (ht : TrpR w bT bD bM AS cS AG cG AP AT m cM n cp v q1 q2 q3 q4 g0 g1 E p) (hTI : TI L m rs p) (hE : E.map keyOf = deskE v q1 q2 q3 C L n) (hr : RdS w 5 AT n (L.map lgCells)) (hT : RdS w 1 AP m (T.map blCells)) (hn : n ≤ 40) (hm : m ≤ 12) (h20 : rs.length ≤ 20) (hL : ∀ z ∈ L, LegOk m z) (hp : PaceOk v q1 q2 q3 q4 g0 g1) (hcw : ∀ x ∈ C, windB x.l = true) (hC : C.length ≤ 4) (fu : Int) (hfu : 0 ≤ fu ∧ fu ≤ 1099511627776) (r : Int × Int) (hck0 : chkF (fun s => (plansF (arcs (legC v q1 q2 q3 g0 g1 C) L) m (fun s => T.getD s false) m).getD s none) (flC v q1 q2 q3 g0 g1 C L) q4 0 p.2 p.1 fu = r) : Calls Tryz.prog 76 #[.pointer (some ⟨bT, 0, none⟩), .int .i64 fu] w fun e w' => ∃ u H', e = .returned u ∧ ChkV (fun s => (plansF (arcs (legC v q1 q2 q3 g0 g1 C) L) m (fun s => T.getD s false) m).getD s none) p.2 r u H' ∧ Has w ⟨[], []⟩ H' w' := by
 obtain ⟨c0, c1, c2, hs, hg, hd⟩ := ht
 obtain ⟨hg1, hg2, hg3, hg4⟩ := hTI
 have d0 := hd.c6
 have hl : L.length = n := by simpa using hr.len
 obtain ⟨_, _, _, _, p5, _⟩ := id hp
 have hleg : ∀ (i : Nat) (x : Nat × Bool), p.1[i]? = some x → ∃ z, L[x.1]? = some z := fun i x hx => by
   have hi := (List.getElem?_eq_some_iff.1 hx).1
   obtain ⟨r', hr'⟩ : ∃ r', rs[i]? = some r' := ⟨_, List.getElem?_eq_getElem (by omega)⟩
   obtain ⟨z, t, bk, _, _, e1, _, e3, _⟩ := hg4 i r' hr'
   rw [hx] at e1
   obtain rfl := Option.some.inj e1
   exact ⟨z, e3⟩
 have hbd := fun s a (h : (plansF (arcs (legC v q1 q2 q3 g0 g1 C) L) m (fun s => T.getD s false) m).getD s none = some a) => need_bound hp hcw hL hm h
 have HA := fun w1 (hx : Ext w w1) => alternates_calls bD bM AP AT m cM n cp L v q1 q2 q3 q4 g0 g1 E C w1 (hd.ext hx) hE (hr.ext hx) hn hm hL hp hcw hC T (hT.ext hx)
 refine enterF (c := cx w 94) Tryz.func76 rfl rfl rfl rfl ?_
 repeat' (first | ((with_reducible apply oq_id); first | (apply oq_fn; exact rfl; first | exact trivial | (constructor <;> omega) | omega | skip) | ((with_reducible apply oq_load); exact rfl; exact rfl) | ((with_reducible apply oq_call (hc := Tryz.call67)); exact rfl; exact rfl; (intro D w1 hw1; refine rfrom1_t ?_ hw1 (by (repeat first | exact P0 | apply P1)); omega))) | ((with_reducible apply tl_id); first | (with_reducible apply tl_nil) | ((with_reducible apply u_s); (iterate 3 exact rfl); (with_reducible apply os_callF (PV := PlansV _ m) (hc := Tryz.call74)); exact rfl; exact rfl; exact fun D w1 hw1 => HA w1 hw1.ext.ext; rintro _ _ ⟨l, P, g0', c, hlp, hlP, rfl, rfl⟩; simp only [List.cons_append, List.nil_append]) | ((with_reducible apply u_q); (iterate 4 exact rfl)) | ((with_reducible apply u_s); (iterate 3 exact rfl))) | ((with_reducible apply os_id); first | ((with_reducible apply os_x); exact rfl)) | ((with_reducible apply ox_id); first | ((with_reducible apply ox_buildSlice1); (iterate 6 exact rfl); intro _)) | ((with_reducible apply rd_id); first | (apply Rd.old; (first | (with_reducible assumption) | exact c0 | exact c1 | exact c2 | exact c3 | exact c4 | exact c5 | exact c6 | exact c7 | exact c8 | exact d0 | exact d1 | exact d2 | exact d3 | exact d4 | exact d5); first | exact List.not_mem_nil | exact m0 | exact m1 | exact m2 | exact m3 | exact m4 | exact m5 | exact m6 | exact m7 | exact m8 | exact m9)) | ((with_reducible apply t_id); first | (with_reducible apply t_seq) | (apply t_region; kernel_rfl) | ((with_reducible apply t_condF); exact rfl) | (with_reducible apply t_skip) | (with_reducible apply t_block)) | with_reducible apply q_thenN)
 apply t_loopP (ι := Nat × Int × List Pn × Option (Nat × Nat)) [0, 8, 26, 27] (fun z => [(28, .int .i64 ((z.1 : Nat) : Int)), (1, .int .i64 z.2.1), (7, pnS z.2.2.1 z.2.2.2)]) (fun z => pnH z.2.2.1 z.2.2.2 ++ ((g0', (l.map pnCells).flatten, some (131, 3, c)) :: poolH P)) (fun z => z.1 ≤ p.1.length ∧ z.2.2.1.map (·.p) = (p.2.take z.1).map ((fun s => (plansF (arcs (legC v q1 q2 q3 g0 g1 C) L) m (fun s => T.getD s false) m).getD s none)) ∧ chkF (fun s => (plansF (arcs (legC v q1 q2 q3 g0 g1 C) L) m (fun s => T.getD s false) m).getD s none) (flC v q1 q2 q3 g0 g1 C L) q4 z.1 (p.2.drop z.1) (p.1.drop z.1) z.2.1 = r ∧ (∀ x ∈ z.2.2.1, InP P x) ∧ (z.2.2.2 = none → z.2.2.1 = []) ∧ -166666666667 ≤ z.2.1 ∧ z.2.1 ≤ 1099511627776) (fun z => p.2.length - z.1) (0, fu, [], none)
 (repeat (first | exact KeepF.nil | (apply KeepF.cons; exact rfl) | apply KeepF.skip))
 (repeat (first | exact FrSub.nil | (apply FrSub.cons; exact rfl)))
 (try simp only [List.cons_append, List.nil_append])
 (repeat' (first | exact HpSub.appLeft | (apply HpSub.consE; (repeat first | exact P0 | apply P1); first | exact rfl | exact pn_snoc _ _ | exact pn_snoc1 _ _ _ _ _ | (simp [pnCells, pnS]; done) | skip)))
 · refine ⟨Nat.zero_le _, rfl, by simpa using hck0, fun x hx => (by cases hx), fun _ => rfl, by simp only; omega, by simp only; omega⟩
 rintro ⟨i, fu, lo, o⟩ ⟨hi, hlo, hck, hlI, ho, hf0, hf1⟩
 simp only at hi hlo hck hlI ho hf0 hf1
 try simp only [List.cons_append, List.nil_append]
 have hll : l.length = m := by have := congrArg List.length hlp; simpa [plansF_len] using this
 obtain ⟨s, hsi⟩ : ∃ s, p.2[i]? = some s := ⟨_, List.getElem?_eq_getElem (by omega)⟩
 have hsm := hg3 s (List.mem_of_getElem? hsi)
 obtain ⟨bS', oS', rfl, c3⟩ := st_read hs (show i < p.2.length by omega) hsi
 obtain ⟨x, hx⟩ : ∃ x, l[s]? = some x := ⟨_, List.getElem?_eq_getElem (by omega)⟩
 have hxp : x.p = (plansF (arcs (legC v q1 q2 q3 g0 g1 C) L) m (fun s => T.getD s false) m).getD s none := (getD_map hlp hx).symm
 have hls : (lo ++ [x]).map (·.p) = (p.2.take (i + 1)).map (fun s => (plansF (arcs (legC v q1 q2 q3 g0 g1 C) L) m (fun s => T.getD s false) m).getD s none) := by
   rw [List.take_add_one, hsi, List.map_append, List.map_append, hlo]
   simp [hxp]
 have hlI : ∀ y ∈ lo ++ [x], InP P y := fun y hy => by
   rcases List.mem_append.1 hy with hy | hy
   · exact hlI y hy
   · obtain rfl := List.mem_singleton.1 hy
     exact hlP _ (List.mem_of_getElem? hx)
 have hlen : lo.length = i := by have := congrArg List.length hlo; simpa [List.length_take, Nat.min_eq_left (show i ≤ p.2.length by omega)] using this
 rw [List.drop_eq_getElem_cons (show i < p.2.length by omega), (List.getElem?_eq_some_iff.1 hsi).2] at hck
 simp only [chkF] at hck
 rcases o with _ | ⟨gO, cO⟩
 · obtain rfl := ho rfl
   simp only [pnS, pnH, List.nil_append, List.cons_append]
   obtain ⟨xp, xA, xn, xc⟩ := x
   simp only at hxp
   rcases xp with _ | a
   · rw [← hxp] at hck
     simp only at hck
     subst hck
     repeat' (first | ((with_reducible apply oq_id); first | (focus ((with_reducible apply oq_indexAddrN (i := i)); (iterate 4 exact rfl); omega)) | (focus ((with_reducible apply oq_indexAddrN (i := s)); (iterate 4 exact rfl); omega)) | ((with_reducible apply oq_lssT); exact rfl; exact rfl; omega) | (apply oq_fn; exact rfl; first | exact trivial | (constructor <;> omega) | omega | skip) | ((with_reducible apply oq_load); exact rfl; exact rfl) | ((with_reducible apply oq_loadAgg); exact rfl; exact rfl)) | ((with_reducible apply tl_id); first | (with_reducible apply tl_nil) | ((with_reducible apply u_q); (iterate 4 exact rfl)) | ((with_reducible apply u_s0); exact rfl; exact rfl) | ((with_reducible apply u_s); (iterate 3 exact rfl))) | ((with_reducible apply gx_id); first | (with_reducible apply v_nil) | ((with_reducible apply v_q); (iterate 3 exact rfl)) | ((with_reducible apply v_skip); (iterate 3 exact rfl))) | ((with_reducible apply os_id); first | ((with_reducible apply os_x); exact rfl) | ((with_reducible apply os_storeAgg); (iterate 5 exact rfl)) | ((with_reducible apply os_appendNil (hk := app_ok132)); exact rfl; exact rfl)) | ((with_reducible apply ox_id); first | ((with_reducible apply ox_alloc); exact rfl; intro _) | ((with_reducible apply ox_buildSlice); (iterate 4 exact rfl))) | ((with_reducible apply rd_id); first | (apply rd_pn0 hx; (repeat first | exact P0 | apply P1); done) | (apply rd_pn1 hx; (repeat first | exact P0 | apply P1); done) | (apply rd_pn2 hx; (repeat first | exact P0 | apply P1); done) | (apply Rd.own; (repeat first | exact P0 | apply P1); exact rfl; done) | (apply Rd.old; (first | (with_reducible assumption) | exact c0 | exact c1 | exact c2 | exact c3 | exact c4 | exact c5 | exact c6 | exact c7 | exact c8 | exact d0 | exact d1 | exact d2 | exact d3 | exact d4 | exact d5); first | exact List.not_mem_nil | exact m0 | exact m1 | exact m2 | exact m3 | exact m4 | exact m5 | exact m6 | exact m7 | exact m8 | exact m9)) | ((with_reducible apply t_id); first | (with_reducible apply t_seq) | (apply t_region; kernel_rfl) | (apply t_drawn; kernel_rfl; decide +kernel; try simp only [List.append_eq, List.cons_append, List.nil_append]) | ((with_reducible apply t_condT); exact rfl) | (with_reducible apply t_ret) | (with_reducible apply t_skip) | (with_reducible apply t_block)) | with_reducible apply q_thenN | with_reducible apply q_thenR | with_reducible apply q_blockR | exact P0 | exact Rdn.zero | apply Rdn.succ | ((with_reducible apply Norm.nil); exact rfl) | ((with_reducible apply Norm.cons); exact rfl) | (with_reducible apply end_ret) | exact rvs_nil | (with_reducible apply rvs_cons) | ((with_reducible apply rv_tmp); exact rfl) | exact Nat.le_of_ble_eq_true rfl | exact (rfl : (_ : Bool) = true) | (intro _ _; with_reducible apply tl_id) | (intro _; with_reducible apply tl_id))
     all_goals exact ⟨_, ⟨[], [], none, rfl, fun h => (by cases h), fun _ => rfl, fun x hx => (by cases hx), fun _ => rfl, rfl⟩, HpSub.nil⟩
   obtain ⟨ha0, ha1, _⟩ := hbd s a hxp.symm
   rw [← hxp] at hck
   simp only at hck
   by_cases hlow : fu < a.1 + q4
   · rw [if_pos hlow] at hck
     subst hck
     repeat' (first | ((with_reducible apply oq_id); first | (focus ((with_reducible apply oq_indexAddrN (i := i)); (iterate 4 exact rfl); omega)) | (focus ((with_reducible apply oq_indexAddrN (i := s)); (iterate 4 exact rfl); omega)) | (focus ((with_reducible apply (oq_subE (m := fu) (n := a.1) (k := fu - a.1))); exact rfl; exact rfl; omega)) | ((with_reducible apply oq_lssT); exact rfl; exact rfl; omega) | (apply oq_fn; exact rfl; first | exact trivial | (constructor <;> omega) | omega | skip) | ((with_reducible apply oq_load); exact rfl; exact rfl) | ((with_reducible apply oq_loadAgg); exact rfl; exact rfl)) | ((with_reducible apply tl_id); first | (with_reducible apply tl_nil) | ((with_reducible apply u_q); (iterate 4 exact rfl)) | ((with_reducible apply u_s0); exact rfl; exact rfl) | ((with_reducible apply u_s); (iterate 3 exact rfl))) | ((with_reducible apply gx_id); first | (with_reducible apply v_nil) | ((with_reducible apply v_q); (iterate 3 exact rfl))) | ((with_reducible apply os_id); first | ((with_reducible apply os_x); exact rfl) | ((with_reducible apply os_storeAgg); (iterate 5 exact rfl)) | ((with_reducible apply os_appendNil (hk := app_ok132)); exact rfl; exact rfl)) | ((with_reducible apply ox_id); first | ((with_reducible apply ox_alloc); exact rfl; intro _) | ((with_reducible apply ox_buildSlice); (iterate 4 exact rfl))) | ((with_reducible apply rd_id); first | (apply rd_pn0 hx; (repeat first | exact P0 | apply P1); done) | (apply rd_pn1 hx; (repeat first | exact P0 | apply P1); done) | (apply rd_pn2 hx; (repeat first | exact P0 | apply P1); done) | (apply Rd.own; (repeat first | exact P0 | apply P1); exact rfl; done) | (apply Rd.old; (first | (with_reducible assumption) | exact c0 | exact c1 | exact c2 | exact c3 | exact c4 | exact c5 | exact c6 | exact c7 | exact c8 | exact d0 | exact d1 | exact d2 | exact d3 | exact d4 | exact d5); first | exact List.not_mem_nil | exact m0 | exact m1 | exact m2 | exact m3 | exact m4 | exact m5 | exact m6 | exact m7 | exact m8 | exact m9)) | ((with_reducible apply t_id); first | (with_reducible apply t_seq) | (apply t_region; kernel_rfl) | (apply t_drawn; kernel_rfl; decide +kernel; try simp only [List.append_eq, List.cons_append, List.nil_append]) | ((with_reducible apply t_condT); exact rfl) | (with_reducible apply t_ret) | (with_reducible apply t_skip) | (with_reducible apply t_block)) | with_reducible apply q_thenN | with_reducible apply q_thenR | with_reducible apply q_blockR | exact P0 | exact Rdn.zero | apply Rdn.succ | ((with_reducible apply Norm.nil); exact rfl) | ((with_reducible apply Norm.cons); exact rfl) | (with_reducible apply end_ret) | exact rvs_nil | (with_reducible apply rvs_cons) | ((with_reducible apply rv_tmp); exact rfl) | exact Nat.le_of_ble_eq_true rfl | exact (rfl : (_ : Bool) = true) | (intro _ _; with_reducible apply tl_id) | (intro _; with_reducible apply tl_id))
     all_goals exact ⟨_, ⟨[], [], none, rfl, fun h => (by cases h), fun _ => rfl, fun x hx => (by cases hx), fun _ => rfl, rfl⟩, HpSub.nil⟩
   rw [if_neg hlow] at hck
   by_cases hig : i = p.1.length
   · rw [List.drop_of_length_le (by omega)] at hck
     simp only at hck
     subst hck
     have hfin : List.map (fun y : Pn => y.p) ([] ++ [⟨some a, xA, xn, xc⟩]) = p.2.map (fun s => (plansF (arcs (legC v q1 q2 q3 g0 g1 C) L) m (fun s => T.getD s false) m).getD s none) := by
       rw [hls, List.take_of_length_le (by omega)]
     repeat' (first | ((with_reducible apply oq_id); first | (focus ((with_reducible apply oq_indexAddrN (i := i)); (iterate 4 exact rfl); omega)) | (focus ((with_reducible apply oq_indexAddrN (i := s)); (iterate 4 exact rfl); omega)) | (focus ((with_reducible apply (oq_subE (m := fu) (n := a.1) (k := fu - a.1))); exact rfl; exact rfl; omega)) | ((with_reducible apply oq_lssT); exact rfl; exact rfl; omega) | ((with_reducible apply oq_lssF); exact rfl; exact rfl; omega) | ((with_reducible apply oq_eqlT); exact rfl; exact rfl; omega) | (apply oq_fn; exact rfl; first | exact trivial | (constructor <;> omega) | omega | skip) | ((with_reducible apply oq_load); exact rfl; exact rfl) | ((with_reducible apply oq_loadAgg); exact rfl; exact rfl)) | ((with_reducible apply tl_id); first | (with_reducible apply tl_nil) | ((with_reducible apply u_q); (iterate 4 exact rfl)) | ((with_reducible apply u_s0); exact rfl; exact rfl) | ((with_reducible apply u_s); (iterate 3 exact rfl))) | ((with_reducible apply gx_id); first | (with_reducible apply v_nil) | ((with_reducible apply v_q); (iterate 3 exact rfl))) | ((with_reducible apply os_id); first | ((with_reducible apply os_x); exact rfl) | ((with_reducible apply os_storeAgg); (iterate 5 exact rfl)) | ((with_reducible apply os_appendNil (hk := app_ok132)); exact rfl; exact rfl)) | ((with_reducible apply ox_id); first | ((with_reducible apply ox_alloc); exact rfl; intro _) | ((with_reducible apply ox_buildSlice); (iterate 4 exact rfl))) | ((with_reducible apply rd_id); first | (apply rd_pn0 hx; (repeat first | exact P0 | apply P1); done) | (apply rd_pn1 hx; (repeat first | exact P0 | apply P1); done) | (apply rd_pn2 hx; (repeat first | exact P0 | apply P1); done) | (apply Rd.own; (repeat first | exact P0 | apply P1); exact rfl; done) | (apply Rd.old; (first | (with_reducible assumption) | exact c0 | exact c1 | exact c2 | exact c3 | exact c4 | exact c5 | exact c6 | exact c7 | exact c8 | exact d0 | exact d1 | exact d2 | exact d3 | exact d4 | exact d5); first | exact List.not_mem_nil | exact m0 | exact m1 | exact m2 | exact m3 | exact m4 | exact m5 | exact m6 | exact m7 | exact m8 | exact m9)) | ((with_reducible apply t_id); first | (with_reducible apply t_seq) | (apply t_region; kernel_rfl) | (apply t_drawn; kernel_rfl; decide +kernel; try simp only [List.append_eq, List.cons_append, List.nil_append]) | ((with_reducible apply t_condT); exact rfl) | ((with_reducible apply t_condF); exact rfl) | (with_reducible apply t_ret) | (with_reducible apply t_skip) | (with_reducible apply t_exit) | (with_reducible apply t_block)) | with_reducible apply q_thenN | with_reducible apply q_thenE | ((with_reducible apply q_blockE); exact rfl) | ((with_reducible apply q_blockO); exact rfl) | exact P0 | exact Rdn.zero | apply Rdn.succ | ((with_reducible apply Norm.nil); exact rfl) | ((with_reducible apply Norm.cons); exact rfl) | (with_reducible apply end_ret) | exact rvs_nil | (with_reducible apply rvs_cons) | ((with_reducible apply rv_tmp); exact rfl) | exact Nat.le_of_ble_eq_true rfl | exact (rfl : (_ : Bool) = true) | (intro _ _; with_reducible apply tl_id) | (intro _; with_reducible apply tl_id))
     all_goals (rename_i b11 b39 gN cN; refine ⟨_, ⟨[] ++ [⟨some a, xA, xn, xc⟩], P, some (gN, cN), ?_, fun _ => hfin, fun h => absurd rfl h, hlI, fun h => (by cases h), rfl⟩, ?_⟩)
     all_goals first | (simp only [pnS, List.length_append, List.length_singleton, List.length_nil, List.nil_append, hig]; rfl) | (simp only [pnH, List.cons_append, List.nil_append]; (repeat' (first | exact HpSub.refl _ | (apply HpSub.consE; (repeat first | exact P0 | apply P1); first | exact rfl | exact pn_snoc _ _ | exact pn_snoc1 _ _ _ _ _ | (simp [pnCells, pnS]; done) | skip) | apply HpSub.skipX)))
   obtain ⟨bG, oG, t, bk, rfl, hgi, e0, e1⟩ := fl_read hg (show i < p.1.length by omega)
   obtain ⟨z, hz⟩ := hleg i (t, bk) hgi
   rw [List.drop_eq_getElem_cons (show i < p.1.length by omega), (List.getElem?_eq_some_iff.1 hgi).2] at hck
   simp only at hck
   have hfl : flC v q1 q2 q3 g0 g1 C L (t, bk) = legC v q1 q2 q3 g0 g1 C z bk := by unfold flC; rw [hz]
   rw [hfl] at hck
   have HFu := fun w1 (hx : Ext w w1) => fuel_calls bD bM AP AT m cM n cp v q1 q2 q3 q4 g0 g1 E C L t z bk w1 (hd.ext hx) hE (hr.ext hx) (by omega) (by have := (List.getElem?_eq_some_iff.1 hz).1; omega) hz (hL z (List.mem_of_getElem? hz)) hp hcw hC
   unfold fuelV at HFu
   have hcb := (legC_le hcw hp (hL z (List.mem_of_getElem? hz)) bk).1
   by_cases hop : legC v q1 q2 q3 g0 g1 C z bk < 0
   · rw [if_pos hop] at hck
     subst hck
     simp only [if_neg (show ¬ 0 ≤ legC v q1 q2 q3 g0 g1 C z bk by omega), decide_eq_false (show ¬ 0 ≤ legC v q1 q2 q3 g0 g1 C z bk by omega)] at HFu
     repeat' (first | ((with_reducible apply oq_id); first | (focus ((with_reducible apply oq_indexAddrN (i := i)); (iterate 4 exact rfl); omega)) | (focus ((with_reducible apply oq_indexAddrN (i := s)); (iterate 4 exact rfl); omega)) | (focus ((with_reducible apply (oq_subE (m := fu) (n := a.1) (k := fu - a.1))); exact rfl; exact rfl; omega)) | ((with_reducible apply oq_lssT); exact rfl; exact rfl; omega) | ((with_reducible apply oq_lssF); exact rfl; exact rfl; omega) | ((with_reducible apply oq_eqlF); exact rfl; exact rfl; omega) | (apply oq_fn; exact rfl; first | exact trivial | (constructor <;> omega) | omega | skip) | ((with_reducible apply oq_load); exact rfl; exact rfl) | ((with_reducible apply oq_loadAgg); exact rfl; exact rfl) | ((with_reducible apply oq_call (hc := Tryz.call81)); exact rfl; exact rfl; exact fun D w1 hw1 => HFu w1 hw1.ext.ext)) | ((with_reducible apply tl_id); first | (with_reducible apply tl_nil) | ((with_reducible apply u_q); (iterate 4 exact rfl)) | ((with_reducible apply u_s0); exact rfl; exact rfl) | ((with_reducible apply u_s); (iterate 3 exact rfl))) | ((with_reducible apply gx_id); first | (with_reducible apply v_nil) | ((with_reducible apply v_q); (iterate 3 exact rfl))) | ((with_reducible apply os_id); first | ((with_reducible apply os_x); exact rfl) | ((with_reducible apply os_storeAgg); (iterate 5 exact rfl)) | ((with_reducible apply os_appendNil (hk := app_ok132)); exact rfl; exact rfl)) | ((with_reducible apply ox_id); first | ((with_reducible apply ox_alloc); exact rfl; intro _) | ((with_reducible apply ox_buildSlice); (iterate 4 exact rfl))) | ((with_reducible apply rd_id); first | (apply rd_pn0 hx; (repeat first | exact P0 | apply P1); done) | (apply rd_pn1 hx; (repeat first | exact P0 | apply P1); done) | (apply rd_pn2 hx; (repeat first | exact P0 | apply P1); done) | (apply Rd.own; (repeat first | exact P0 | apply P1); exact rfl; done) | (apply Rd.old; (first | (with_reducible assumption) | exact c0 | exact c1 | exact c2 | exact c3 | exact c4 | exact c5 | exact c6 | exact c7 | exact c8 | exact d0 | exact d1 | exact d2 | exact d3 | exact d4 | exact d5); first | exact List.not_mem_nil | exact m0 | exact m1 | exact m2 | exact m3 | exact m4 | exact m5 | exact m6 | exact m7 | exact m8 | exact m9)) | ((with_reducible apply t_id); first | (with_reducible apply t_seq) | (apply t_region; kernel_rfl) | (apply t_drawn; kernel_rfl; decide +kernel; try simp only [List.append_eq, List.cons_append, List.nil_append]) | ((with_reducible apply t_condT); exact rfl) | ((with_reducible apply t_condF); exact rfl) | (with_reducible apply t_ret) | (with_reducible apply t_skip) | (with_reducible apply t_block)) | with_reducible apply q_thenN | with_reducible apply q_thenR | with_reducible apply q_blockR | exact P0 | exact Rdn.zero | apply Rdn.succ | ((with_reducible apply Norm.nil); exact rfl) | ((with_reducible apply Norm.cons); exact rfl) | (with_reducible apply end_ret) | exact rvs_nil | (with_reducible apply rvs_cons) | ((with_reducible apply rv_tmp); exact rfl) | exact Nat.le_of_ble_eq_true rfl | exact (rfl : (_ : Bool) = true) | (intro _ _; with_reducible apply tl_id) | (intro _; with_reducible apply tl_id))
     all_goals exact ⟨_, ⟨[], [], none, rfl, fun h => (by cases h), fun _ => rfl, fun x hx => (by cases hx), fun _ => rfl, rfl⟩, HpSub.nil⟩
   rw [if_neg hop] at hck
   simp only [if_pos (show 0 ≤ legC v q1 q2 q3 g0 g1 C z bk by omega), decide_eq_true (show 0 ≤ legC v q1 q2 q3 g0 g1 C z bk by omega)] at HFu
   repeat' (first | ((with_reducible apply oq_id); first | (focus ((with_reducible apply oq_indexAddrN (i := i)); (iterate 4 exact rfl); omega)) | (focus ((with_reducible apply oq_indexAddrN (i := s)); (iterate 4 exact rfl); omega)) | (focus ((with_reducible apply (oq_subE (m := fu) (n := a.1) (k := fu - a.1))); exact rfl; exact rfl; omega)) | ((with_reducible apply oq_lssT); exact rfl; exact rfl; omega) | ((with_reducible apply oq_lssF); exact rfl; exact rfl; omega) | ((with_reducible apply oq_eqlF); exact rfl; exact rfl; omega) | (apply oq_fn; exact rfl; first | exact trivial | (constructor <;> omega) | omega | skip) | ((with_reducible apply oq_load); exact rfl; exact rfl) | ((with_reducible apply oq_loadAgg); exact rfl; exact rfl) | ((with_reducible apply oq_call (hc := Tryz.call81)); exact rfl; exact rfl; exact fun D w1 hw1 => HFu w1 hw1.ext.ext)) | ((with_reducible apply tl_id); first | (with_reducible apply tl_nil) | ((with_reducible apply u_q); (iterate 4 exact rfl)) | ((with_reducible apply u_s0); exact rfl; exact rfl) | ((with_reducible apply u_s); (iterate 3 exact rfl))) | ((with_reducible apply gx_id); first | (with_reducible apply v_nil) | ((with_reducible apply v_q); (iterate 3 exact rfl))) | ((with_reducible apply os_id); first | ((with_reducible apply os_x); exact rfl) | ((with_reducible apply os_storeAgg); (iterate 5 exact rfl)) | ((with_reducible apply os_appendNil (hk := app_ok132)); exact rfl; exact rfl)) | ((with_reducible apply ox_id); first | ((with_reducible apply ox_alloc); exact rfl; intro _) | ((with_reducible apply ox_buildSlice); (iterate 4 exact rfl))) | ((with_reducible apply rd_id); first | (apply rd_pn0 hx; (repeat first | exact P0 | apply P1); done) | (apply rd_pn1 hx; (repeat first | exact P0 | apply P1); done) | (apply rd_pn2 hx; (repeat first | exact P0 | apply P1); done) | (apply Rd.own; (repeat first | exact P0 | apply P1); exact rfl; done) | (apply Rd.old; (first | (with_reducible assumption) | exact c0 | exact c1 | exact c2 | exact c3 | exact c4 | exact c5 | exact c6 | exact c7 | exact c8 | exact d0 | exact d1 | exact d2 | exact d3 | exact d4 | exact d5); first | exact List.not_mem_nil | exact m0 | exact m1 | exact m2 | exact m3 | exact m4 | exact m5 | exact m6 | exact m7 | exact m8 | exact m9)) | ((with_reducible apply t_id); first | (with_reducible apply t_seq) | (apply t_region; kernel_rfl) | (apply t_drawn; kernel_rfl; decide +kernel; try simp only [List.append_eq, List.cons_append, List.nil_append]) | ((with_reducible apply t_condT); exact rfl) | ((with_reducible apply t_condF); exact rfl) | (with_reducible apply t_skip) | (with_reducible apply t_block)) | with_reducible apply q_thenN | with_reducible apply q_blockN | exact P0 | exact Rdn.zero | apply Rdn.succ | ((with_reducible apply Norm.nil); exact rfl) | ((with_reducible apply Norm.cons); exact rfl) | exact Nat.le_of_ble_eq_true rfl | exact (rfl : (_ : Bool) = true) | (intro _ _; with_reducible apply tl_id) | (intro _; with_reducible apply tl_id))
   all_goals (rename_i b11 b39 gN cN; refine ⟨(i + 1, fu - legC v q1 q2 q3 g0 g1 C z bk, [] ++ [⟨some a, xA, xn, xc⟩], some (gN, cN)), ⟨by simp only; omega, hls, hck, hlI, fun h => (by cases h), by simp only; omega, by simp only; omega⟩, by simp only; omega, ?_, ?_⟩ <;> (try simp only [pnS, pnH, List.nil_append, List.cons_append, List.length_append, List.length_singleton, List.length_nil]) <;> (repeat' (first | exact FrSub.nil | (apply FrSub.cons; exact rfl) | exact HpSub.refl _ | (apply HpSub.consE; (repeat first | exact P0 | apply P1); first | exact rfl | exact pn_snoc _ _ | exact pn_snoc1 _ _ _ _ _ | (simp [pnCells, pnS]; done) | skip) | apply HpSub.skipX)))
 · simp only [pnS, pnH, List.nil_append, List.cons_append]
   obtain ⟨xp, xA, xn, xc⟩ := x
   simp only at hxp
   rcases xp with _ | a
   · rw [← hxp] at hck
     simp only at hck
     subst hck
     repeat' (first | ((with_reducible apply oq_id); first | (focus ((with_reducible apply oq_indexAddrN (i := i)); (iterate 4 exact rfl); omega)) | (focus ((with_reducible apply oq_indexAddrN (i := s)); (iterate 4 exact rfl); omega)) | ((with_reducible apply oq_lssT); exact rfl; exact rfl; omega) | (apply oq_fn; exact rfl; first | exact trivial | (constructor <;> omega) | omega | skip) | ((with_reducible apply oq_load); exact rfl; exact rfl) | ((with_reducible apply oq_loadAgg); exact rfl; exact rfl)) | ((with_reducible apply tl_id); first | (with_reducible apply tl_nil) | ((with_reducible apply u_q); (iterate 4 exact rfl)) | ((with_reducible apply u_s0); exact rfl; exact rfl) | ((with_reducible apply u_s); (iterate 3 exact rfl))) | ((with_reducible apply gx_id); first | (with_reducible apply v_nil) | ((with_reducible apply v_q); (iterate 3 exact rfl)) | ((with_reducible apply v_skip); (iterate 3 exact rfl))) | ((with_reducible apply os_id); first | ((with_reducible apply os_x); exact rfl) | ((with_reducible apply os_storeAgg); (iterate 5 exact rfl)) | ((with_reducible apply os_append (hk := app_ok132)); exact rfl; exact rfl; (repeat first | exact P0 | apply P1))) | ((with_reducible apply ox_id); first | ((with_reducible apply ox_alloc); exact rfl; intro _) | ((with_reducible apply ox_buildSlice); (iterate 4 exact rfl))) | ((with_reducible apply rd_id); first | (apply rd_pn0 hx; (repeat first | exact P0 | apply P1); done) | (apply rd_pn1 hx; (repeat first | exact P0 | apply P1); done) | (apply rd_pn2 hx; (repeat first | exact P0 | apply P1); done) | (apply Rd.own; (repeat first | exact P0 | apply P1); exact rfl; done) | (apply Rd.old; (first | (with_reducible assumption) | exact c0 | exact c1 | exact c2 | exact c3 | exact c4 | exact c5 | exact c6 | exact c7 | exact c8 | exact d0 | exact d1 | exact d2 | exact d3 | exact d4 | exact d5); first | exact List.not_mem_nil | exact m0 | exact m1 | exact m2 | exact m3 | exact m4 | exact m5 | exact m6 | exact m7 | exact m8 | exact m9)) | ((with_reducible apply t_id); first | (with_reducible apply t_seq) | (apply t_region; kernel_rfl) | (apply t_drawn; kernel_rfl; decide +kernel; try simp only [List.append_eq, List.cons_append, List.nil_append]) | ((with_reducible apply t_condT); exact rfl) | (with_reducible apply t_ret) | (with_reducible apply t_skip) | (with_reducible apply t_block)) | with_reducible apply q_thenN | with_reducible apply q_thenR | with_reducible apply q_blockR | exact P0 | exact Rdn.zero | apply Rdn.succ | ((with_reducible apply Norm.nil); exact rfl) | ((with_reducible apply Norm.cons); exact rfl) | (with_reducible apply end_ret) | exact rvs_nil | (with_reducible apply rvs_cons) | ((with_reducible apply rv_tmp); exact rfl) | exact pnF_len _ | exact Nat.le_of_ble_eq_true rfl | exact (rfl : (_ : Bool) = true) | omega | (intro _ _; with_reducible apply tl_id) | (intro _; with_reducible apply tl_id))
     all_goals exact ⟨_, ⟨[], [], none, rfl, fun h => (by cases h), fun _ => rfl, fun x hx => (by cases hx), fun _ => rfl, rfl⟩, HpSub.nil⟩
   obtain ⟨ha0, ha1, _⟩ := hbd s a hxp.symm
   rw [← hxp] at hck
   simp only at hck
   by_cases hlow : fu < a.1 + q4
   · rw [if_pos hlow] at hck
     subst hck
     repeat' (first | ((with_reducible apply oq_id); first | (focus ((with_reducible apply oq_indexAddrN (i := i)); (iterate 4 exact rfl); omega)) | (focus ((with_reducible apply oq_indexAddrN (i := s)); (iterate 4 exact rfl); omega)) | (focus ((with_reducible apply (oq_subE (m := fu) (n := a.1) (k := fu - a.1))); exact rfl; exact rfl; omega)) | ((with_reducible apply oq_lssT); exact rfl; exact rfl; omega) | (apply oq_fn; exact rfl; first | exact trivial | (constructor <;> omega) | omega | skip) | ((with_reducible apply oq_load); exact rfl; exact rfl) | ((with_reducible apply oq_loadAgg); exact rfl; exact rfl)) | ((with_reducible apply tl_id); first | (with_reducible apply tl_nil) | ((with_reducible apply u_q); (iterate 4 exact rfl)) | ((with_reducible apply u_s0); exact rfl; exact rfl) | ((with_reducible apply u_s); (iterate 3 exact rfl))) | ((with_reducible apply gx_id); first | (with_reducible apply v_nil) | ((with_reducible apply v_q); (iterate 3 exact rfl))) | ((with_reducible apply os_id); first | ((with_reducible apply os_x); exact rfl) | ((with_reducible apply os_storeAgg); (iterate 5 exact rfl)) | ((with_reducible apply os_append (hk := app_ok132)); exact rfl; exact rfl; (repeat first | exact P0 | apply P1))) | ((with_reducible apply ox_id); first | ((with_reducible apply ox_alloc); exact rfl; intro _) | ((with_reducible apply ox_buildSlice); (iterate 4 exact rfl))) | ((with_reducible apply rd_id); first | (apply rd_pn0 hx; (repeat first | exact P0 | apply P1); done) | (apply rd_pn1 hx; (repeat first | exact P0 | apply P1); done) | (apply rd_pn2 hx; (repeat first | exact P0 | apply P1); done) | (apply Rd.own; (repeat first | exact P0 | apply P1); exact rfl; done) | (apply Rd.old; (first | (with_reducible assumption) | exact c0 | exact c1 | exact c2 | exact c3 | exact c4 | exact c5 | exact c6 | exact c7 | exact c8 | exact d0 | exact d1 | exact d2 | exact d3 | exact d4 | exact d5); first | exact List.not_mem_nil | exact m0 | exact m1 | exact m2 | exact m3 | exact m4 | exact m5 | exact m6 | exact m7 | exact m8 | exact m9)) | ((with_reducible apply t_id); first | (with_reducible apply t_seq) | (apply t_region; kernel_rfl) | (apply t_drawn; kernel_rfl; decide +kernel; try simp only [List.append_eq, List.cons_append, List.nil_append]) | ((with_reducible apply t_condT); exact rfl) | (with_reducible apply t_ret) | (with_reducible apply t_skip) | (with_reducible apply t_block)) | with_reducible apply q_thenN | with_reducible apply q_thenR | with_reducible apply q_blockR | exact P0 | exact Rdn.zero | apply Rdn.succ | ((with_reducible apply Norm.nil); exact rfl) | ((with_reducible apply Norm.cons); exact rfl) | (with_reducible apply end_ret) | exact rvs_nil | (with_reducible apply rvs_cons) | ((with_reducible apply rv_tmp); exact rfl) | exact pnF_len _ | exact Nat.le_of_ble_eq_true rfl | exact (rfl : (_ : Bool) = true) | omega | (intro _ _; with_reducible apply tl_id) | (intro _; with_reducible apply tl_id))
     all_goals exact ⟨_, ⟨[], [], none, rfl, fun h => (by cases h), fun _ => rfl, fun x hx => (by cases hx), fun _ => rfl, rfl⟩, HpSub.nil⟩
   rw [if_neg hlow] at hck
   by_cases hig : i = p.1.length
   · rw [List.drop_of_length_le (by omega)] at hck
     simp only at hck
     subst hck
     have hfin : List.map (fun y : Pn => y.p) (lo ++ [⟨some a, xA, xn, xc⟩]) = p.2.map (fun s => (plansF (arcs (legC v q1 q2 q3 g0 g1 C) L) m (fun s => T.getD s false) m).getD s none) := by
       rw [hls, List.take_of_length_le (by omega)]
     repeat' (first | ((with_reducible apply oq_id); first | (focus ((with_reducible apply oq_indexAddrN (i := i)); (iterate 4 exact rfl); omega)) | (focus ((with_reducible apply oq_indexAddrN (i := s)); (iterate 4 exact rfl); omega)) | (focus ((with_reducible apply (oq_subE (m := fu) (n := a.1) (k := fu - a.1))); exact rfl; exact rfl; omega)) | ((with_reducible apply oq_lssT); exact rfl; exact rfl; omega) | ((with_reducible apply oq_lssF); exact rfl; exact rfl; omega) | ((with_reducible apply oq_eqlT); exact rfl; exact rfl; omega) | (apply oq_fn; exact rfl; first | exact trivial | (constructor <;> omega) | omega | skip) | ((with_reducible apply oq_load); exact rfl; exact rfl) | ((with_reducible apply oq_loadAgg); exact rfl; exact rfl)) | ((with_reducible apply tl_id); first | (with_reducible apply tl_nil) | ((with_reducible apply u_q); (iterate 4 exact rfl)) | ((with_reducible apply u_s0); exact rfl; exact rfl) | ((with_reducible apply u_s); (iterate 3 exact rfl))) | ((with_reducible apply gx_id); first | (with_reducible apply v_nil) | ((with_reducible apply v_q); (iterate 3 exact rfl))) | ((with_reducible apply os_id); first | ((with_reducible apply os_x); exact rfl) | ((with_reducible apply os_storeAgg); (iterate 5 exact rfl)) | ((with_reducible apply os_append (hk := app_ok132)); exact rfl; exact rfl; (repeat first | exact P0 | apply P1))) | ((with_reducible apply ox_id); first | ((with_reducible apply ox_alloc); exact rfl; intro _) | ((with_reducible apply ox_buildSlice); (iterate 4 exact rfl))) | ((with_reducible apply rd_id); first | (apply rd_pn0 hx; (repeat first | exact P0 | apply P1); done) | (apply rd_pn1 hx; (repeat first | exact P0 | apply P1); done) | (apply rd_pn2 hx; (repeat first | exact P0 | apply P1); done) | (apply Rd.own; (repeat first | exact P0 | apply P1); exact rfl; done) | (apply Rd.old; (first | (with_reducible assumption) | exact c0 | exact c1 | exact c2 | exact c3 | exact c4 | exact c5 | exact c6 | exact c7 | exact c8 | exact d0 | exact d1 | exact d2 | exact d3 | exact d4 | exact d5); first | exact List.not_mem_nil | exact m0 | exact m1 | exact m2 | exact m3 | exact m4 | exact m5 | exact m6 | exact m7 | exact m8 | exact m9)) | ((with_reducible apply t_id); first | (with_reducible apply t_seq) | (apply t_region; kernel_rfl) | (apply t_drawn; kernel_rfl; decide +kernel; try simp only [List.append_eq, List.cons_append, List.nil_append]) | ((with_reducible apply t_condT); exact rfl) | ((with_reducible apply t_condF); exact rfl) | (with_reducible apply t_ret) | (with_reducible apply t_skip) | (with_reducible apply t_exit) | (with_reducible apply t_block)) | with_reducible apply q_thenN | with_reducible apply q_thenE | ((with_reducible apply q_blockE); exact rfl) | ((with_reducible apply q_blockO); exact rfl) | exact P0 | exact Rdn.zero | apply Rdn.succ | ((with_reducible apply Norm.nil); exact rfl) | ((with_reducible apply Norm.cons); exact rfl) | (with_reducible apply end_ret) | exact rvs_nil | (with_reducible apply rvs_cons) | ((with_reducible apply rv_tmp); exact rfl) | exact pnF_len _ | exact Nat.le_of_ble_eq_true rfl | exact (rfl : (_ : Bool) = true) | omega | (intro _ _; with_reducible apply tl_id) | (intro _; with_reducible apply tl_id))
     all_goals (rename_i b11 b39 gN cN; refine ⟨_, ⟨lo ++ [⟨some a, xA, xn, xc⟩], P, some (gN, cN), ?_, fun _ => hfin, fun h => absurd rfl h, hlI, fun h => (by cases h), rfl⟩, ?_⟩)
     all_goals first | (simp only [pnS, List.length_append, List.length_singleton, List.length_nil, List.nil_append, hig]; rfl) | (simp only [pnH, List.cons_append, List.nil_append]; (repeat' (first | exact HpSub.refl _ | (apply HpSub.consE; (repeat first | exact P0 | apply P1); first | exact rfl | exact pn_snoc _ _ | exact pn_snoc1 _ _ _ _ _ | (simp [pnCells, pnS]; done) | skip) | apply HpSub.skipX)))
   obtain ⟨bG, oG, t, bk, rfl, hgi, e0, e1⟩ := fl_read hg (show i < p.1.length by omega)
   obtain ⟨z, hz⟩ := hleg i (t, bk) hgi
   rw [List.drop_eq_getElem_cons (show i < p.1.length by omega), (List.getElem?_eq_some_iff.1 hgi).2] at hck
   simp only at hck
   have hfl : flC v q1 q2 q3 g0 g1 C L (t, bk) = legC v q1 q2 q3 g0 g1 C z bk := by unfold flC; rw [hz]
   rw [hfl] at hck
   have HFu := fun w1 (hx : Ext w w1) => fuel_calls bD bM AP AT m cM n cp v q1 q2 q3 q4 g0 g1 E C L t z bk w1 (hd.ext hx) hE (hr.ext hx) (by omega) (by have := (List.getElem?_eq_some_iff.1 hz).1; omega) hz (hL z (List.mem_of_getElem? hz)) hp hcw hC
   unfold fuelV at HFu
   have hcb := (legC_le hcw hp (hL z (List.mem_of_getElem? hz)) bk).1
   by_cases hop : legC v q1 q2 q3 g0 g1 C z bk < 0
   · rw [if_pos hop] at hck
     subst hck
     simp only [if_neg (show ¬ 0 ≤ legC v q1 q2 q3 g0 g1 C z bk by omega), decide_eq_false (show ¬ 0 ≤ legC v q1 q2 q3 g0 g1 C z bk by omega)] at HFu
     repeat' (first | ((with_reducible apply oq_id); first | (focus ((with_reducible apply oq_indexAddrN (i := i)); (iterate 4 exact rfl); omega)) | (focus ((with_reducible apply oq_indexAddrN (i := s)); (iterate 4 exact rfl); omega)) | (focus ((with_reducible apply (oq_subE (m := fu) (n := a.1) (k := fu - a.1))); exact rfl; exact rfl; omega)) | ((with_reducible apply oq_lssT); exact rfl; exact rfl; omega) | ((with_reducible apply oq_lssF); exact rfl; exact rfl; omega) | ((with_reducible apply oq_eqlF); exact rfl; exact rfl; omega) | (apply oq_fn; exact rfl; first | exact trivial | (constructor <;> omega) | omega | skip) | ((with_reducible apply oq_load); exact rfl; exact rfl) | ((with_reducible apply oq_loadAgg); exact rfl; exact rfl) | ((with_reducible apply oq_call (hc := Tryz.call81)); exact rfl; exact rfl; exact fun D w1 hw1 => HFu w1 hw1.ext.ext)) | ((with_reducible apply tl_id); first | (with_reducible apply tl_nil) | ((with_reducible apply u_q); (iterate 4 exact rfl)) | ((with_reducible apply u_s0); exact rfl; exact rfl) | ((with_reducible apply u_s); (iterate 3 exact rfl))) | ((with_reducible apply gx_id); first | (with_reducible apply v_nil) | ((with_reducible apply v_q); (iterate 3 exact rfl))) | ((with_reducible apply os_id); first | ((with_reducible apply os_x); exact rfl) | ((with_reducible apply os_storeAgg); (iterate 5 exact rfl)) | ((with_reducible apply os_append (hk := app_ok132)); exact rfl; exact rfl; (repeat first | exact P0 | apply P1))) | ((with_reducible apply ox_id); first | ((with_reducible apply ox_alloc); exact rfl; intro _) | ((with_reducible apply ox_buildSlice); (iterate 4 exact rfl))) | ((with_reducible apply rd_id); first | (apply rd_pn0 hx; (repeat first | exact P0 | apply P1); done) | (apply rd_pn1 hx; (repeat first | exact P0 | apply P1); done) | (apply rd_pn2 hx; (repeat first | exact P0 | apply P1); done) | (apply Rd.own; (repeat first | exact P0 | apply P1); exact rfl; done) | (apply Rd.old; (first | (with_reducible assumption) | exact c0 | exact c1 | exact c2 | exact c3 | exact c4 | exact c5 | exact c6 | exact c7 | exact c8 | exact d0 | exact d1 | exact d2 | exact d3 | exact d4 | exact d5); first | exact List.not_mem_nil | exact m0 | exact m1 | exact m2 | exact m3 | exact m4 | exact m5 | exact m6 | exact m7 | exact m8 | exact m9)) | ((with_reducible apply t_id); first | (with_reducible apply t_seq) | (apply t_region; kernel_rfl) | (apply t_drawn; kernel_rfl; decide +kernel; try simp only [List.append_eq, List.cons_append, List.nil_append]) | ((with_reducible apply t_condT); exact rfl) | ((with_reducible apply t_condF); exact rfl) | (with_reducible apply t_ret) | (with_reducible apply t_skip) | (with_reducible apply t_block)) | with_reducible apply q_thenN | with_reducible apply q_thenR | with_reducible apply q_blockR | exact P0 | exact Rdn.zero | apply Rdn.succ | ((with_reducible apply Norm.nil); exact rfl) | ((with_reducible apply Norm.cons); exact rfl) | (with_reducible apply end_ret) | exact rvs_nil | (with_reducible apply rvs_cons) | ((with_reducible apply rv_tmp); exact rfl) | exact pnF_len _ | exact Nat.le_of_ble_eq_true rfl | exact (rfl : (_ : Bool) = true) | omega | (intro _ _; with_reducible apply tl_id) | (intro _; with_reducible apply tl_id))
     all_goals exact ⟨_, ⟨[], [], none, rfl, fun h => (by cases h), fun _ => rfl, fun x hx => (by cases hx), fun _ => rfl, rfl⟩, HpSub.nil⟩
   rw [if_neg hop] at hck
   simp only [if_pos (show 0 ≤ legC v q1 q2 q3 g0 g1 C z bk by omega), decide_eq_true (show 0 ≤ legC v q1 q2 q3 g0 g1 C z bk by omega)] at HFu
   repeat' (first | ((with_reducible apply oq_id); first | (focus ((with_reducible apply oq_indexAddrN (i := i)); (iterate 4 exact rfl); omega)) | (focus ((with_reducible apply oq_indexAddrN (i := s)); (iterate 4 exact rfl); omega)) | (focus ((with_reducible apply (oq_subE (m := fu) (n := a.1) (k := fu - a.1))); exact rfl; exact rfl; omega)) | ((with_reducible apply oq_lssT); exact rfl; exact rfl; omega) | ((with_reducible apply oq_lssF); exact rfl; exact rfl; omega) | ((with_reducible apply oq_eqlF); exact rfl; exact rfl; omega) | (apply oq_fn; exact rfl; first | exact trivial | (constructor <;> omega) | omega | skip) | ((with_reducible apply oq_load); exact rfl; exact rfl) | ((with_reducible apply oq_loadAgg); exact rfl; exact rfl) | ((with_reducible apply oq_call (hc := Tryz.call81)); exact rfl; exact rfl; exact fun D w1 hw1 => HFu w1 hw1.ext.ext)) | ((with_reducible apply tl_id); first | (with_reducible apply tl_nil) | ((with_reducible apply u_q); (iterate 4 exact rfl)) | ((with_reducible apply u_s0); exact rfl; exact rfl) | ((with_reducible apply u_s); (iterate 3 exact rfl))) | ((with_reducible apply gx_id); first | (with_reducible apply v_nil) | ((with_reducible apply v_q); (iterate 3 exact rfl))) | ((with_reducible apply os_id); first | ((with_reducible apply os_x); exact rfl) | ((with_reducible apply os_storeAgg); (iterate 5 exact rfl)) | ((with_reducible apply os_append (hk := app_ok132)); exact rfl; exact rfl; (repeat first | exact P0 | apply P1))) | ((with_reducible apply ox_id); first | ((with_reducible apply ox_alloc); exact rfl; intro _) | ((with_reducible apply ox_buildSlice); (iterate 4 exact rfl))) | ((with_reducible apply rd_id); first | (apply rd_pn0 hx; (repeat first | exact P0 | apply P1); done) | (apply rd_pn1 hx; (repeat first | exact P0 | apply P1); done) | (apply rd_pn2 hx; (repeat first | exact P0 | apply P1); done) | (apply Rd.own; (repeat first | exact P0 | apply P1); exact rfl; done) | (apply Rd.old; (first | (with_reducible assumption) | exact c0 | exact c1 | exact c2 | exact c3 | exact c4 | exact c5 | exact c6 | exact c7 | exact c8 | exact d0 | exact d1 | exact d2 | exact d3 | exact d4 | exact d5); first | exact List.not_mem_nil | exact m0 | exact m1 | exact m2 | exact m3 | exact m4 | exact m5 | exact m6 | exact m7 | exact m8 | exact m9)) | ((with_reducible apply t_id); first | (with_reducible apply t_seq) | (apply t_region; kernel_rfl) | (apply t_drawn; kernel_rfl; decide +kernel; try simp only [List.append_eq, List.cons_append, List.nil_append]) | ((with_reducible apply t_condT); exact rfl) | ((with_reducible apply t_condF); exact rfl) | (with_reducible apply t_skip) | (with_reducible apply t_block)) | with_reducible apply q_thenN | with_reducible apply q_blockN | exact P0 | exact Rdn.zero | apply Rdn.succ | ((with_reducible apply Norm.nil); exact rfl) | ((with_reducible apply Norm.cons); exact rfl) | exact pnF_len _ | exact Nat.le_of_ble_eq_true rfl | exact (rfl : (_ : Bool) = true) | omega | (intro _ _; with_reducible apply tl_id) | (intro _; with_reducible apply tl_id))
   all_goals (rename_i b11 b39 gN cN; refine ⟨(i + 1, fu - legC v q1 q2 q3 g0 g1 C z bk, lo ++ [⟨some a, xA, xn, xc⟩], some (gN, cN)), ⟨by simp only; omega, hls, hck, hlI, fun h => (by cases h), by simp only; omega, by simp only; omega⟩, by simp only; omega, ?_, ?_⟩ <;> (try simp only [pnS, pnH, List.nil_append, List.cons_append, List.length_append, List.length_singleton, List.length_nil]) <;> (repeat' (first | exact FrSub.nil | (apply FrSub.cons; exact rfl) | exact HpSub.refl _ | (apply HpSub.consE; (repeat first | exact P0 | apply P1); first | exact rfl | exact pn_snoc _ _ | exact pn_snoc1 _ _ _ _ _ | (simp [pnCells, pnS]; done) | skip) | apply HpSub.skipX)))
theorem check76_no (bT bD bM : Nat) (AS : Option Addr) (cS : Nat) (AG : Option Addr) (cG : Nat) (AP AT : Option Addr) (m cM n cp : Nat) (L : List Lg) (v q1 q2 q3 q4 : Int) (g0 g1 : Nat) (E : List En) (C : List Wn) (T : List Bool) (p : Trp) (rs : List Int) (w : World) (ht : TrpR w bT bD bM AS cS AG cG AP AT m cM n cp v q1 q2 q3 q4 g0 g1 E p) (hTI : TI L m rs p) (hE : E.map keyOf = deskE v q1 q2 q3 C L n) (hr : RdS w 5 AT n (L.map lgCells)) (hT : RdS w 1 AP m (T.map blCells)) (hn : n ≤ 40) (hm : m ≤ 12) (h20 : rs.length ≤ 20) (hL : ∀ z ∈ L, LegOk m z) (hp : PaceOk v q1 q2 q3 q4 g0 g1) (hcw : ∀ x ∈ C, windB x.l = true) (hC : C.length ≤ 4) (fu : Int) (hfu : ¬ (0 ≤ fu ∧ fu ≤ 1099511627776)) : Calls Tryz.prog 76 #[.pointer (some ⟨bT, 0, none⟩), .int .i64 fu] w fun e w' => ∃ u H', e = .returned u ∧ ChkV (fun s => (plansF (arcs (legC v q1 q2 q3 g0 g1 C) L) m (fun s => T.getD s false) m).getD s none) p.2 (0, 2) u H' ∧ Has w ⟨[], []⟩ H' w' := by
 refine enterF (c := cx w 94) Tryz.func76 rfl rfl rfl rfl ?_
 ((all_goals refine gqT6 ?_); (all_goals constructor); (any_goals exact trivial); all_goals intros)
 all_goals exact ⟨_, ⟨[], [], none, rfl, fun h => (by cases h), fun _ => rfl, fun x hx => (by cases hx), fun _ => rfl, rfl⟩, HpSub.nil⟩
def ledE (m : Nat) (L : List Lg) (v q1 q2 q3 q4 g0 g1 : Int) (C : List Wn) (s : Int) (rs : List Int) : Int :=
 if askE m L v q1 q2 q3 q4 g0 g1 C = 0 then (if rs.length ≤ 20 then (match tripI m L s rs with | none => 2 | some _ => 0) else 4) else askE m L v q1 q2 q3 q4 g0 g1 C
theorem led_zero {m : Nat} {L : List Lg} {v q1 q2 q3 q4 g0 g1 : Int} {C : List Wn} {s : Int} {rs : List Int} (h : ledE m L v q1 q2 q3 q4 g0 g1 C s rs = 0) : askE m L v q1 q2 q3 q4 g0 g1 C = 0 ∧ rs.length ≤ 20 ∧ ∃ p, tripI m L s rs = some p := by
 unfold ledE at h
 split at h
 · rename_i h1
   split at h
   · rename_i h2
     cases hp : tripI m L s rs with
     | none => rw [hp] at h; cases h
     | some p => exact ⟨h1, h2, p, rfl⟩
   · cases h
 · rename_i h1
   exact absurd h h1
theorem trip_in {m : Nat} {L : List Lg} {s : Int} {rs : List Int} {p : Trp} (hL : ∀ z ∈ L, LegOk m z) (h : tripI m L s rs = some p) : TI L m rs p := by
 unfold tripI at h
 split at h
 · rename_i hs
   exact trip_ti hL (by omega) h
 · cases h
theorem travel_err (AM A : Option Addr) (m cM n cp : Nat) (L : List Lg) (w : World) (hr : RdS w 5 A n (L.map lgCells)) (hn : n ≤ 1000000) (hm : m ≤ 1000000) (v q1 q2 q3 q4 g0 g1 : Int) (AC : Option Addr) (nC cC : Nat) (C : List Wn) (hrc : CastR w AC nC C) (hs : ∀ z ∈ C, z.n ≤ 1000000) (s : Int) (AR : Option Addr) (nR cR : Nat) (rs : List Int) (hR : RdS w 1 AR nR (rs.map inCells)) (hnR : nR ≤ 1000000) (he : ledE m L v q1 q2 q3 q4 g0 g1 C s rs ≠ 0) : Calls Tryz.prog 57 #[.agg #[.slice AM m cM, .slice A n cp], .agg #[.int .i64 v, .int .i64 q1, .int .i64 q2, .int .i64 q3, .int .i64 q4, .int .i64 g0, .int .i64 g1], .slice AC nC cC, .int .i64 s, .slice AR nR cR] w fun e w' => e = .returned (.tuple #[.pointer none, .int .i64 (ledE m L v q1 q2 q3 q4 g0 g1 C s rs)]) ∧ Ext w w' := by
 by_cases hE : askE m L v q1 q2 q3 q4 g0 g1 C = 0
 rotate_left
 · rw [show ledE m L v q1 q2 q3 q4 g0 g1 C s rs = askE m L v q1 q2 q3 q4 g0 g1 C from if_neg hE]
   exact travel_no AM A m cM n cp L w hr hn hm v q1 q2 q3 q4 g0 g1 AC nC cC C hrc hs s AR nR cR rs hR hnR hE
 by_cases h20 : rs.length ≤ 20
 rotate_left
 · rw [show ledE m L v q1 q2 q3 q4 g0 g1 C s rs = 4 by unfold ledE; rw [if_pos hE, if_neg h20]]
   exact travel_many AM A m cM n cp L w hr hn hm v q1 q2 q3 q4 g0 g1 AC nC cC C hrc hs s AR nR cR rs hR hnR hE (by omega)
 cases hp : tripI m L s rs with
 | some p => exact absurd (by unfold ledE; rw [if_pos hE, if_pos h20, hp]) he
 | none =>
   rw [show ledE m L v q1 q2 q3 q4 g0 g1 C s rs = 2 by unfold ledE; rw [if_pos hE, if_pos h20, hp]]
   have h := travel_ok AM A m cM n cp L w hr hn hm v q1 q2 q3 q4 g0 g1 AC nC cC C hrc hs s AR nR cR rs hR hnR hE h20
   rw [hp] at h
   exact h.mono fun e w' ⟨u, H', h1, ⟨h2, h3⟩, h4⟩ => ⟨by rw [h1, h2], h4.ext.ext⟩
noncomputable def chkE (m : Nat) (L : List Lg) (T : List Bool) (v q1 q2 q3 q4 : Int) (g0 g1 : Nat) (C : List Wn) (p : Trp) (fu : Int) : Int × Int := if 0 ≤ fu ∧ fu ≤ 1099511627776 then chkF (fun s => (plansF (arcs (legC v q1 q2 q3 g0 g1 C) L) m (fun s => T.getD s false) m).getD s none) (flC v q1 q2 q3 g0 g1 C L) q4 0 p.2 p.1 fu else (0, 2)
theorem check27_err (AM A : Option Addr) (m cM n cp : Nat) (L : List Lg) (w : World) (hr : RdS w 5 A n (L.map lgCells)) (hn : n ≤ 1000000) (hm : m ≤ 1000000) (v q1 q2 q3 q4 g0 g1 : Int) (AC : Option Addr) (nC cC : Nat) (C : List Wn) (hrc : CastR w AC nC C) (hs : ∀ z ∈ C, z.n ≤ 1000000) (s : Int) (AR : Option Addr) (nR cR : Nat) (rs : List Int) (hR : RdS w 1 AR nR (rs.map inCells)) (hnR : nR ≤ 1000000) (he : ledE m L v q1 q2 q3 q4 g0 g1 C s rs ≠ 0) (fu : Int) : Calls Tryz.prog 27 #[.agg #[.slice AM m cM, .slice A n cp], .agg #[.int .i64 v, .int .i64 q1, .int .i64 q2, .int .i64 q3, .int .i64 q4, .int .i64 g0, .int .i64 g1], .slice AC nC cC, .int .i64 s, .slice AR nR cR, .int .i64 fu] w fun e w' => e = .returned (.tuple #[.int .i64 0, .int .i64 (ledE m L v q1 q2 q3 q4 g0 g1 C s rs)]) ∧ Ext w w' := by
 have HN := fun w1 (hx : Ext w w1) => travel_err AM A m cM n cp L w1 (hr.ext hx) hn hm v q1 q2 q3 q4 g0 g1 AC nC cC C (hrc.ext hx) hs s AR nR cR rs (hR.ext hx) hnR he
 generalize ledE m L v q1 q2 q3 q4 g0 g1 C s rs = e0 at *
 refine enterQ (c := cx w 36) Tryz.func27 rfl rfl rfl rfl ?_
 ((all_goals refine gqT0 ?_); (all_goals constructor); (any_goals exact trivial); all_goals intros)
 all_goals rfl
theorem check27_ok (AM A : Option Addr) (m cM n cp : Nat) (L : List Lg) (w : World) (hr : RdS w 5 A n (L.map lgCells)) (hn : n ≤ 1000000) (hm : m ≤ 1000000) (v q1 q2 q3 q4 : Int) (g0 g1 : Nat) (AC : Option Addr) (nC cC : Nat) (C : List Wn) (hrc : CastR w AC nC C) (hs : ∀ z ∈ C, z.n ≤ 1000000) (s : Int) (AR : Option Addr) (nR cR : Nat) (rs : List Int) (hR : RdS w 1 AR nR (rs.map inCells)) (hnR : nR ≤ 1000000) (hE : askE m L v q1 q2 q3 q4 (g0 : Nat) (g1 : Nat) C = 0) (h20 : rs.length ≤ 20) (p : Trp) (htr : tripI m L s rs = some p) (T : List Bool) (hT : RdS w 1 AM m (T.map blCells)) (fu : Int) : Calls Tryz.prog 27 #[.agg #[.slice AM m cM, .slice A n cp], .agg #[.int .i64 v, .int .i64 q1, .int .i64 q2, .int .i64 q3, .int .i64 q4, .int .i64 (g0 : Nat), .int .i64 (g1 : Nat)], .slice AC nC cC, .int .i64 s, .slice AR nR cR, .int .i64 fu] w fun e w' => e = .returned (.tuple #[.int .i64 (chkE m L T v q1 q2 q3 q4 g0 g1 C p fu).1, .int .i64 (chkE m L T v q1 q2 q3 q4 g0 g1 C p fu).2]) ∧ Ext w w' := by
 have HO := fun w1 (hx : Ext w w1) => travel_ok AM A m cM n cp L w1 (hr.ext hx) hn hm v q1 q2 q3 q4 g0 g1 AC nC cC C (hrc.ext hx) hs s AR nR cR rs (hR.ext hx) hnR hE h20
 rw [htr] at HO
 obtain ⟨hch, hpk, hk0⟩ := askE_ok hE
 obtain ⟨hcl, hcw⟩ := castE_zero.1 hk0
 have hlc := hrc.len
 obtain ⟨hm1, hL40, hLk⟩ := chartB_iff.1 hch
 have hl : L.length = n := by simpa using hr.len
 have hTI := trip_in hLk htr
 have HK := fun bT bD bM bS cS E AG cG w1 (hx : Ext w w1) (ht : TrpR w1 bT bD bM (some ⟨bS, 0, none⟩) cS AG cG AM A m cM n cp v q1 q2 q3 q4 g0 g1 E p) hE2 => (by
   unfold chkE
   split
   · rename_i hfu
     exact check76_calls bT bD bM (some ⟨bS, 0, none⟩) cS AG cG AM A m cM n cp L v q1 q2 q3 q4 g0 g1 E C T p rs w1 ht hTI hE2 (hr.ext hx) (hT.ext hx) (by omega) (by omega) h20 hLk hpk hcw (by omega) fu hfu _ rfl
   · rename_i hfu
     exact check76_no bT bD bM (some ⟨bS, 0, none⟩) cS AG cG AM A m cM n cp L v q1 q2 q3 q4 g0 g1 E C T p rs w1 ht hTI hE2 (hr.ext hx) (hT.ext hx) (by omega) (by omega) h20 hLk hpk hcw (by omega) fu hfu : Calls Tryz.prog 76 #[.pointer (some ⟨bT, 0, none⟩), .int .i64 fu] w1 fun e w' => ∃ u H', e = .returned u ∧ ChkV (fun s => (plansF (arcs (legC v q1 q2 q3 g0 g1 C) L) m (fun s => T.getD s false) m).getD s none) p.2 (chkE m L T v q1 q2 q3 q4 g0 g1 C p fu) u H' ∧ Has w1 ⟨[], []⟩ H' w')
 obtain ⟨ce, hce⟩ : ∃ ce, chkE m L T v q1 q2 q3 q4 g0 g1 C p fu = ce := ⟨_, rfl⟩
 rw [hce] at HK ⊢
 refine enterQ (c := cx w 36) Tryz.func27 rfl rfl rfl rfl ?_
 repeat' (first | ((with_reducible apply oq_id); first | ((with_reducible apply oq_neqF); exact rfl; exact rfl; omega) | (apply oq_fn; exact rfl; first | exact trivial | (constructor <;> omega) | omega | skip) | ((with_reducible apply oq_loadAgg); exact rfl; exact rfl)) | ((with_reducible apply tl_id); first | (with_reducible apply tl_nil) | ((with_reducible apply u_s); (iterate 3 exact rfl); (with_reducible apply os_callS (PV := TravV AM _ m cM n cp v q1 q2 q3 q4 g0 g1 C L (some p)) (hc := Tryz.call57)); exact rfl; exact rfl; exact fun D w1 hw1 => HO w1 hw1.ext.ext; rintro _ _ ⟨bT, bD, bM, bS, cS, E, o, rfl, ho, rfl, hE2, hnl⟩; simp only [List.cons_append, List.nil_append]) | ((with_reducible apply u_s); (iterate 3 exact rfl); (with_reducible apply os_callS (PV := ChkV _ p.2 ce) (hc := Tryz.call76)); exact rfl; exact rfl; exact fun D w1 hw1 => (by obtain ⟨AG, cG, ht⟩ := TrpR.of_has (hw1.sub (by repeat (first | exact HpSub.refl _ | apply HpSub.skipX))) ho hnl; exact HK bT bD bM bS cS E AG cG w1 hw1.ext.ext ht hE2); rintro _ _ ⟨l, P, o2, rfl, hl1, hl2, hlI, ho2, rfl⟩; simp only [List.cons_append, List.nil_append]) | ((with_reducible apply u_q); (iterate 4 exact rfl)) | ((with_reducible apply u_s); (iterate 3 exact rfl))) | ((with_reducible apply os_id); first | ((with_reducible apply os_x); exact rfl)) | ((with_reducible apply ox_id); first | ((with_reducible apply ox_boxAgg); exact rfl; intro _)) | ((with_reducible apply rd_id); first | (apply Rd.own; (repeat first | exact P0 | apply P1); exact rfl; done)) | ((with_reducible apply t_id); first | (with_reducible apply t_seq) | (apply t_region; kernel_rfl) | ((with_reducible apply t_condF); exact rfl) | (with_reducible apply t_ret) | (with_reducible apply t_skip)) | with_reducible apply q_thenN | exact Rdn.zero | apply Rdn.succ | (with_reducible apply end_ret) | exact rvs_nil | (with_reducible apply rvs_cons) | ((with_reducible apply rv_tmp); exact rfl))
 all_goals rfl
abbrev Rz := List Nat × Option (Nat × Nat)
def rzV (r : Rz) : Value := sN r.1 r.2
def rzK (a : Hp) (r : Rz) : Hp := hN r.1 r.2 ++ a
def rzB (R : List Rz) : Hp := R.foldl rzK []
theorem rzB_snoc (R : List Rz) (r : Rz) : rzB (R ++ [r]) = hN r.1 r.2 ++ rzB R := by simp [rzB, rzK, List.foldl_append]
def lzS (R : List Rz) : Option (Nat × Nat) → Value
 | none => .slice none 0 0
 | some (b, cap) => .slice (some ⟨b, 0, none⟩) R.length cap
def lzH (R : List Rz) : Option (Nat × Nat) → Hp
 | none => []
 | some (b, cap) => (b, R.map rzV, some (31, 1, cap)) :: rzB R
theorem lzM_len (R : List Rz) : (R.map rzV).length = R.length * 1 := by simp
def AltV (a : List (List Nat) × Int) (u : Value) (H : Hp) : Prop := ∃ R o, u = .tuple #[lzS R o, .int .i64 a.2] ∧ R.map Prod.fst = a.1 ∧ (∀ r ∈ R, r.2 = none → r.1 = []) ∧ (o = none → R = []) ∧ H = lzH R o
noncomputable def altE (m : Nat) (L : List Lg) (T : List Bool) (v q1 q2 q3 q4 : Int) (g0 g1 : Nat) (C : List Wn) (p : Trp) (fu : Int) : List (List Nat) × Int := (if (chkE m L T v q1 q2 q3 q4 g0 g1 C p fu).2 = 0 then p.2.map (fun s => plL ((fun s => (plansF (arcs (legC v q1 q2 q3 g0 g1 C) L) m (fun s => T.getD s false) m).getD s none) s)) else [], (chkE m L T v q1 q2 q3 q4 g0 g1 C p fu).2)
theorem oq_eqNilT {c : Cx} {F : Fr} {H : Hp} {d : Option Tmp} {ty t t' : TypeId} {pos : String} {af : Array Edge} {g : Option (Nat × Bool)} {x y : Operand} {e s0 : Nat} {a0 : Bool} {z0 : List Value} (ht : tyAt c.tys t = some ⟨a0, s0, z0, .slice e⟩)
   (hx : ev F x = some (.slice none 0 0)) (hy : ev F y = some (.slice none 0 0)) : OQ c ⟨d, .binOp .eql t x y t', ty, pos, af, g⟩ F H (.bool true) := .of fun D a w ha _ => by
 have hk := (c.ty ht).kind w
 have e0 : (Op.equalIn 10000 t (.slice none 0 0) (.slice none 0 0)).run c.P w = .ok true w := by
   have key : ∀ d : Nat, (Op.equalIn (d + 1) t (.slice none 0 0) (.slice none 0 0)).run c.P w = .ok true w := fun d => by
     simp only [Op.equalIn, Sem.run_bind, hk, Result.andThen, Sem.run_pure, Option.isNone]
   exact key 9999
 have e : (binOp .eql t (.slice none 0 0) (.slice none 0 0)).run c.P w = .ok (.bool true) w := by
   simp only [binOp, Op.equal, Op.maxDepth, Sem.run_bind, e0, Result.andThen, Sem.run_pure]
 have e1 : (eqGuard .eql t x y (.slice none 0 0) (.slice none 0 0)).run c.P w = .ok () w := by simp [eqGuard, go_sem]
 simp only [execOp, ha.ev hx, ha.ev hy, Sem.run_bind, e, e1, Result.andThen, Sem.run_pure]
theorem clone78_nil (w : World) : Calls Tryz.prog 78 #[.slice none 0 0] w fun e w' => e = .returned (.slice none 0 0) ∧ Ext w w' := by
 refine enterQ (c := cx w 8) Tryz.func78 rfl rfl rfl rfl ?_
 ((all_goals refine gqT6 ?_); (all_goals constructor); (any_goals exact trivial); all_goals intros)
 all_goals rfl
theorem clone78_calls (g n c : Nat) (l : List Nat) (w : World) (hr : RdS w 1 (some ⟨g, 0, none⟩) n ((cI l).map inCells)) (hn : n ≤ 1000000) : Calls Tryz.prog 78 #[.slice (some ⟨g, 0, none⟩) n c] w fun e w' => ∃ u H', e = .returned u ∧ (∃ b cap, u = .slice (some ⟨b, 0, none⟩) n cap ∧ H' = [(b, (cI l).map iv, some (3, 1, cap))]) ∧ Has w ⟨[], []⟩ H' w' := by
 refine enterF (c := cx w 8) Tryz.func78 rfl rfl rfl rfl ?_
 repeat' (first | ((with_reducible apply oq_id); first | ((with_reducible apply oq_eqNil); (iterate 3 exact rfl)) | (apply oq_fn; exact rfl; first | exact trivial | (constructor <;> omega) | omega | skip)) | ((with_reducible apply tl_id); first | (with_reducible apply tl_nil) | ((with_reducible apply u_s); (iterate 3 exact rfl); ((with_reducible apply (os_appendU (hk := app_ok31) (rows := (cI l).map inCells))); exact rfl; exact rfl; (repeat first | exact P0 | apply P1); exact fun D w1 hw1 => hr.ext hw1.ext.ext; exact in_rows_len; exact rfl; exact in_rows_one; omega; omega; intro bN cN)) | ((with_reducible apply u_q); (iterate 4 exact rfl)) | ((with_reducible apply u_s); (iterate 3 exact rfl))) | ((with_reducible apply os_id); first | ((with_reducible apply os_x); exact rfl)) | ((with_reducible apply ox_id); first | ((with_reducible apply ox_buildSlice1); (iterate 6 exact rfl); intro _)) | ((with_reducible apply t_id); first | (with_reducible apply t_seq) | (apply t_region; kernel_rfl) | ((with_reducible apply t_condF); exact rfl) | (with_reducible apply t_ret) | (with_reducible apply t_skip)) | with_reducible apply q_thenN | (with_reducible apply end_ret) | exact rvs_nil | (with_reducible apply rvs_cons) | ((with_reducible apply rv_tmp); exact rfl))
 all_goals (refine ⟨_, ⟨bN, cN, (by first | rfl | (rw [Nat.zero_add]; rfl)), rfl⟩, ?_⟩; (try simp only [List.append_nil, List.nil_append, in_flat]); exact HpSub.refl _)
theorem sameInts_calls (A A' : Option Addr) (n c n' c' : Nat) (l m : List Int) (q : Bool) (hq : q = true ↔ l = m) (w : World) (hr : RdS w 1 A n (l.map inCells)) (hr' : RdS w 1 A' n' (m.map inCells)) (hn : n ≤ 1000000) (hn' : n' ≤ 1000000) :
   Calls Tryz.prog 75 #[.slice A n c, .slice A' n' c'] w fun e w' => e = .returned (.bool q) ∧ Ext w w' := by
 have hl := hr.len
 have hl' := hr'.len
 simp only [List.length_map] at hl hl'
 by_cases hnn : n = n'
 · subst hnn
   refine enterQ (c := cx w 26) Tryz.func75 rfl rfl rfl rfl ?_
   ((all_goals refine goT1 ?_); (all_goals constructor); (any_goals exact trivial); all_goals intros)
   apply t_loopK (ι := Nat) [0, 1] (fun k => [(5, .int .i64 (k : Nat))]) (fun _ => []) (fun k => k ≤ n ∧ ∀ j, j < k → l[j]? = m[j]?) (fun k => n - k) (0)
   (repeat (first | exact KeepF.nil | (apply KeepF.cons; exact rfl) | apply KeepF.skip))
   (repeat (first | exact FrSub.nil | (apply FrSub.cons; exact rfl)))
   (repeat (first | exact HpSub.refl _ | (apply HpSub.consE; (repeat first | exact P0 | apply P1); exact rfl) | exact HpSub.nil))
   · exact ⟨by omega, fun j hj => by omega⟩
   rintro k ⟨hk, hkp⟩
   try simp only [List.cons_append, List.nil_append]
   by_cases hlt : k < n
   · obtain ⟨b, o, x, rfl, _, hx, c0⟩ := in_read hr hlt
     obtain ⟨b', o', y, rfl, _, hy, d0⟩ := in_read hr' hlt
     by_cases hxy : x = y
     · subst hxy
       ((all_goals refine goT1 ?_); (all_goals constructor); (any_goals exact trivial); all_goals intros)
       refine ⟨k + 1, ⟨by omega, fun j hj => ?_⟩, by omega, ?_, ?_⟩
       · rcases Nat.lt_or_ge j k with h | h
         · exact hkp j h
         · obtain rfl : j = k := by omega
           rw [hx, hy]
       · try simp only [List.cons_append, List.nil_append]
         (repeat' (first | exact FrSub.nil | (apply FrSub.cons; exact rfl)))
       · try simp only [List.cons_append, List.nil_append]
         (repeat' (first | exact HpSub.refl _))
     · ((all_goals refine goT1 ?_); (all_goals constructor); (any_goals exact trivial); all_goals intros)
       have hf : q = false := by
         cases q with
         | false => rfl
         | true =>
           have e := hq.1 rfl
           rw [e, hy] at hx
           exact absurd (Option.some.inj hx).symm hxy
       rw [hf]; rfl
   · ((all_goals refine goT1 ?_); (all_goals constructor); (any_goals exact trivial); all_goals intros)
     have : q = true := hq.2 (List.ext_getElem? fun j => by
       rcases Nat.lt_or_ge j n with h | h
       · exact hkp j (by omega)
       · rw [List.getElem?_eq_none (by omega), List.getElem?_eq_none (by omega)])
     rw [this]; rfl
 · have : q = false := by
     cases q with
     | false => rfl
     | true => exact absurd (by rw [← hl, ← hl', hq.1 rfl]) hnn
   refine enterQ (c := cx w 26) Tryz.func75 rfl rfl rfl rfl ?_
   ((all_goals refine goT1 ?_); (all_goals constructor); (any_goals exact trivial); all_goals intros)
   rw [this]
   all_goals rfl
structure LisZ (w : World) (A : Option Addr) (n : Nat) (L : List (List Nat)) : Prop where
 len : L.length = n
 ex : ∃ R : List (List Nat × Option Addr × Nat), RdS w 1 A n (R.map fun r => [Value.slice r.2.1 r.1.length r.2.2]) ∧ R.map Prod.fst = L ∧ ∀ r ∈ R, RdS w 1 r.2.1 r.1.length ((cI r.1).map inCells)
theorem LisZ.ext {w w' : World} {A : Option Addr} {n : Nat} {L : List (List Nat)} (h : LisZ w A n L) (he : Ext w w') : LisZ w' A n L := by
 obtain ⟨h0, R, h1, h2, h3⟩ := h
 exact ⟨h0, R, h1.ext he, h2, fun r hr => (h3 r hr).ext he⟩
theorem mem_rzB : ∀ {R : List Rz} (a : Hp) {x : Nat × List Value × Tg}, (x ∈ a ∨ ∃ r ∈ R, ∃ b c, r.2 = some (b, c) ∧ x = (b, (cI r.1).map iv, some (3, 1, c))) → x ∈ R.foldl rzK a
 | [], a, x, h => by
   rcases h with h | ⟨r, hr, _⟩
   · exact h
   · cases hr
 | q :: R, a, x, h => by
   refine mem_rzB (rzK a q) ?_
   rcases h with h | ⟨r, hr, b, c, e, e2⟩
   · exact .inl (List.mem_append_right _ h)
   · rcases List.mem_cons.1 hr with rfl | hr
     · refine .inl (List.mem_append_left _ ?_)
       rw [e, e2]
       exact List.mem_singleton.2 rfl
     · exact .inr ⟨r, hr, b, c, e, e2⟩
def rzA (r : Rz) : Option Addr := match r.2 with
 | none => none
 | some (b, _) => some ⟨b, 0, none⟩
def rzC (r : Rz) : Nat := match r.2 with
 | none => 0
 | some (_, c) => c
theorem rzV_form {r : Rz} (h : r.2 = none → r.1 = []) : rzV r = .slice (rzA r) r.1.length (rzC r) := by
 obtain ⟨l, o⟩ := r
 rcases o with _ | ⟨b, c⟩
 · obtain rfl : l = [] := h rfl
   rfl
 · rfl
theorem lzS_form {R : List Rz} {o : Option (Nat × Nat)} (h : o = none → R = []) : ∃ A c, lzS R o = .slice A R.length c ∧ (0 < R.length → ∃ b, A = some ⟨b, 0, none⟩ ∧ o = some (b, c)) ∧ ∀ (w0 : World) (M : Ms) (w : World), Has w0 M (lzH R o) w → (∀ r ∈ R, r.2 = none → r.1 = []) → LisZ w A R.length (R.map Prod.fst) := by
 rcases o with _ | ⟨b, c⟩
 · rw [h rfl]
   exact ⟨none, 0, rfl, fun h => absurd h (Nat.lt_irrefl _), fun w0 M w _ _ => ⟨rfl, [], RdS.nil _ _ _, rfl, fun r hr => (by cases hr)⟩⟩
 · refine ⟨some ⟨b, 0, none⟩, c, rfl, fun _ => ⟨b, rfl, rfl⟩, fun w0 M w hw hr => ⟨by simp, R.map fun r => (r.1, rzA r, rzC r), ?_, by rw [List.map_map]; rfl, fun q hq => ?_⟩⟩
   · have hb := (hw.blk (b, R.map rzV, some (31, 1, c)) (List.mem_cons_self ..)).2
     have e : (R.map fun r => (r.1, rzA r, rzC r)).map (fun r => [Value.slice r.2.1 r.1.length r.2.2]) = R.map fun r => [rzV r] := by
       rw [List.map_map]
       refine List.map_congr_left fun r hm => ?_
       rw [rzV_form (hr r hm)]
       rfl
     rw [e]
     have e2 : (R.map fun r => [rzV r]).flatten = R.map rzV := by
       clear hb e h hr hw
       induction R with
       | nil => rfl
       | cons a R ih => simp only [List.map_cons, List.flatten_cons, ih]; rfl
     exact Blk.rows (g := some (31, 1, c)) (by rw [e2]; exact hb) (by simp) (by simp only [List.mem_map]; rintro r ⟨x, _, rfl⟩; rfl)
   · obtain ⟨r, hm, rfl⟩ := List.mem_map.1 hq
     simp only
     cases ho : r.2 with
     | none =>
       rw [hr r hm ho]
       exact RdS.nil _ _ _
     | some bc =>
       obtain ⟨b', c'⟩ := bc
       have hb := (hw.blk (b', (cI r.1).map iv, some (3, 1, c')) (List.mem_cons_of_mem _ (mem_rzB [] (.inr ⟨r, hm, b', c', ho, rfl⟩)))).2
       rw [show rzA r = some ⟨b', 0, none⟩ by unfold rzA; rw [ho]]
       exact Blk.rows (g := some (3, 1, c')) (by rw [in_flat]; exact hb) (by simp [cI]) in_rows_len
theorem lisz_read {w : World} {A : Option Addr} {n : Nat} {L : List (List Nat)} (h : LisZ w A n L) {i : Nat} (hi : i < n) :
   ∃ b o l A' c', A = some ⟨b, o, none⟩ ∧ L[i]? = some l ∧ w.cell? ⟨b, o + i * 1, none⟩ = some (.slice A' l.length c') ∧ RdS w 1 A' l.length ((cI l).map inCells) := by
 obtain ⟨h0, R, h1, h2, h3⟩ := h
 obtain ⟨b, o, cs, hA, hb, hx, _, hc⟩ := h1.row hi
 simp only [List.getElem?_map, Option.map_eq_some_iff] at hx
 obtain ⟨r, hx, rfl⟩ := hx
 exact ⟨b, o, r.1, r.2.1, r.2.2, hA, by rw [← h2, List.getElem?_map, hx]; rfl, hc 0 _ rfl, h3 r (List.mem_of_getElem? hx)⟩
theorem sameListsZ_calls (A B : Option Addr) (n c c' : Nat) (L : List (List Nat)) (w : World) (hA : LisZ w A n L) (hB : LisZ w B n L) (hn : n ≤ 1000000) (hL : ∀ x ∈ L, x.length ≤ 1000000) : Calls Tryz.prog 33 #[.slice A n c, .slice B n c'] w fun e w' => e = .returned (.bool true) ∧ Ext w w' := by
 refine enterQ (c := cx w 27) Tryz.func33 rfl rfl rfl rfl ?_
 ((all_goals refine gqT0 ?_); (all_goals constructor); (any_goals exact trivial); all_goals intros)
 apply t_loopK (ι := Nat) [0, 1] (fun k => [(5, .int .i64 ((k : Nat) : Int))]) (fun _ => []) (fun k => k ≤ n) (fun k => n - k) (0)
 (repeat (first | exact KeepF.nil | (apply KeepF.cons; exact rfl) | apply KeepF.skip))
 (repeat (first | exact FrSub.nil | (apply FrSub.cons; exact rfl)))
 (repeat (first | exact HpSub.refl _ | (apply HpSub.consE; (repeat first | exact P0 | apply P1); exact rfl) | exact HpSub.nil))
 · exact Nat.zero_le _
 rintro k hk
 try simp only [List.cons_append, List.nil_append]
 by_cases hlt : k < n
 · obtain ⟨bA, oA, l, A1, c1, rfl, hl1, c0, hq⟩ := lisz_read hA hlt
   obtain ⟨bB, oB, l', A2, c2, rfl, hl2, d0, hq'⟩ := lisz_read hB hlt
   rw [hl1] at hl2
   obtain rfl := Option.some.inj hl2
   have hln := hL l (List.mem_of_getElem? hl1)
   ((all_goals refine gqT0 ?_); (all_goals constructor); (any_goals exact trivial); all_goals intros)
   all_goals (refine ⟨k + 1, by omega, by omega, ?_, ?_⟩ <;> (repeat' (first | exact FrSub.nil | (apply FrSub.cons; exact rfl) | exact HpSub.refl _)))
 · ((all_goals refine gqT0 ?_); (all_goals constructor); (any_goals exact trivial); all_goals intros)
   all_goals rfl
def SitV : Option Trp → Value → Hp → Prop
 | none, u, H => u = .tuple #[.slice none 0 0, .bool false] ∧ H = []
 | some p, u, H => ∃ b cap, u = .tuple #[.slice (some ⟨b, 0, none⟩) p.2.length cap, .bool true] ∧ H = [(b, (cI p.2).map iv, some (3, 1, cap))]
def LedV (e : Int) (p : Trp) (u : Value) (H : Hp) : Prop := ∃ b cap, u = .tuple #[.slice (some ⟨b, 0, none⟩) p.2.length cap, .int .i64 e] ∧ H = [(b, (cI p.2).map iv, some (3, 1, cap))]
theorem sites_calls (AM A : Option Addr) (m cM n cp : Nat) (L : List Lg) (w : World) (hr : RdS w 5 A n (L.map lgCells)) (hn : n ≤ 1000000) (hm : m ≤ 1000000) (hLk : ∀ z ∈ L, LegOk m z) (s : Int) (AR : Option Addr) (nR cR : Nat) (rs : List Int) (hR : RdS w 1 AR nR (rs.map inCells)) (hnR : nR ≤ 1000000) : Calls Tryz.prog 79 #[.agg #[.slice AM m cM, .slice A n cp], .int .i64 s, .slice AR nR cR] w fun e w' => ∃ u H', e = .returned u ∧ SitV (tripI m L s rs) u H' ∧ Has w ⟨[], []⟩ H' w' := by
 have hl : L.length = n := by simpa using hr.len
 have hlr : rs.length = nR := by simpa using hR.len
 by_cases hst : 0 ≤ s ∧ s ≤ (m : Int) - 1
 rotate_left
 · rw [show tripI m L s rs = none from if_neg hst]
   refine enterF (c := cx w 72) Tryz.func79 rfl rfl rfl rfl ?_
   ((all_goals refine gqT6 ?_); (all_goals constructor); (any_goals exact trivial); all_goals intros)
   all_goals exact ⟨_, ⟨rfl, rfl⟩, HpSub.nil⟩
 rw [show tripI m L s rs = tripF L s.toNat rs from if_pos hst]
 obtain ⟨s, rfl⟩ := Int.eq_ofNat_of_zero_le hst.1
 rw [Int.toNat_natCast]
 refine enterF (c := cx w 72) Tryz.func79 rfl rfl rfl rfl ?_
 ((all_goals refine gqT6 ?_); (all_goals constructor); (any_goals exact trivial); all_goals intros)
 rename_i b3 b8
 apply t_loopP (ι := Nat × Trp × Nat × Nat) [2, 3] (fun z => [(9, .int .i64 ((z.1 : Nat) : Int)), (8, .slice (some ⟨z.2.2.1, 0, none⟩) z.2.1.2.length z.2.2.2)]) (fun z => [(z.2.2.1, (cI z.2.1.2).map iv, some (3, 1, z.2.2.2)), (b3, [.slice AM m cM, .slice A n cp], some (25, 2, 1))]) (fun z => z.1 ≤ nR ∧ tripF L s (rs.take z.1) = some z.2.1) (fun z => nR - z.1) (0, ([], [s]), b8, 1)
 (repeat (first | exact KeepF.nil | (apply KeepF.cons; exact rfl) | apply KeepF.skip))
 (repeat (first | exact FrSub.nil | (apply FrSub.cons; exact rfl)))
 (try simp only [List.cons_append, List.nil_append])
 (repeat' (first | exact HpSub.refl _))
 · exact ⟨Nat.zero_le _, rfl⟩
 rintro ⟨k, ⟨g, S⟩, bS, cS⟩ ⟨hk, hp⟩
 simp only at hk hp
 try simp only [List.cons_append, List.nil_append]
 obtain ⟨hp1, hp2, hp3, hp4⟩ := trip_ti hLk (show s < m by omega) hp
 rw [List.length_take, Nat.min_eq_left (by omega)] at hp1 hp2
 simp only at hp1 hp2 hp3
 by_cases hlt : k < nR
 rotate_left
 · obtain rfl : k = nR := by omega
   rw [List.take_of_length_le (by omega)] at hp
   rw [hp]
   ((all_goals refine gqT0 ?_); (all_goals constructor); (any_goals exact trivial); all_goals intros)
   all_goals (refine ⟨_, ⟨bS, cS, rfl, rfl⟩, ?_⟩; (repeat' (first | exact HpSub.refl _ | (apply HpSub.consE; (repeat first | exact P0 | apply P1); first | exact rfl | exact cN_snoc _ _ | (simp [cI, iv]; done) | skip) | apply HpSub.skipX)))
 obtain ⟨bR, oR, r, rfl, _, hrk, e0⟩ := in_read hR hlt
 have hst' := tripF_take (L := L) (s := s) hrk
 rw [hp] at hst'
 simp only [stF] at hst'
 have hxl0 : ∃ x, S[k]? = some x ∧ S.getLastD 0 = x := by
   refine ⟨S.getLastD 0, ?_, rfl⟩
   rw [List.getLastD_eq_getLast?, List.getLast?_eq_getElem?, hp2, Nat.add_sub_cancel]
   rw [List.getElem?_eq_getElem (by omega)]
   rfl
 obtain ⟨x, hxl, hxe⟩ := hxl0
 have hxm := hp3 x (List.mem_of_getElem? hxl)
 rw [hxe] at hst'
 by_cases hrr : 0 ≤ r ∧ r ≤ (n : Int) - 1
 rotate_left
 · rw [if_neg (by omega)] at hst'
   rw [tripF_cut hst']
   ((all_goals refine gqT0 ?_); (all_goals constructor); (any_goals exact trivial); all_goals intros)
   all_goals exact ⟨_, ⟨rfl, rfl⟩, HpSub.nil⟩
 obtain ⟨t, rfl⟩ := Int.eq_ofNat_of_zero_le hrr.1
 obtain ⟨bA, oA, z, rfl, _, hz, c0, c1, c2, c3, c4⟩ := lg_read hr (show t < n by omega)
 obtain ⟨hz1, hz2, hz3, _⟩ := hLk z (List.mem_of_getElem? hz)
 rw [if_pos (by omega), Int.toNat_natCast, hz] at hst'
 simp only at hst'
 by_cases hx : (x : Int) = z.a ∨ (x : Int) = z.b
 rotate_left
 · rw [if_neg hx] at hst'
   rw [tripF_cut hst']
   ((all_goals refine gqT0 ?_); (all_goals constructor); (any_goals exact trivial); all_goals intros)
   all_goals exact ⟨_, ⟨rfl, rfl⟩, HpSub.nil⟩
 rw [if_pos hx] at hst'
 obtain ⟨y, hy⟩ : ∃ y : Nat, (z.a + z.b - (x : Int)) = y := Int.eq_ofNat_of_zero_le (by omega)
 rw [hy, Int.toNat_natCast] at hst'
 rcases hx with hx | hx
 all_goals (((all_goals refine gqT0 ?_); (all_goals constructor); (any_goals exact trivial); all_goals intros))
 all_goals (rename_i b11 b69 bN cN; refine ⟨(k + 1, (g ++ [(t, decide ((x : Int) = z.b))], S ++ [y]), bN, cN), ⟨by simp only; omega, hst'⟩, by simp only; omega, ?_, ?_⟩ <;> (try simp only [List.length_append, List.length_singleton]) <;> (repeat' (first | exact FrSub.nil | (apply FrSub.cons; exact rfl) | exact HpSub.refl _ | (apply HpSub.consE; (repeat first | exact P0 | apply P1); first | exact rfl | exact cN_snoc _ _ | (simp [cI, iv]; done) | skip) | apply HpSub.skipX)))
theorem led60_err (AM A : Option Addr) (m cM n cp : Nat) (L : List Lg) (w : World) (hr : RdS w 5 A n (L.map lgCells)) (hn : n ≤ 1000000) (hm : m ≤ 1000000) (v q1 q2 q3 q4 g0 g1 : Int) (AC : Option Addr) (nC cC : Nat) (C : List Wn) (hrc : CastR w AC nC C) (hs : ∀ z ∈ C, z.n ≤ 1000000) (s : Int) (AR : Option Addr) (nR cR : Nat) (rs : List Int) (hR : RdS w 1 AR nR (rs.map inCells)) (hnR : nR ≤ 1000000) (he : ledE m L v q1 q2 q3 q4 g0 g1 C s rs ≠ 0) : Calls Tryz.prog 60 #[.agg #[.slice AM m cM, .slice A n cp], .agg #[.int .i64 v, .int .i64 q1, .int .i64 q2, .int .i64 q3, .int .i64 q4, .int .i64 g0, .int .i64 g1], .slice AC nC cC, .int .i64 s, .slice AR nR cR] w fun e w' => e = .returned (.tuple #[.slice none 0 0, .int .i64 (ledE m L v q1 q2 q3 q4 g0 g1 C s rs)]) ∧ Ext w w' := by
 have HA := fun w1 (hx : Ext w w1) => asked_calls AM A m cM n cp L w1 (hr.ext hx) hn hm v q1 q2 q3 q4 g0 g1 AC nC cC C (hrc.ext hx) hs
 have hlr : rs.length = nR := by simpa using hR.len
 unfold ledE at he ⊢
 by_cases hE : askE m L v q1 q2 q3 q4 g0 g1 C = 0
 rotate_left
 · rw [if_neg hE]
   generalize askE m L v q1 q2 q3 q4 g0 g1 C = e0 at *
   refine enterQ (c := cx w 35) Tryz.func60 rfl rfl rfl rfl ?_
   ((all_goals refine gqT0 ?_); (all_goals constructor); (any_goals exact trivial); all_goals intros)
   all_goals rfl
 rw [if_pos hE] at he ⊢
 rw [hE] at HA
 have hLk : ∀ z ∈ L, LegOk m z := (chartB_iff.1 (askE_ok hE).1).2.2
 clear hE
 by_cases h20 : rs.length ≤ 20
 rotate_left
 · rw [if_neg h20]
   refine enterQ (c := cx w 35) Tryz.func60 rfl rfl rfl rfl ?_
   ((all_goals refine gqT0 ?_); (all_goals constructor); (any_goals exact trivial); all_goals intros)
   all_goals rfl
 rw [if_pos h20] at he ⊢
 have HS := fun w1 (hx : Ext w w1) => sites_calls AM A m cM n cp L w1 (hr.ext hx) hn hm hLk s AR nR cR rs (hR.ext hx) hnR
 cases hp : tripI m L s rs with
 | some p => rw [hp] at he; exact absurd rfl he
 | none =>
   rw [hp] at HS
   have HS2 : ∀ w1, Ext w w1 → Calls Tryz.prog 79 #[.agg #[.slice AM m cM, .slice A n cp], .int .i64 s, .slice AR nR cR] w1 fun e w' => e = .returned (.tuple #[.slice none 0 0, .bool false]) ∧ Ext w1 w' := fun w1 hx => (HS w1 hx).mono fun e w' ⟨u, H', h1, ⟨h2, h3⟩, h4⟩ => ⟨by rw [h1, h2], h4.ext.ext⟩
   simp only
   refine enterQ (c := cx w 35) Tryz.func60 rfl rfl rfl rfl ?_
   ((all_goals refine gqT0 ?_); (all_goals constructor); (any_goals exact trivial); all_goals intros)
   all_goals rfl
theorem led60_ok (AM A : Option Addr) (m cM n cp : Nat) (L : List Lg) (w : World) (hr : RdS w 5 A n (L.map lgCells)) (hn : n ≤ 1000000) (hm : m ≤ 1000000) (v q1 q2 q3 q4 g0 g1 : Int) (AC : Option Addr) (nC cC : Nat) (C : List Wn) (hrc : CastR w AC nC C) (hs : ∀ z ∈ C, z.n ≤ 1000000) (s : Int) (AR : Option Addr) (nR cR : Nat) (rs : List Int) (hR : RdS w 1 AR nR (rs.map inCells)) (hnR : nR ≤ 1000000) (hE : askE m L v q1 q2 q3 q4 g0 g1 C = 0) (h20 : rs.length ≤ 20) (p : Trp) (htr : tripI m L s rs = some p) : Calls Tryz.prog 60 #[.agg #[.slice AM m cM, .slice A n cp], .agg #[.int .i64 v, .int .i64 q1, .int .i64 q2, .int .i64 q3, .int .i64 q4, .int .i64 g0, .int .i64 g1], .slice AC nC cC, .int .i64 s, .slice AR nR cR] w fun e w' => ∃ u H', e = .returned u ∧ LedV 0 p u H' ∧ Has w ⟨[], []⟩ H' w' := by
 have HA := fun w1 (hx : Ext w w1) => asked_calls AM A m cM n cp L w1 (hr.ext hx) hn hm v q1 q2 q3 q4 g0 g1 AC nC cC C (hrc.ext hx) hs
 have hlr : rs.length = nR := by simpa using hR.len
 rw [hE] at HA
 have hLk : ∀ z ∈ L, LegOk m z := (chartB_iff.1 (askE_ok hE).1).2.2
 clear hE
 have HS := fun w1 (hx : Ext w w1) => sites_calls AM A m cM n cp L w1 (hr.ext hx) hn hm hLk s AR nR cR rs (hR.ext hx) hnR
 rw [htr] at HS
 refine enterF (c := cx w 35) Tryz.func60 rfl rfl rfl rfl ?_
 repeat' (first | ((with_reducible apply oq_id); first | ((with_reducible apply oq_neqF); exact rfl; exact rfl; omega) | ((with_reducible apply oq_gtrF); exact rfl; exact rfl; omega) | (apply oq_fn; exact rfl; first | exact trivial | (constructor <;> omega) | omega | skip) | ((with_reducible apply oq_loadAgg); exact rfl; exact rfl) | ((with_reducible apply oq_call (hc := Tryz.call70)); exact rfl; exact rfl; exact fun D w1 hw1 => HA w1 hw1.ext.ext)) | ((with_reducible apply tl_id); first | (with_reducible apply tl_nil) | ((with_reducible apply u_s); (iterate 3 exact rfl); (with_reducible apply os_callF (PV := SitV (some p)) (hc := Tryz.call79)); exact rfl; exact rfl; exact fun D w1 hw1 => HS w1 hw1.ext.ext; rintro _ _ ⟨bS, cS, rfl, rfl⟩; simp only [List.cons_append, List.nil_append]) | ((with_reducible apply u_q); (iterate 4 exact rfl)) | ((with_reducible apply u_s); (iterate 3 exact rfl))) | ((with_reducible apply os_id); first | ((with_reducible apply os_x); exact rfl)) | ((with_reducible apply ox_id); first | ((with_reducible apply ox_boxAgg); exact rfl; intro _)) | ((with_reducible apply rd_id); first | (apply Rd.own; (repeat first | exact P0 | apply P1); exact rfl; done)) | ((with_reducible apply t_id); first | (with_reducible apply t_seq) | (apply t_region; kernel_rfl) | ((with_reducible apply t_condF); exact rfl) | (with_reducible apply t_ret) | (with_reducible apply t_skip)) | with_reducible apply q_thenN | exact Rdn.zero | apply Rdn.succ | (with_reducible apply end_ret) | exact rvs_nil | (with_reducible apply rvs_cons) | ((with_reducible apply rv_tmp); exact rfl))
 all_goals (refine ⟨_, ⟨bS, cS, rfl, rfl⟩, ?_⟩; (repeat' (first | exact HpSub.refl _ | (apply HpSub.consE; (repeat first | exact P0 | apply P1); first | exact rfl | exact cN_snoc _ _ | (simp [cI, iv]; done) | skip) | apply HpSub.skipX)))
end Go.Proofs.YtcjkndjjbjoehaaGreat

