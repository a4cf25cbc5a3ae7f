/- A part of the proof: rules for walks, and contracts of functions (22). -/
import Derived.Test.YtcjkndjjbjoehaaGreatX5S
import Derived.Test.YtcjkndjjbjoehaaGreatX5R
import Derived.Test.YtcjkndjjbjoehaaGreatX5M
import Derived.Test.YtcjkndjjbjoehaaGreatX5C
import Derived.Test.YtcjkndjjbjoehaaGreatX5D
import Derived.Test.YtcjkndjjbjoehaaGreatX5T
import Derived.Test.YtcjkndjjbjoehaaGreatX5U
import Derived.Test.YtcjkndjjbjoehaaGreatX5A
import Derived.Test.YtcjkndjjbjoehaaGreatChecked
import Derived.Test.YtcjkndjjbjoehaaGreatRows
import Derived.ProofKit
import Derived.Lib.SmallJoins
import Derived.Carry
set_option linter.unusedVariables false
set_option linter.unusedSimpArgs false
set_option maxRecDepth 100000
set_option maxHeartbeats 2000000
namespace Go.Proofs.YtcjkndjjbjoehaaGreat
theorem gqV1 {G A1 A2 A3 A4 A5 A6 A7 A8 A9 A10 A11 A12 A13 A14 A15 A16 : Prop} (p : GoP A1 A2 A3 A4 A5 A6 A7 A8 A9 A10 A11 A12 A13 A14 A15 A16) (h : GoL A1 → GoL A2 → GoL A3 → GoL A4 → GoL A5 → GoL A6 → GoL A7 → GoL A8 → GoL A9 → GoL A10 → GoL A11 → GoL A12 → GoL A13 → GoL A14 → GoL A15 → GoL A16 → GoM → G := by intro m1 m2 m3 m4 m5 m6 m7 m8 m9 m10 m11 m12 m13 m14 m15 m16 _; (repeat' (first | ((with_reducible apply oq_id); first | ((with_reducible apply oq_call (hc := Tryz.call15)); exact rfl; exact rfl; exact fun D w1 hw1 => HG w1 hw1.ext.ext) | ((with_reducible apply oq_call (hc := Tryz.call25)); exact rfl; exact rfl; exact fun D w1 hw1 => same25_calls _ _ _ _ _ _ rs w1 (in_rows1 hlr hw1 (by (repeat first | exact P0 | apply P1))) (hR.ext hw1.ext.ext) hnR hnR) | ((with_reducible apply oq_gtrT); exact rfl; exact rfl; omega) | ((with_reducible apply oq_lssF); exact rfl; exact rfl; omega) | ((with_reducible apply oq_lssT); exact rfl; exact rfl; omega) | (focus ((with_reducible apply oq_indexAddrN (i := i)); (iterate 4 exact rfl); omega)) | (focus ((with_reducible apply oq_indexAddrN (i := y)); (iterate 4 exact rfl); omega)) | (apply oq_fn; exact rfl; first | exact trivial | (constructor <;> omega) | omega | skip) | ((with_reducible apply oq_loadAgg); exact rfl; exact rfl) | ((with_reducible apply oq_load); exact rfl; exact rfl)) | ((with_reducible apply tl_id); first | (with_reducible apply tl_nil) | ((with_reducible apply u_q); (iterate 4 exact rfl)) | ((with_reducible apply u_s); (iterate 3 exact rfl)) | ((with_reducible apply u_s0); exact rfl; exact rfl)) | ((with_reducible apply os_id); first | ((with_reducible apply os_x); exact rfl) | ((with_reducible apply os_store); (iterate 4 exact rfl))) | ((with_reducible apply ox_id); first | ((with_reducible apply ox_boxAgg); exact rfl; intro _)) | ((with_reducible apply rd_id); first | (apply Rd.own; (repeat first | exact P0 | apply P1); exact rfl; done) | (apply rd_rz hri hrv; (repeat first | exact P0 | apply P1); done)) | ((with_reducible apply t_id); first | (with_reducible apply t_seq) | (apply t_region; kernel_rfl) | ((with_reducible apply t_condT); exact rfl) | ((with_reducible apply t_condF); exact rfl) | (with_reducible apply t_ret) | (with_reducible apply t_exit) | (with_reducible apply t_skip) | (with_reducible apply t_block)) | with_reducible apply q_thenN | with_reducible apply q_thenR | exact Rdn.zero | apply Rdn.succ | with_reducible apply q_blockN | with_reducible apply q_thenE | ((with_reducible apply q_blockE); exact rfl) | (with_reducible apply end_ret) | exact rvs_nil | (with_reducible apply rvs_cons) | ((with_reducible apply rv_tmp); exact rfl) | (with_reducible apply P1) | exact hpk | exact Norm.self _ | omega)); (try focus (repeat (rename_i x; first | exact goD x m1.p | revert x))); (try focus (repeat (rename_i x; first | exact goD x m2.p | revert x))); (try focus (repeat (rename_i x; first | exact goD x m3.p | revert x))); (try focus (repeat (rename_i x; first | exact goD x m4.p | revert x))); (try focus (repeat (rename_i x; first | exact goD x m5.p | revert x))); (try focus (repeat (rename_i x; first | exact goD x m6.p | revert x))); (try focus (repeat (rename_i x; first | exact goD x m7.p | revert x))); (try focus (repeat (rename_i x; first | exact goD x m8.p | revert x))); (try focus (repeat (rename_i x; first | exact goD x m9.p | revert x))); (try focus (repeat (rename_i x; first | exact goD x m10.p | revert x))); (try focus (repeat (rename_i x; first | exact goD x m11.p | revert x))); (try focus (repeat (rename_i x; first | exact goD x m12.p | revert x))); (try focus (repeat (rename_i x; first | exact goD x m13.p | revert x))); (try focus (repeat (rename_i x; first | exact goD x m14.p | revert x))); (try focus (repeat (rename_i x; first | exact goD x m15.p | revert x))); (try focus (repeat (rename_i x; first | exact goD x m16.p | revert x)))) (e : GoTs A1 A2 A3 A4 A5 A6 A7 A8 A9 A10 A11 A12 A13 A14 A15 A16 := by constructor <;> first | (with_reducible exact GoT.t) | exact GoT.u) : G := p.run h
open Go.RowKit
attribute [local irreducible] OQ OS OX Rd T TL GX GL AL AI RV wpG SAny Calls
theorem same25_calls (A A' : Option Addr) (n c n' c' : Nat) (l : List Int) (w : World) (hr : RdS w 1 A n (l.map inCells)) (hr' : RdS w 1 A' n' (l.map inCells)) (hn : n ≤ 1000000) (hn' : n' ≤ 1000000) : Calls Tryz.prog 25 #[.slice A n c, .slice A' n' c'] w fun e w' => e = .returned (.bool true) ∧ Ext w w' := by
 refine enterQ (c := cx w 8) Tryz.func25 rfl rfl rfl rfl ?_
 ((all_goals refine goT1 ?_); (all_goals constructor); (any_goals exact trivial); all_goals intros)
 all_goals rfl
theorem checks_both (AM A : Option Addr) (m cM n cp : Nat) (T : List Bool) (L : List Lg) (w : World) (hT : RdS w 1 AM m (T.map blCells)) (hr : RdS w 5 A n (L.map lgCells)) (v q1 q2 q3 q4 g0 g1 : Int) (AC : Option Addr) (nC cC : Nat) (C : List Wn) (hrc : CastR w AC nC C) (hs : ∀ z ∈ C, z.n ≤ 1000000) (hm : m ≤ 1000000) (hn : n ≤ 1000000) (s : Int) (nR : Nat) (hnR : nR ≤ 1000000) (rs : List Int) (fu : Int) : ∃ (c d : Int × Int) (a : List (List Nat) × Int), (∀ x ∈ a.1, x.length ≤ 1000000) ∧ a.1.length ≤ 1000000 ∧ ∀ (AR : Option Addr) (cR : Nat) (w1 : World), RdS w1 1 AR nR (rs.map inCells) → Ext w w1 → (Calls Tryz.prog 27 #[.agg #[.slice AM m cM, .slice A n cp], .agg #[.int .i64 v, .int .i64 q1, .int .i64 q2, .int .i64 q3, .int .i64 q4, .int .i64 g0, .int .i64 g1], .slice AC nC cC, .int .i64 s, .slice AR nR cR, .int .i64 fu] w1 fun e w' => e = .returned (.tuple #[.int .i64 c.1, .int .i64 c.2]) ∧ Ext w1 w') ∧ (Calls Tryz.prog 28 #[.agg #[.slice AM m cM, .slice A n cp], .agg #[.int .i64 v, .int .i64 q1, .int .i64 q2, .int .i64 q3, .int .i64 q4, .int .i64 g0, .int .i64 g1], .slice AC nC cC, .int .i64 s, .slice AR nR cR, .int .i64 fu] w1 fun e w' => e = .returned (.tuple #[.int .i64 c.1, .int .i64 c.2]) ∧ Ext w1 w') ∧ (Calls Tryz.prog 29 #[.agg #[.slice AM m cM, .slice A n cp], .agg #[.int .i64 v, .int .i64 q1, .int .i64 q2, .int .i64 q3, .int .i64 q4, .int .i64 g0, .int .i64 g1], .slice AC nC cC, .int .i64 s, .slice AR nR cR, .int .i64 fu] w1 fun e w' => ∃ u H', e = .returned u ∧ AltV a u H' ∧ Has w1 ⟨[], []⟩ H' w') ∧ (Calls Tryz.prog 30 #[.agg #[.slice AM m cM, .slice A n cp], .agg #[.int .i64 v, .int .i64 q1, .int .i64 q2, .int .i64 q3, .int .i64 q4, .int .i64 g0, .int .i64 g1], .slice AC nC cC, .int .i64 s, .slice AR nR cR, .int .i64 fu] w1 fun e w' => ∃ u H', e = .returned u ∧ AltV a u H' ∧ Has w1 ⟨[], []⟩ H' w') ∧ (Calls Tryz.prog 31 #[.agg #[.slice AM m cM, .slice A n cp], .agg #[.int .i64 v, .int .i64 q1, .int .i64 q2, .int .i64 q3, .int .i64 q4, .int .i64 g0, .int .i64 g1], .slice AC nC cC, .int .i64 s, .slice AR nR cR] w1 fun e w' => e = .returned (.tuple #[.int .i64 d.1, .int .i64 d.2]) ∧ Ext w1 w') ∧ (Calls Tryz.prog 32 #[.agg #[.slice AM m cM, .slice A n cp], .agg #[.int .i64 v, .int .i64 q1, .int .i64 q2, .int .i64 q3, .int .i64 q4, .int .i64 g0, .int .i64 g1], .slice AC nC cC, .int .i64 s, .slice AR nR cR] w1 fun e w' => e = .returned (.tuple #[.int .i64 d.1, .int .i64 d.2]) ∧ Ext w1 w') := by
 by_cases he : ledE m L v q1 q2 q3 q4 g0 g1 C s rs = 0
 · obtain ⟨hE, h20, p, htr⟩ := led_zero he
   obtain ⟨hch, hpk, hk0⟩ := askE_ok hE
   obtain ⟨hcl, hcw⟩ := castE_zero.1 hk0
   obtain ⟨hm1, hL40, hLk⟩ := chartB_iff.1 hch
   obtain ⟨hg1, hg2, hg3, hg4⟩ := trip_in hLk htr
   obtain ⟨_, _, _, _, _, kg⟩ := id hpk
   obtain ⟨g0, rfl⟩ := Int.eq_ofNat_of_zero_le kg.1
   obtain ⟨g1, rfl⟩ := Int.eq_ofNat_of_zero_le (show 0 ≤ g1 by omega)
   refine ⟨chkE m L T v q1 q2 q3 q4 g0 g1 C p fu, lstE m L T v q1 q2 q3 q4 g0 g1 C p, altE m L T v q1 q2 q3 q4 g0 g1 C p fu, ?_, ?_, fun AR cR w1 hR hx => ⟨check27_ok AM A m cM n cp L w1 (hr.ext hx) hn hm v q1 q2 q3 q4 g0 g1 AC nC cC C (hrc.ext hx) hs s AR nR cR rs hR hnR hE h20 p htr T (hT.ext hx) fu, refCheck_ok AM A m cM n cp L w1 (hr.ext hx) hn hm v q1 q2 q3 q4 g0 g1 AC nC cC C (hrc.ext hx) hs s AR nR cR rs hR hnR hE h20 p htr T (hT.ext hx) fu, alt29_ok AM A m cM n cp L w1 (hr.ext hx) hn hm v q1 q2 q3 q4 g0 g1 AC nC cC C (hrc.ext hx) hs s AR nR cR rs hR hnR hE h20 p htr T (hT.ext hx) fu, refAlt_ok AM A m cM n cp L w1 (hr.ext hx) hn hm v q1 q2 q3 q4 g0 g1 AC nC cC C (hrc.ext hx) hs s AR nR cR rs hR hnR hE h20 p htr T (hT.ext hx) fu, least31_ok AM A m cM n cp L w1 (hr.ext hx) hn hm v q1 q2 q3 q4 g0 g1 AC nC cC C (hrc.ext hx) hs s AR nR cR rs hR hnR hE h20 p htr T (hT.ext hx), refLeast_ok AM A m cM n cp L w1 (hr.ext hx) hn hm v q1 q2 q3 q4 g0 g1 AC nC cC C (hrc.ext hx) hs s AR nR cR rs hR hnR hE h20 p htr T (hT.ext hx)⟩⟩
   · unfold altE
     simp only
     split
     · intro x hx
       obtain ⟨s', _, rfl⟩ := List.mem_map.1 hx
       cases hxp : (plansF (arcs (legC v q1 q2 q3 g0 g1 C) L) m (fun s => T.getD s false) m).getD s' none with
       | none => exact Nat.zero_le _
       | some a =>
         have h12 := (need_bound hpk hcw hLk (by omega) hxp).2.2
         show a.2.length ≤ _
         omega
     · intro x hx; cases hx
   · unfold altE
     simp only
     split
     · rw [List.length_map]; omega
     · exact Nat.zero_le _
 · have hz : ∀ w1 e w', e = Ending.returned (.tuple #[.slice none 0 0, .int .i64 (ledE m L v q1 q2 q3 q4 g0 g1 C s rs)]) ∧ Ext w1 w' → ∃ u H', e = .returned u ∧ AltV (([] : List (List Nat)), ledE m L v q1 q2 q3 q4 g0 g1 C s rs) u H' ∧ Has w1 ⟨[], []⟩ H' w' := fun w1 e w' h => ⟨_, [], h.1, ⟨[], none, rfl, rfl, fun r hr => (by cases hr), fun _ => rfl, rfl⟩, (Has.start w1).grow h.2⟩
   refine ⟨(0, ledE m L v q1 q2 q3 q4 g0 g1 C s rs), (0, ledE m L v q1 q2 q3 q4 g0 g1 C s rs), ([], ledE m L v q1 q2 q3 q4 g0 g1 C s rs), fun x hx => (by cases hx), Nat.zero_le _, fun AR cR w1 hR hx => ⟨check27_err AM A m cM n cp L w1 (hr.ext hx) hn hm v q1 q2 q3 q4 g0 g1 AC nC cC C (hrc.ext hx) hs s AR nR cR rs hR hnR he fu, refCheck_err AM A m cM n cp L w1 (hr.ext hx) hn hm v q1 q2 q3 q4 g0 g1 AC nC cC C (hrc.ext hx) hs s AR nR cR rs hR hnR he fu, (alt29_err AM A m cM n cp L w1 (hr.ext hx) hn hm v q1 q2 q3 q4 g0 g1 AC nC cC C (hrc.ext hx) hs s AR nR cR rs hR hnR he fu).mono fun e w' h => hz w1 e w' h, (refAlt_err AM A m cM n cp L w1 (hr.ext hx) hn hm v q1 q2 q3 q4 g0 g1 AC nC cC C (hrc.ext hx) hs s AR nR cR rs hR hnR he fu).mono fun e w' h => hz w1 e w' h, least31_err AM A m cM n cp L w1 (hr.ext hx) hn hm v q1 q2 q3 q4 g0 g1 AC nC cC C (hrc.ext hx) hs s AR nR cR rs hR hnR he, refLeast_err AM A m cM n cp L w1 (hr.ext hx) hn hm v q1 q2 q3 q4 g0 g1 AC nC cC C (hrc.ext hx) hs s AR nR cR rs hR hnR he⟩⟩
def RowsIn (R : List Rz) (X : Hp) : Prop := ∀ r ∈ R, ∀ b c, r.2 = some (b, c) → ∃ K, (b, K, some (3, 1, c)) ∈ X ∧ K.length = r.1.length
def lzHd (R : List Rz) : Option (Nat × Nat) → Hp
 | none => []
 | some (b, cap) => [(b, R.map rzV, some (31, 1, cap))]
theorem lzH_split (R : List Rz) (o : Option (Nat × Nat)) (h : o = none → R = []) : ∃ X, lzH R o = lzHd R o ++ X ∧ RowsIn R X := by
 rcases o with _ | ⟨b, c⟩
 · rw [h rfl]
   exact ⟨[], rfl, fun r hr => (by cases hr)⟩
 · exact ⟨rzB R, rfl, fun r hr b' c' e => ⟨(cI r.1).map iv, mem_rzB [] (.inr ⟨r, hr, b', c', e, rfl⟩), by simp [cI]⟩⟩
theorem RowsIn.put {R : List Rz} {X X' : Hp} {b c : Nat} {K K' : List Value} (h : RowsIn R X) (hp : Pick X b K (some (3, 1, c)) X') (hl : K'.length = K.length) : RowsIn R ((b, K', some (3, 1, c)) :: X') := fun r hr b' c' e => by
 obtain ⟨K1, h1, h2⟩ := h r hr b' c' e
 rcases List.mem_cons.1 (hp.perm.mem_iff.1 h1) with h3 | h3
 · obtain ⟨rfl, h4⟩ := Prod.mk.inj h3
   obtain ⟨rfl, h5⟩ := Prod.mk.inj h4
   obtain ⟨h6, h7⟩ := Prod.mk.inj (Option.some.inj h5)
   obtain ⟨_, rfl⟩ := Prod.mk.inj h7
   exact ⟨K', List.mem_cons_self .., hl.trans h2⟩
 · exact ⟨K1, List.mem_cons_of_mem _ h3, h2⟩
theorem rd_rz {c : Cx} {H H' : Hp} {g k : Nat} {R : List Rz} {r : Rz} {v : Value} {tg : Tg} (h : R[k]? = some r) (e : rzV r = v) (p : Pick H g (R.map rzV) tg H') : Rd c H ⟨g, 0 + k * 1, none⟩ v :=
 Rd.own p (by rw [Nat.zero_add, Nat.mul_one, List.getElem?_map, h, ← e]; rfl)
theorem routeChecks_T (AM A : Option Addr) (m cM n cp : Nat) (T : List Bool) (L : List Lg) (w : World) (hT : RdS w 1 AM m (T.map blCells)) (hr : RdS w 5 A n (L.map lgCells)) (v q1 q2 q3 q4 g0 g1 : Int) (AC : Option Addr) (nC cC : Nat) (C : List Wn) (hrc : CastR w AC nC C) (s : Int) (AR : Option Addr) (nR cR : Nat) (rs : List Int) (hR : RdS w 1 AR nR (rs.map inCells)) (fu : Int) : Calls Tryz.prog 5 #[.agg #[.slice AM m cM, .slice A n cp], .agg #[.int .i64 v, .int .i64 q1, .int .i64 q2, .int .i64 q3, .int .i64 q4, .int .i64 g0, .int .i64 g1], .slice AC nC cC, .int .i64 s, .slice AR nR cR, .int .i64 fu] w fun e w' => e = .returned (.bool true) ∧ Ext w w' := by
 have hlr : rs.length = nR := by simpa using hR.len
 have HG := fun w1 (hx : Ext w w1) => great_calls AM A m cM n cp AC nC cC C w1 (hrc.ext hx)
 by_cases hS : Small m n C
 rotate_left
 · rw [decide_eq_false hS] at HG
   refine enterQ (c := cx w 149) Tryz.func5 rfl rfl rfl rfl ?_
   repeat' (first | ((with_reducible apply oq_id); first | (apply oq_fn; exact rfl; first | exact trivial | (constructor <;> omega) | omega | skip) | ((with_reducible apply oq_loadAgg); exact rfl; exact rfl) | ((with_reducible apply oq_call (hc := Tryz.call15)); exact rfl; exact rfl; exact fun D w1 hw1 => HG w1 hw1.ext.ext)) | ((with_reducible apply tl_id); first | (with_reducible apply tl_nil) | ((with_reducible apply u_q); (iterate 4 exact rfl)) | ((with_reducible apply u_s); (iterate 3 exact rfl)) | ((with_reducible apply u_skip); (iterate 3 exact rfl))) | ((with_reducible apply os_id); first | ((with_reducible apply os_x); exact rfl)) | ((with_reducible apply ox_id); first | ((with_reducible apply ox_boxAgg); exact rfl; intro _)) | ((with_reducible apply rd_id); first | (apply Rd.own; (repeat first | exact P0 | apply P1); exact rfl; done)) | ((with_reducible apply t_id); first | (with_reducible apply t_seq) | (apply t_region; kernel_rfl) | ((with_reducible apply t_condT); exact rfl) | (with_reducible apply t_ret)) | with_reducible apply q_thenN | with_reducible apply q_thenR | exact Rdn.zero | apply Rdn.succ | (with_reducible apply end_ret) | exact rvs_nil | (with_reducible apply rvs_cons) | ((with_reducible apply rv_tmp); exact rfl))
   all_goals rfl
 rw [decide_eq_true hS] at HG
 by_cases h30 : 30 < nR
 · refine enterQ (c := cx w 149) Tryz.func5 rfl rfl rfl rfl ?_
   ((all_goals refine gqV1 ?_); (all_goals constructor); (any_goals exact trivial); all_goals intros)
   all_goals rfl
 obtain ⟨hm, hn, hc8, hs24⟩ := hS
 have hs : ∀ z ∈ C, z.n ≤ 1000000 := fun z hz => by have := hs24 z hz; omega
 have hnR : nR ≤ 1000000 := by omega
 obtain ⟨c, d, a, ha1, ha2, hB⟩ := checks_both AM A m cM n cp T L w hT hr v q1 q2 q3 q4 g0 g1 AC nC cC C hrc hs (by omega) (by omega) s nR hnR rs fu
 obtain ⟨c1', c2'⟩ := c
 obtain ⟨d1', d2'⟩ := d
 simp only at hB
 have HSL := fun (R1 R2 : List Rz) (A1 A2 : Option Addr) (k1 k2 : Nat) (w1 : World) (h1 : R1.map Prod.fst = a.1) (h2 : R2.map Prod.fst = a.1) (l1 : LisZ w1 A1 R1.length (R1.map Prod.fst)) (l2 : LisZ w1 A2 R2.length (R2.map Prod.fst)) => (by
   have e1 : R1.length = a.1.length := by rw [← h1]; simp
   have e2 : R2.length = a.1.length := by rw [← h2]; simp
   rw [h1, e1] at l1
   rw [h2, e2] at l2
   rw [e1, e2]
   exact sameListsZ_calls A1 A2 a.1.length k1 k2 a.1 w1 l1 l2 ha2 ha1 : Calls Tryz.prog 33 #[.slice A1 R1.length k1, .slice A2 R2.length k2] w1 fun e w' => e = .returned (.bool true) ∧ Ext w1 w')
 refine enterQ (c := cx w 149) Tryz.func5 rfl rfl rfl rfl ?_
 repeat' (first | ((with_reducible apply oq_id); first | ((with_reducible apply oq_eqlT); exact rfl; exact rfl; omega) | ((with_reducible apply oq_gtrF); exact rfl; exact rfl; omega) | (apply oq_fn; exact rfl; first | exact trivial | (constructor <;> omega) | omega | skip) | ((with_reducible apply oq_loadAgg); exact rfl; exact rfl) | ((with_reducible apply oq_call (hc := Tryz.call15)); exact rfl; exact rfl; exact fun D w1 hw1 => HG w1 hw1.ext.ext) | ((with_reducible apply oq_call (hc := Tryz.call27)); exact rfl; exact rfl; exact fun D w1 hw1 => (hB _ _ w1 (by first | exact in_rows1 hlr hw1 (by (repeat first | exact P0 | apply P1)) | exact hR.ext hw1.ext.ext) hw1.ext.ext).1) | ((with_reducible apply oq_call (hc := Tryz.call28)); exact rfl; exact rfl; exact fun D w1 hw1 => (hB _ _ w1 (by first | exact in_rows1 hlr hw1 (by (repeat first | exact P0 | apply P1)) | exact hR.ext hw1.ext.ext) hw1.ext.ext).2.1) | ((with_reducible apply oq_call (hc := Tryz.call31)); exact rfl; exact rfl; exact fun D w1 hw1 => (hB _ _ w1 (by first | exact in_rows1 hlr hw1 (by (repeat first | exact P0 | apply P1)) | exact hR.ext hw1.ext.ext) hw1.ext.ext).2.2.2.2.1) | ((with_reducible apply oq_call (hc := Tryz.call32)); exact rfl; exact rfl; exact fun D w1 hw1 => (hB _ _ w1 (by first | exact in_rows1 hlr hw1 (by (repeat first | exact P0 | apply P1)) | exact hR.ext hw1.ext.ext) hw1.ext.ext).2.2.2.2.2) | ((with_reducible apply oq_call (hc := Tryz.call33)); exact rfl; exact rfl; exact fun D w1 hw1 => HSL R1 R2 A1 A2 _ _ w1 hp1 hq1 (hp6 _ _ w1 (hw1.sub (by (repeat apply HpSub.skipX); exact HpSub.appLeft)) hp2) (hq6 _ _ w1 (hw1.sub (by (repeat apply HpSub.skipX); exact HpSub.skipApp (HpSub.refl _))) hq2))) | ((with_reducible apply tl_id); first | (with_reducible apply tl_nil) | ((with_reducible apply u_s); (iterate 3 exact rfl); ((with_reducible apply (os_appendU (hk := app_ok31) (rows := rs.map inCells))); exact rfl; exact rfl; (focus ((repeat first | exact P0 | apply P1); done)); exact fun D w1 hw1 => hR.ext hw1.ext.ext; exact in_rows_len; exact rfl; exact in_rows_one; omega; omega; intro bO kO; rw [Nat.zero_add nR]; simp only [in_flat, List.nil_append])) | ((with_reducible apply u_s); (iterate 3 exact rfl); (with_reducible apply os_callS (PV := AltV a) (hc := Tryz.call29)); exact rfl; exact rfl; exact fun D w1 hw1 => (hB _ _ w1 (by first | exact in_rows1 hlr hw1 (by (repeat first | exact P0 | apply P1)) | exact hR.ext hw1.ext.ext) hw1.ext.ext).2.2.1; rintro _ _ ⟨R1, o1, rfl, hp1, hp2, hp3, rfl⟩; obtain ⟨A1, k1, hp4, hp5, hp6⟩ := lzS_form hp3; rw [hp4]; simp only [List.cons_append, List.nil_append]) | ((with_reducible apply u_s); (iterate 3 exact rfl); (with_reducible apply os_callS (PV := AltV a) (hc := Tryz.call30)); exact rfl; exact rfl; exact fun D w1 hw1 => (hB _ _ w1 (by first | exact in_rows1 hlr hw1 (by (repeat first | exact P0 | apply P1)) | exact hR.ext hw1.ext.ext) hw1.ext.ext).2.2.2.1; rintro _ _ ⟨R2, o2, rfl, hq1, hq2, hq3, rfl⟩; obtain ⟨A2, k2, hq4, hq5, hq6⟩ := lzS_form hq3; rw [hq4]; simp only [List.cons_append, List.nil_append]) | ((with_reducible apply u_q); (iterate 4 exact rfl)) | ((with_reducible apply u_s); (iterate 3 exact rfl))) | ((with_reducible apply os_id); first | ((with_reducible apply os_x); exact rfl)) | ((with_reducible apply ox_id); first | ((with_reducible apply ox_boxAgg); exact rfl; intro _) | ((with_reducible apply ox_buildSlice1); (iterate 6 exact rfl); intro _)) | ((with_reducible apply rd_id); first | (apply Rd.own; (repeat first | exact P0 | apply P1); exact rfl; done)) | ((with_reducible apply t_id); first | (with_reducible apply t_seq) | (apply t_region; kernel_rfl) | ((with_reducible apply t_condF); exact rfl) | (with_reducible apply t_skip) | (with_reducible apply t_block)) | with_reducible apply q_thenN | exact Rdn.zero | apply Rdn.succ)
 have hlen1 : R1.length = a.1.length := by rw [← hp1]; simp
 obtain ⟨X, hX, hXR⟩ := lzH_split R1 o1 hp3
 have hX0 := hX
 apply t_loopP (ι := Nat × Hp) [4, 13, 26, 127, 128] (fun z => [(129, .int .i64 ((z.1 : Nat) : Int))]) (fun z => (bO, rs.map iv, some (3, 1, kO)) :: (lzHd R1 o1 ++ z.2)) (fun z => z.1 ≤ R1.length ∧ RowsIn R1 z.2) (fun z => R1.length - z.1) (0, X)
 (repeat (first | exact KeepF.nil | (apply KeepF.cons; exact rfl) | apply KeepF.skip))
 (repeat (first | exact FrSub.nil | (apply FrSub.cons; exact rfl)))
 (try simp only [List.cons_append, List.nil_append])
 (first | exact hX0 | skip)
 · refine HpSub.consE (by (repeat first | exact P0 | apply P1)) rfl ?_
   (repeat apply HpSub.skipX)
   rw [← hX0]
   exact HpSub.appLeft
 · exact ⟨Nat.zero_le _, hXR⟩
 rintro ⟨i, X1⟩ ⟨hi, hX1⟩
 simp only at hi hX1
 try simp only [List.cons_append, List.nil_append]
 by_cases hlt : i < R1.length
 rotate_left
 · ((all_goals refine gqV1 ?_); (all_goals constructor); (any_goals exact trivial); all_goals intros)
   all_goals rfl
 obtain ⟨b1, rfl, rfl⟩ := hp5 (by omega)
 obtain ⟨r, hri⟩ : ∃ r, R1[i]? = some r := ⟨_, List.getElem?_eq_getElem hlt⟩
 have hrm := List.mem_of_getElem? hri
 have hrv := rzV_form (hp2 r hrm)
 have hrl : r.1.length ≤ 1000000 := ha1 _ (by rw [← hp1]; exact List.mem_map.2 ⟨r, hrm, rfl⟩)
 simp only [lzHd, List.cons_append, List.nil_append]
 ((all_goals refine gqV1 ?_); (all_goals constructor); (any_goals exact trivial); all_goals intros)
 apply t_loopP (ι := Nat × Hp) [4, 13, 26, 28, 127, 128, 129, 134] (fun z => [(135, .int .i64 ((z.1 : Nat) : Int))]) (fun z => (bO, rs.map iv, some (3, 1, kO)) :: (b1, R1.map rzV, some (31, 1, k1)) :: z.2) (fun z => z.1 ≤ r.1.length ∧ RowsIn R1 z.2) (fun z => r.1.length - z.1) (0, X1)
 (repeat (first | exact KeepF.nil | (apply KeepF.cons; exact rfl) | apply KeepF.skip))
 (repeat (first | exact FrSub.nil | (apply FrSub.cons; exact rfl)))
 (try simp only [List.cons_append, List.nil_append])
 (repeat' (first | exact HpSub.refl _))
 · exact ⟨Nat.zero_le _, hX1⟩
 rintro ⟨y, X2⟩ ⟨hy, hX2⟩
 simp only at hy hX2
 try simp only [List.cons_append, List.nil_append]
 by_cases hly : y < r.1.length
 rotate_left
 · ((all_goals refine gqV1 ?_); (all_goals constructor); (any_goals exact trivial); all_goals intros)
   all_goals (refine ⟨(i + 1, X2), ⟨by simp only; omega, hX2⟩, by simp only; omega, ?_, ?_⟩ <;> (try simp only [lzHd, List.cons_append, List.nil_append]) <;> (repeat' (first | exact FrSub.nil | (apply FrSub.cons; exact rfl) | exact HpSub.refl _)))
 obtain ⟨bx, kx, hro⟩ : ∃ b k, r.2 = some (b, k) := by
   cases h : r.2 with
   | none => rw [hp2 r hrm h] at hly; exact absurd hly (Nat.not_lt_zero _)
   | some x => exact ⟨x.1, x.2, rfl⟩
 obtain ⟨K, hKm, hKl⟩ := hX2 r hrm bx kx hro
 obtain ⟨X3, hpk⟩ := pick_of hKm
 have hput := hX2.put (K' := K.set (0 + y * 1) (.int .i64 (-7))) hpk (by simp)
 rw [show rzA r = some ⟨bx, 0, none⟩ by unfold rzA; rw [hro]]
 ((all_goals refine gqV1 ?_); (all_goals constructor); (any_goals exact trivial); all_goals intros)
 all_goals (refine ⟨(y + 1, (bx, K.set (0 + y * 1) (.int .i64 (-7)), some (3, 1, kx)) :: X3), ⟨by simp only; omega, hput⟩, by simp only; omega, ?_, ?_⟩ <;> (repeat' (first | exact FrSub.nil | (apply FrSub.cons; exact rfl) | exact HpSub.refl _ | (apply HpSub.consE; (repeat first | exact P0 | apply P1); first | exact rfl | skip))))
end Go.Proofs.YtcjkndjjbjoehaaGreat
namespace Go.Proofs.YtcjkndjjbjoehaaGreat
open Go.ChangeShapes Go.WideShapes Go.ChangeAt Go.RowKit
theorem Tryz.own : ownKnob Tryz.prog.godebug = none := by kernel_rfl
theorem Tryz.laidOut : laidOutB Tryz.prog = true := by kernel_rfl
section
variable {H : Type} {enc : TypeId × Value → H} {P : Program}
theorem trodAll_ext (hl : laidOutB P = true) {W W' : World} (hb : Ext W W') : ∀ {ts : List TypeId} {vs : List Value} {ds : List (DataW H)} {p : List MemPlace}, (ts.all fun t => P.readableRec t && decide (t < P.types.size)) = true →
   DataW.TrodAll enc P W 0 (fun _ => true) true ts vs ds p → (∀ x ∈ p, x.block < W.heap.size) → DataW.TrodAll enc P W' 0 (fun b => decide (b < W.heap.size)) true ts vs ds p
 | [], vs, ds, p, _, h, _ => by
   obtain ⟨rfl, rfl, rfl⟩ := trodAll_nil h
   exact trodAll_mk0
 | t :: ts, vs, ds, p, ht, h, hlt => by
   obtain ⟨v, vs', d, ds', p0, q0, rfl, rfl, rfl, h1, h2⟩ := trodAll_cons h
   simp only [List.all_cons, Bool.and_eq_true, decide_eq_true_eq] at ht
   exact ⟨p0, q0, Below.trod hl ht.1.1 ht.1.2 h1 hb (fun x hx => hlt x (List.mem_append_left _ hx)), trodAll_ext hl hb ht.2 h2 (fun x hx => hlt x (List.mem_append_right _ hx)), rfl⟩
end
end Go.Proofs.YtcjkndjjbjoehaaGreat

