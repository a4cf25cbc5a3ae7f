/- CrewTells. -/
import Derived.Test.YtmlmgipngbndgaaTel
namespace Go.Proofs.Ytmlmgipngbndgaa
open Go.RowKit
attribute [local irreducible] OQ OS OX Rd T TL GX GL AL AI RV wpG SAny Calls
set_option maxRecDepth 100000
set_option maxHeartbeats 2000000
set_option linter.unusedVariables false
set_option linter.unusedSimpArgs false

theorem crewTells_T (o : Off) (A : Option Addr) (cf : Nat) (B : Option Addr) (cb : Nat) (w : World) (hA : RdS w 4 A o.fl.length (o.fl.map depCells)) (hB : RdS w 3 B o.bk.length (o.bk.map bkCells)) (hnA : A = none → o.fl.length = 0 ∧ cf = 0) (hnB : B = none → o.bk.length = 0 ∧ cb = 0) (hu : ∀ d ∈ o.fl, 0 ≤ d.state) (f i : Int) : Calls Try.prog 3 #[.agg ⟨offCells o A cf B cb⟩, .int .i64 f, .int .i64 i] w fun e w' => e = .returned (.bool true) ∧ Ext w w' := by
  have HG := fun w1 => great_calls o A cf B cb w1
  by_cases hg : 20 < o.fl.length ∨ 150 < o.bk.length
  · rw [decide_eq_true hg] at HG
    refine enterQ (c := cx w 137) Try.func3 rfl rfl rfl rfl ?_
    repeat' (first | ((with_reducible apply oq_id); first | (apply oq_fn; exact rfl; first | exact trivial | (refine ⟨?_, ?_⟩ <;> omega) | (refine ⟨?_, ?_, ?_⟩ <;> omega) | omega | skip) | ((with_reducible apply oq_loadAgg); exact rfl; exact rfl) | ((with_reducible apply oq_call (k := 19) (hc := Try.call19)); exact rfl; exact rfl; exact fun D w1 hw1 => HG w1)) | ((with_reducible apply tl_id); first | ((with_reducible apply tl_nil)) | ((with_reducible apply u_q); exact rfl; exact rfl; exact rfl; exact rfl) | ((with_reducible apply u_s); exact rfl; exact rfl; exact rfl)) | ((with_reducible apply os_id); first | ((with_reducible apply os_x); exact rfl)) | ((with_reducible apply ox_id); first | ((with_reducible apply ox_boxAgg); exact rfl; intro _)) | ((with_reducible apply rd_id); first | (apply Rd.own; (repeat (first | exact P0 | apply P1)); exact rfl; done)) | ((with_reducible apply t_id); first | ((with_reducible apply t_seq)) | (apply t_region; kernel_rfl) | ((with_reducible apply t_condT); exact rfl) | ((with_reducible apply t_ret))) | with_reducible apply q_thenN | with_reducible apply q_thenR | exact Rdn.zero | apply Rdn.succ | ((with_reducible apply end_ret)) | exact rvs_nil | ((with_reducible apply rvs_cons)) | ((with_reducible apply rv_tmp); exact rfl))
    all_goals rfl
  · rw [decide_eq_false hg] at HG
    have H20 := fun w1 (hx : Ext w w1) => counts_T o A cf B cb w1 (hA.ext hx) (hB.ext hx) hnA hnB hu (by omega) (by omega) f
    have H21 := fun w1 (hx : Ext w w1) => refCounts_calls o A cf B cb w1 (hA.ext hx) (hB.ext hx) hu (by omega) (by omega) f
    have H22 := fun w1 (hx : Ext w w1) => opurse_T o A cf B cb w1 (hA.ext hx) (hB.ext hx) hnA hnB hu (by omega) (by omega)
    have H23 := fun w1 (hx : Ext w w1) => refPurse_calls o A cf B cb w1 (hA.ext hx) (hB.ext hx) hu (by omega) (by omega)
    have H24 := fun w1 (hx : Ext w w1) => turn_T o A cf B cb w1 (hA.ext hx) (hB.ext hx) hnA hnB hu (by omega) (by omega) i
    have H25 := fun w1 (hx : Ext w w1) => refTurn_calls o A cf B cb w1 (hA.ext hx) (hB.ext hx) hu (by omega) (by omega) i
    obtain ⟨⟨a1, a2, a3, a4, a5⟩, hC⟩ : ∃ k, countsS o f = k := ⟨_, rfl⟩
    rw [hC] at H20 H21
    obtain ⟨⟨p1, p2, p3, p4, p5⟩, hP⟩ : ∃ k, purseS o = k := ⟨_, rfl⟩
    rw [hP] at H22 H23
    obtain ⟨⟨t1, t2⟩, hT⟩ : ∃ k, turnS o i = k := ⟨_, rfl⟩
    rw [hT] at H24 H25
    dsimp only at H20 H21 H22 H23 H24 H25
    refine enterQ (c := cx w 137) Try.func3 rfl rfl rfl rfl ?_
    repeat' (first | ((with_reducible apply oq_id); first | (apply oq_fn; exact rfl; first | exact trivial | (refine ⟨?_, ?_⟩ <;> omega) | (refine ⟨?_, ?_, ?_⟩ <;> omega) | omega | skip) | ((with_reducible apply oq_loadAgg); exact rfl; exact rfl) | ((with_reducible apply oq_call (k := 19) (hc := Try.call19)); exact rfl; exact rfl; exact fun D w1 hw1 => HG w1) | ((with_reducible apply oq_call (k := 20) (hc := Try.call20)); exact rfl; exact rfl; exact fun D w1 hw1 => H20 w1 hw1.ext.ext) | ((with_reducible apply oq_call (k := 21) (hc := Try.call21)); exact rfl; exact rfl; exact fun D w1 hw1 => H21 w1 hw1.ext.ext) | ((with_reducible apply oq_call (k := 22) (hc := Try.call22)); exact rfl; exact rfl; exact fun D w1 hw1 => H22 w1 hw1.ext.ext) | ((with_reducible apply oq_call (k := 23) (hc := Try.call23)); exact rfl; exact rfl; exact fun D w1 hw1 => H23 w1 hw1.ext.ext) | ((with_reducible apply oq_call (k := 24) (hc := Try.call24)); exact rfl; exact rfl; exact fun D w1 hw1 => H24 w1 hw1.ext.ext) | ((with_reducible apply oq_call (k := 25) (hc := Try.call25)); exact rfl; exact rfl; exact fun D w1 hw1 => H25 w1 hw1.ext.ext)) | ((with_reducible apply tl_id); first | ((with_reducible apply tl_nil)) | ((with_reducible apply u_q); exact rfl; exact rfl; exact rfl; exact rfl) | ((with_reducible apply u_s); exact rfl; exact rfl; exact rfl) | ((with_reducible apply u_splitD); exact rfl; exact rfl; all_goals first | (intro hp; try (exfalso; omega)) | skip)) | ((with_reducible apply os_id); first | ((with_reducible apply os_x); exact rfl)) | ((with_reducible apply ox_id); first | ((with_reducible apply ox_boxAgg); exact rfl; intro _)) | ((with_reducible apply rd_id); first | (apply Rd.own; (repeat (first | exact P0 | apply P1)); exact rfl; done)) | ((with_reducible apply t_id); first | ((with_reducible apply t_seq)) | (apply t_region; kernel_rfl) | ((with_reducible apply t_condF); exact rfl) | ((with_reducible apply t_ret)) | ((with_reducible apply t_skip))) | with_reducible apply q_thenN | exact Rdn.zero | apply Rdn.succ | ((with_reducible apply end_ret)) | exact rvs_nil | ((with_reducible apply rvs_cons)) | ((with_reducible apply rv_tmp); exact rfl))
    all_goals first | rfl | (simp; rfl)

end Go.Proofs.Ytmlmgipngbndgaa
