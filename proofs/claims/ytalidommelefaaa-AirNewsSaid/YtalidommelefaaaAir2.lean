/- The law AirNews. -/
import Derived.Test.YtalidommelefaaaAir2h
namespace Go.Proofs.Ytalidommelefaaa
open Go.RowKit Go.Shelf
attribute [local irreducible] OQ OS OX Rd T TL GX GL AL AI RV wpG SAny Calls
set_option maxRecDepth 100000
set_option maxHeartbeats 2000000

theorem news_len (l : List News) : ∀ r ∈ l.map News.cells, r.length = 6 := by
  simp only [List.mem_map]; rintro r ⟨x, _, rfl⟩; rfl
theorem news_one (l : List News) : ∀ r ∈ l.map News.cells, ∀ u ∈ r, u.oneCell' = true := by
  simp only [List.mem_map]; rintro r ⟨x, _, rfl⟩ u hu
  simp only [News.cells, List.mem_cons, List.not_mem_nil, or_false] at hu
  rcases hu with rfl | rfl | rfl | rfl | rfl | rfl <;> rfl
theorem news_rows {w0 : World} {M : Ms} {H H' : Hp} {w : World} {g n : Nat} {l : List News} {tg : Tg} (hl : l.length = n) (h : Has w0 M H w) (q : Pick H g (l.map News.cells).flatten tg H') : RdS w 6 (some ⟨g, 0, none⟩) n (l.map News.cells) :=
  Blk.rows (h.blk _ q.mem).2 (by simpa using hl) (news_len l)


theorem airNews_T (p t v : Int) (A : Option Addr) (n c : Nat) (l : List News) (post kind at_ now : Int) (w : World) (hr : RdS w 6 A n (l.map News.cells)) :
    Calls Try.prog 3 #[.agg #[.int .i64 p, .int .i64 t, .int .i64 v], .slice A n c, .int .i64 post, .int .i64 kind, .int .i64 at_, .int .i64 now] w fun e w' => e = .returned (.bool true) ∧ Ext w w' := by
  have hlen := hr.len
  simp only [List.length_map] at hlen
  by_cases hbig : n ≤ 120
  · have hn : n ≤ 1000000 := by omega
    have H20 := fun g cp w1 h => airKnown_T p t v (some ⟨g, 0, none⟩) n cp l post kind at_ now w1 h hn
    have H21 := fun w1 hx => refKnown_calls p t v A n c l post kind at_ now w1 (hr.ext hx) hn
    have H22 := fun g cp w1 h => airConflict_T p t v (some ⟨g, 0, none⟩) n cp l post kind now w1 h hn
    have H23 := fun w1 hx => refConflict_calls p t v A n c l post kind now w1 (hr.ext hx) hn
    have H24 := fun g cp w1 h => checkNews_calls (some ⟨g, 0, none⟩) n cp l w1 h hn
    have H25 := fun w1 hx => refCheckNews_calls A n c l w1 (hr.ext hx) hn
    generalize knownS p t v l post kind at_ now = K at H20 H21
    generalize conflictS p t v l post kind now = Q at H22 H23
    generalize checkNews l = E at H24 H25
    refine enterQ (c := cx w 105) Try.func3 rfl rfl rfl rfl ?_
    repeat' (first
      | ((with_reducible apply oq_id); first
        | (apply oq_fn; exact rfl; first | exact trivial | (refine ⟨?_, ?_⟩ <;> omega) | (refine ⟨?_, ?_, ?_⟩ <;> omega) | omega | skip)
        | ((with_reducible apply oq_load); exact rfl; exact rfl)
        | ((with_reducible apply oq_loadAgg); exact rfl; exact rfl)
        | ((with_reducible apply oq_call (k := 20) (hc := Try.call20)); exact rfl; exact rfl; exact fun D w1 hw1 => H20 _ _ w1 (news_rows hlen hw1 (by (repeat (first | exact P0 | apply P1)))))
        | ((with_reducible apply oq_call (k := 21) (hc := Try.call21)); exact rfl; exact rfl; exact fun D w1 hw1 => H21 w1 hw1.ext.ext)
        | ((with_reducible apply oq_call (k := 22) (hc := Try.call22)); exact rfl; exact rfl; exact fun D w1 hw1 => H22 _ _ w1 (news_rows hlen hw1 (by (repeat (first | exact P0 | apply P1)))))
        | ((with_reducible apply oq_call (k := 23) (hc := Try.call23)); exact rfl; exact rfl; exact fun D w1 hw1 => H23 w1 hw1.ext.ext)
        | ((with_reducible apply oq_call (k := 24) (hc := Try.call24)); exact rfl; exact rfl; exact fun D w1 hw1 => H24 _ _ w1 (news_rows hlen hw1 (by (repeat (first | exact P0 | apply P1)))))
        | ((with_reducible apply oq_call (k := 25) (hc := Try.call25)); exact rfl; exact rfl; exact fun D w1 hw1 => H25 w1 hw1.ext.ext)
        | ((with_reducible apply oq_call (k := 26) (hc := Try.call26)); exact rfl; exact rfl; exact fun D w1 hw1 => sameNews_calls _ _ _ _ _ l w1 (news_rows hlen hw1 (by (repeat (first | exact P0 | apply P1)))) (hr.ext hw1.ext.ext) hn)
        | ((with_reducible apply oq_same26); exact rfl; exact rfl)
        | ((with_reducible apply oq_build); exact rfl; exact rfl; exact rfl)
        | ((with_reducible apply oq_buildA); exact rfl; exact rfl; exact rfl; exact rfl)
        | ((with_reducible apply oq_fieldAgg); exact rfl; exact rfl; exact rfl)
        | ((with_reducible apply oq_indexAgg); exact rfl; exact rfl; exact rfl; exact rfl))
      | ((with_reducible apply tl_id); first
        | ((with_reducible apply tl_nil))
        | ((with_reducible apply u_s); exact rfl; exact rfl; exact rfl; (with_reducible apply os_appendRows (hk := app_ok24) (rows := l.map News.cells) (hr := fun D w1 hw1 => hr.ext hw1.ext.ext)); exact rfl; exact rfl; exact P0; exact news_len l; exact rfl; exact news_one l; exact Nat.le_refl _; omega; omega; intro b cap'; simp only [Nat.zero_add, List.nil_append])
        | ((with_reducible apply u_q); exact rfl; exact rfl; exact rfl; exact rfl)
        | ((with_reducible apply u_s0); exact rfl; exact rfl)
        | ((with_reducible apply u_s); exact rfl; exact rfl; exact rfl)
        | ((with_reducible apply u_skip); exact rfl; exact rfl; exact rfl)
        | ((with_reducible apply u_splitD); exact rfl; exact rfl; all_goals first | (intro hp; try (exfalso; omega)) | skip)
        | ((with_reducible apply u_splitN); exact rfl; exact rfl; all_goals first | (intro hp; try (exfalso; omega)) | skip)
        | ((with_reducible apply u_split); exact rfl; exact rfl; all_goals first | intro hp | skip))
      | ((with_reducible apply gx_id); first
        | ((with_reducible apply v_nil))
        | ((with_reducible apply v_q); exact rfl; exact rfl; exact rfl)
        | ((with_reducible apply v_skip); exact rfl; exact rfl; exact rfl)
        | ((with_reducible apply v_splitD); exact rfl; exact rfl; all_goals first | (intro hp; try (exfalso; omega)) | skip)
        | ((with_reducible apply v_splitN); exact rfl; exact rfl; all_goals first | (intro hp; try (exfalso; omega)) | skip)
        | ((with_reducible apply v_split); exact rfl; exact rfl; all_goals first | intro hp | skip))
      | ((with_reducible apply os_id); first
        | ((with_reducible apply os_x); exact rfl)
        | ((with_reducible apply os_store); exact rfl; exact rfl; exact rfl; exact rfl)
        | ((with_reducible apply os_storeAgg); exact rfl; exact rfl; exact rfl; exact rfl; exact rfl))
      | ((with_reducible apply ox_id); first
        | ((with_reducible apply ox_alloc); exact rfl; intro _)
        | ((with_reducible apply ox_box); exact rfl; exact rfl; intro _)
        | ((with_reducible apply ox_boxAgg); exact rfl; intro _)
        | ((with_reducible apply ox_buildSlice1); exact rfl; exact rfl; exact rfl; exact rfl; exact rfl; exact rfl; intro _)
        | ((with_reducible apply ox_buildSlice); exact rfl; exact rfl; exact rfl; exact rfl))
      | ((with_reducible apply rd_id); first
        | (apply Rd.own; (repeat (first | exact P0 | apply P1)); exact rfl; done)
        | (apply Rd.old; (first | (with_reducible assumption) | exact c0 | exact c1 | exact c2 | exact c3 | exact c4 | exact c5 | exact c6 | exact c7 | exact c8 | exact d0 | exact d1 | exact d2 | exact d3 | exact d4 | exact d5); first | exact List.not_mem_nil | exact m0 | exact m1 | exact m2 | exact m3 | exact m4 | exact m5 | exact m6 | exact m7 | exact m8 | exact m9))
      | ((with_reducible apply t_id); first
        | ((with_reducible apply t_seq))
        | (apply t_region; kernel_rfl)
        | (apply t_drawn; kernel_rfl; decide +kernel)
        | ((with_reducible apply t_condT); exact rfl)
        | ((with_reducible apply t_condF); exact rfl)
        | ((with_reducible apply t_condD); exact rfl; all_goals first | (intro hp; try (exfalso; omega)) | skip)
        | ((with_reducible apply t_condN); exact rfl; all_goals first | (intro hp; try (exfalso; omega)) | skip)
        | ((with_reducible apply t_cond); exact rfl; all_goals first | intro hp | skip)
        | ((with_reducible apply t_ret))
        | ((with_reducible apply t_skip))
        | ((with_reducible apply t_exit))
        | ((with_reducible apply t_block)))
      | with_reducible apply q_thenN
      | with_reducible apply q_thenR
      | with_reducible apply q_blockR
      | with_reducible apply q_blockN
      | with_reducible apply q_thenE
      | ((with_reducible apply q_blockE); exact rfl)
      | ((with_reducible apply q_blockO); exact rfl)
      | exact P0
      | ((with_reducible apply P1))
      | exact Rdn.zero
      | apply Rdn.succ
      | ((with_reducible apply Norm.nil); exact rfl)
      | ((with_reducible apply Norm.cons); exact rfl)
      | ((with_reducible apply end_ret))
      | ((with_reducible apply end_normal))
      | exact rvs_nil
      | ((with_reducible apply rvs_cons))
      | ((with_reducible apply rv_tmp); exact rfl)
      | ((with_reducible apply rv_cell); exact rfl; exact rfl)
      | ((with_reducible apply rv_cellAgg); exact rfl; exact rfl)
      | exact Nat.le_of_ble_eq_true rfl
      | exact (rfl : (_ : Bool) = true)
      | omega
      | (intro _ _; with_reducible apply tl_id)
      | (intro _; with_reducible apply tl_id)
      | (intro _ _; with_reducible apply al_id)
      | (intro _; with_reducible apply al_id))
    all_goals rfl
  · refine enterQ (c := cx w 105) Try.func3 rfl rfl rfl rfl ?_
    repeat' (first
      | ((with_reducible apply oq_id); first
        | (apply oq_fn; exact rfl; first | exact trivial | (refine ⟨?_, ?_⟩ <;> omega) | (refine ⟨?_, ?_, ?_⟩ <;> omega) | omega | skip)
        | ((with_reducible apply oq_load); exact rfl; exact rfl)
        | ((with_reducible apply oq_loadAgg); exact rfl; exact rfl)
        | ((with_reducible apply oq_build); exact rfl; exact rfl; exact rfl)
        | ((with_reducible apply oq_buildA); exact rfl; exact rfl; exact rfl; exact rfl)
        | ((with_reducible apply oq_fieldAgg); exact rfl; exact rfl; exact rfl)
        | ((with_reducible apply oq_indexAgg); exact rfl; exact rfl; exact rfl; exact rfl))
      | ((with_reducible apply tl_id); first
        | ((with_reducible apply tl_nil))
        | ((with_reducible apply u_q); exact rfl; exact rfl; exact rfl; exact rfl)
        | ((with_reducible apply u_s0); exact rfl; exact rfl)
        | ((with_reducible apply u_s); exact rfl; exact rfl; exact rfl)
        | ((with_reducible apply u_skip); exact rfl; exact rfl; exact rfl)
        | ((with_reducible apply u_splitD); exact rfl; exact rfl; all_goals first | (intro hp; try (exfalso; omega)) | skip)
        | ((with_reducible apply u_splitN); exact rfl; exact rfl; all_goals first | (intro hp; try (exfalso; omega)) | skip)
        | ((with_reducible apply u_split); exact rfl; exact rfl; all_goals first | intro hp | skip))
      | ((with_reducible apply gx_id); first
        | ((with_reducible apply v_nil))
        | ((with_reducible apply v_q); exact rfl; exact rfl; exact rfl)
        | ((with_reducible apply v_skip); exact rfl; exact rfl; exact rfl)
        | ((with_reducible apply v_splitD); exact rfl; exact rfl; all_goals first | (intro hp; try (exfalso; omega)) | skip)
        | ((with_reducible apply v_splitN); exact rfl; exact rfl; all_goals first | (intro hp; try (exfalso; omega)) | skip)
        | ((with_reducible apply v_split); exact rfl; exact rfl; all_goals first | intro hp | skip))
      | ((with_reducible apply os_id); first
        | ((with_reducible apply os_x); exact rfl)
        | ((with_reducible apply os_store); exact rfl; exact rfl; exact rfl; exact rfl)
        | ((with_reducible apply os_storeAgg); exact rfl; exact rfl; exact rfl; exact rfl; exact rfl))
      | ((with_reducible apply ox_id); first
        | ((with_reducible apply ox_alloc); exact rfl; intro _)
        | ((with_reducible apply ox_box); exact rfl; exact rfl; intro _)
        | ((with_reducible apply ox_boxAgg); exact rfl; intro _)
        | ((with_reducible apply ox_buildSlice1); exact rfl; exact rfl; exact rfl; exact rfl; exact rfl; exact rfl; intro _)
        | ((with_reducible apply ox_buildSlice); exact rfl; exact rfl; exact rfl; exact rfl))
      | ((with_reducible apply rd_id); first
        | (apply Rd.own; (repeat (first | exact P0 | apply P1)); exact rfl; done)
        | (apply Rd.old; (first | (with_reducible assumption) | exact c0 | exact c1 | exact c2 | exact c3 | exact c4 | exact c5 | exact c6 | exact c7 | exact c8 | exact d0 | exact d1 | exact d2 | exact d3 | exact d4 | exact d5); first | exact List.not_mem_nil | exact m0 | exact m1 | exact m2 | exact m3 | exact m4 | exact m5 | exact m6 | exact m7 | exact m8 | exact m9))
      | ((with_reducible apply t_id); first
        | ((with_reducible apply t_seq))
        | (apply t_region; kernel_rfl)
        | (apply t_drawn; kernel_rfl; decide +kernel)
        | ((with_reducible apply t_condT); exact rfl)
        | ((with_reducible apply t_condF); exact rfl)
        | ((with_reducible apply t_condD); exact rfl; all_goals first | (intro hp; try (exfalso; omega)) | skip)
        | ((with_reducible apply t_condN); exact rfl; all_goals first | (intro hp; try (exfalso; omega)) | skip)
        | ((with_reducible apply t_cond); exact rfl; all_goals first | intro hp | skip)
        | ((with_reducible apply t_ret))
        | ((with_reducible apply t_skip))
        | ((with_reducible apply t_exit))
        | ((with_reducible apply t_block)))
      | with_reducible apply q_thenN
      | with_reducible apply q_thenR
      | with_reducible apply q_blockR
      | with_reducible apply q_blockN
      | with_reducible apply q_thenE
      | ((with_reducible apply q_blockE); exact rfl)
      | ((with_reducible apply q_blockO); exact rfl)
      | exact P0
      | ((with_reducible apply P1))
      | exact Rdn.zero
      | apply Rdn.succ
      | ((with_reducible apply Norm.nil); exact rfl)
      | ((with_reducible apply Norm.cons); exact rfl)
      | ((with_reducible apply end_ret))
      | ((with_reducible apply end_normal))
      | exact rvs_nil
      | ((with_reducible apply rvs_cons))
      | ((with_reducible apply rv_tmp); exact rfl)
      | ((with_reducible apply rv_cell); exact rfl; exact rfl)
      | ((with_reducible apply rv_cellAgg); exact rfl; exact rfl)
      | exact Nat.le_of_ble_eq_true rfl
      | exact (rfl : (_ : Bool) = true)
      | omega
      | (intro _ _; with_reducible apply tl_id)
      | (intro _; with_reducible apply tl_id)
      | (intro _ _; with_reducible apply al_id)
      | (intro _; with_reducible apply al_id))
    all_goals rfl

end Go.Proofs.Ytalidommelefaaa
