/- What the statement computes, walked. -/
import Derived.Test.YtmlmgipngbndgaaPkS
/- Limits of duty and rosters are the specification's. -/
namespace Go.Proofs.Ytmlmgipngbndgaa
open Go.RowKit
attribute [local irreducible] OQ OS OX Rd T TL GX GL AL AI RV wpG SAny Calls
set_option maxRecDepth 100000
set_option maxHeartbeats 2000000
set_option linter.unusedVariables false
set_option linter.unusedSimpArgs false

theorem hp_skipApp {G R X : Hp} (h : HpSub R X) : HpSub (G ++ R) X := by
  induction G with
  | nil => exact h
  | cons x G ih => exact HpSub.skipX ih
theorem hp_appC {A H G : Hp} (h : HpSub H G) : HpSub (A ++ H) (A ++ G) := by
  induction A with
  | nil => exact h
  | cons x A ih => obtain ⟨b, C, g⟩ := x; exact HpSub.cons P0 ih
theorem ti_rows {w0 : World} {M : Ms} {w : World} {T : List Ti} {x : Option (Nat × Nat)} (h : Has w0 M (clH 99 3 (tiB T) x) w) (hx : x = none → T.length = 0) : RdS w 3 (clA x) T.length (T.map tiCells) :=
  clH_rows (f := tiCells) (l := T) (x := x) h (fun _ => rfl) rfl hx

theorem crewTired_T (d : Du) (A : Option Addr) (n c : Nat) (l : List Sh) (w : World) (hr : RdS w 3 A n (l.map shCells)) (hnc : n ≤ c) : Calls Try.prog 7 #[.agg #[.int .i64 d.most, .int .i64 d.rest, .int .i64 d.win, .int .i64 d.sum], .slice A n c] w fun e w' => e = .returned (.bool true) ∧ Ext w w' := by
  have hl := hr.len
  simp only [List.length_map] at hl
  refine enterQ (c := cx w 54) Try.func7 rfl rfl rfl rfl ?_
  refine t_cut (ι := Nat) (fun b2 => [(1, .slice A n c), (2, .pointer (some ⟨b2, 0, none⟩))]) (fun b2 => [(b2, [.int .i64 d.most, .int .i64 d.rest, .int .i64 d.win, .int .i64 d.sum], some (74, 4, 1))]) (fun _ => True) ?_ ?_
  · repeat' (first | ((with_reducible apply oq_id); first | (apply oq_fn; exact rfl; first | exact trivial | (refine ⟨?_, ?_⟩ <;> omega) | (refine ⟨?_, ?_, ?_⟩ <;> omega) | omega | skip)) | ((with_reducible apply tl_id); first | ((with_reducible apply tl_nil)) | ((with_reducible apply u_q); exact rfl; exact rfl; exact rfl; exact rfl) | ((with_reducible apply u_s); exact rfl; exact rfl; exact rfl)) | ((with_reducible apply os_id); first | ((with_reducible apply os_x); exact rfl)) | ((with_reducible apply ox_id); first | ((with_reducible apply ox_boxAgg); exact rfl; intro _)) | ((with_reducible apply t_id); first | (apply t_region; kernel_rfl)))
    all_goals exact ⟨rfl, _, trivial, by (repeat (first | exact FrSub.nil | (apply FrSub.cons; exact rfl))), by (repeat (first | exact HpSub.refl _ | (apply HpSub.consE; (repeat (first | exact P0 | apply P1 | apply PA)); exact rfl) | exact HpSub.nil))⟩
  rintro b2 -
  have HG := fun w1 => great41_calls A n c w1
  by_cases hg : 50 < n
  · rw [decide_eq_true hg] at HG
    repeat' (first | ((with_reducible apply oq_id); first | (apply oq_fn; exact rfl; first | exact trivial | (refine ⟨?_, ?_⟩ <;> omega) | (refine ⟨?_, ?_, ?_⟩ <;> omega) | omega | skip) | ((with_reducible apply oq_call (k := 41) (hc := Try.call41)); exact rfl; exact rfl; exact fun D w1 hw1 => HG w1)) | ((with_reducible apply tl_id); first | ((with_reducible apply tl_nil)) | ((with_reducible apply u_q); exact rfl; exact rfl; exact rfl; exact rfl)) | ((with_reducible apply t_id); first | ((with_reducible apply t_seq)) | (apply t_region; kernel_rfl) | ((with_reducible apply t_condT); exact rfl) | ((with_reducible apply t_ret))) | with_reducible apply q_thenN | with_reducible apply q_thenR | ((with_reducible apply end_ret)) | exact rvs_nil | ((with_reducible apply rvs_cons)) | ((with_reducible apply rv_tmp); exact rfl))
    all_goals rfl
  rw [decide_eq_false hg] at HG
  refine t_cut (ι := Unit) (fun _ => [(1, .slice A n c), (2, .pointer (some ⟨b2, 0, none⟩))]) (fun _ => [(b2, [.int .i64 d.most, .int .i64 d.rest, .int .i64 d.win, .int .i64 d.sum], some (74, 4, 1))]) (fun _ => True) ?_ ?_
  · repeat' (first | ((with_reducible apply oq_id); first | (apply oq_fn; exact rfl; first | exact trivial | (refine ⟨?_, ?_⟩ <;> omega) | (refine ⟨?_, ?_, ?_⟩ <;> omega) | omega | skip) | ((with_reducible apply oq_call (k := 41) (hc := Try.call41)); exact rfl; exact rfl; exact fun D w1 hw1 => HG w1)) | ((with_reducible apply tl_id); first | ((with_reducible apply tl_nil)) | ((with_reducible apply u_q); exact rfl; exact rfl; exact rfl; exact rfl)) | ((with_reducible apply t_id); first | ((with_reducible apply t_seq)) | (apply t_region; kernel_rfl) | ((with_reducible apply t_condF); exact rfl) | ((with_reducible apply t_skip))) | with_reducible apply q_thenN)
    all_goals exact ⟨rfl, (), trivial, by (repeat (first | exact FrSub.nil | (apply FrSub.cons; exact rfl))), by (repeat (first | exact HpSub.refl _ | (apply HpSub.consE; (repeat (first | exact P0 | apply P1 | apply PA)); exact rfl) | exact HpSub.nil))⟩
  rintro ⟨⟩ -
  refine t_cut (ι := Nat × Nat) (fun z => [(1, .slice A n c), (2, .pointer (some ⟨b2, 0, none⟩)), (5, .slice (some ⟨z.1, 0, none⟩) n z.2)]) (fun z => [(z.1, shB l, some (101, 3, z.2)), (b2, [.int .i64 d.most, .int .i64 d.rest, .int .i64 d.win, .int .i64 d.sum], some (74, 4, 1))]) (fun _ => True) ?_ ?_
  · repeat' (first | ((with_reducible apply oq_id); first | (apply oq_fn; exact rfl; first | exact trivial | (refine ⟨?_, ?_⟩ <;> omega) | (refine ⟨?_, ?_, ?_⟩ <;> omega) | omega | skip)) | ((with_reducible apply tl_id); first | ((with_reducible apply tl_nil)) | ((with_reducible apply u_s); exact rfl; exact rfl; exact rfl; (with_reducible apply os_appendRows (hk := app_ok75) (rows := l.map shCells) (hr := fun D w1 hw1 => hr.ext hw1.ext.ext)); exact rfl; exact rfl; exact P0; exact sh_len l; exact rfl; exact sh_one l; exact Nat.le_refl _; omega; omega; intro b cap'; simp only [Nat.zero_add, List.nil_append]) | ((with_reducible apply u_q); exact rfl; exact rfl; exact rfl; exact rfl) | ((with_reducible apply u_s); exact rfl; exact rfl; exact rfl)) | ((with_reducible apply os_id); first | ((with_reducible apply os_x); exact rfl)) | ((with_reducible apply ox_id); first | ((with_reducible apply ox_buildSlice); exact rfl; exact rfl; exact rfl; exact rfl)) | ((with_reducible apply t_id); first | (apply t_region; kernel_rfl)) | ((with_reducible apply Norm.nil); exact rfl) | exact (rfl : (_ : Bool) = true) | (intro _; with_reducible apply tl_id))
    all_goals exact ⟨by trivial, (_, _), trivial, by (repeat (first | exact FrSub.nil | (apply FrSub.cons; exact rfl))), by (repeat (first | exact HpSub.refl _ | (apply HpSub.consE; (repeat (first | exact P0 | apply P1 | apply PA)); exact rfl) | exact HpSub.nil))⟩
  rintro ⟨g, cp⟩ -
  try dsimp only
  obtain ⟨E, hE⟩ : ∃ E, tiE d l = E := ⟨_, rfl⟩
  obtain ⟨T, hT⟩ : ∃ T, tiL d l = T := ⟨_, rfl⟩
  have hTl : T.length ≤ 1000000 := by
    rw [← hT]; unfold tiL
    split
    · have := tiTo_len d (srtS l) l.length
      unfold tiV
      omega
    · exact Nat.zero_le _
  refine t_cut (ι := Option (Nat × Nat)) (fun x1 => [(1, .slice A n c), (2, .pointer (some ⟨b2, 0, none⟩)), (5, .slice (some ⟨g, 0, none⟩) n cp), (6, .slice (clA x1) T.length (clC x1)), (7, .int .i64 E)]) (fun x1 => clH 99 3 (tiB T) x1 ++ [(g, shB l, some (101, 3, cp)), (b2, [.int .i64 d.most, .int .i64 d.rest, .int .i64 d.win, .int .i64 d.sum], some (74, 4, 1))]) (fun x1 => x1 = none → T.length = 0) ?_ ?_
  · repeat' (first | ((with_reducible apply oq_id); first | (apply oq_fn; exact rfl; first | exact trivial | (refine ⟨?_, ?_⟩ <;> omega) | (refine ⟨?_, ?_, ?_⟩ <;> omega) | omega | skip) | ((with_reducible apply oq_loadAgg); exact rfl; exact rfl)) | ((with_reducible apply tl_id); first | ((with_reducible apply tl_nil)) | ((with_reducible apply u_s); exact rfl; exact rfl; exact rfl; (with_reducible apply os_callF (PV := TiE E T) (k := 42) (hc := Try.call42)); exact rfl; exact rfl; exact fun D w1 hw1 => (by rw [← hE, ← hT]; exact tiredE_T d (some ⟨g, 0, none⟩) n cp l w1 (sh_own hl hw1 (by (repeat (first | exact P0 | apply P1 | apply PA)))) (fun h => by cases h) (by omega)); rintro v H' ⟨x, hx, rfl, rfl⟩; (try simp only [List.append_nil])) | ((with_reducible apply u_q); exact rfl; exact rfl; exact rfl; exact rfl)) | ((with_reducible apply rd_id); first | (apply Rd.own; (repeat (first | exact P0 | apply P1 | apply PA)); exact rfl; done)) | ((with_reducible apply t_id); first | (apply t_region; kernel_rfl)) | exact Rdn.zero | apply Rdn.succ)
    all_goals exact ⟨by trivial, x, hx, by (repeat (first | exact FrSub.nil | (apply FrSub.cons; exact rfl))), by (repeat (first | exact HpSub.refl _ | (apply HpSub.consE; (repeat (first | exact P0 | apply P1 | apply PA)); exact rfl) | apply hp_appC | apply HpSub.skipX | exact HpSub.nil))⟩
  rintro x1 hx1
  refine t_cut (ι := Option (Nat × Nat)) (fun x2 => [(1, .slice A n c), (2, .pointer (some ⟨b2, 0, none⟩)), (5, .slice (some ⟨g, 0, none⟩) n cp), (6, .slice (clA x1) T.length (clC x1)), (7, .int .i64 E), (8, .slice (clA x2) T.length (clC x2)), (9, .int .i64 E)]) (fun x2 => clH 99 3 (tiB T) x2 ++ (clH 99 3 (tiB T) x1 ++ [(g, shB l, some (101, 3, cp)), (b2, [.int .i64 d.most, .int .i64 d.rest, .int .i64 d.win, .int .i64 d.sum], some (74, 4, 1))])) (fun x2 => x2 = none → T.length = 0) ?_ ?_
  · repeat' (first | ((with_reducible apply oq_id); first | (apply oq_fn; exact rfl; first | exact trivial | (refine ⟨?_, ?_⟩ <;> omega) | (refine ⟨?_, ?_, ?_⟩ <;> omega) | omega | skip) | ((with_reducible apply oq_loadAgg); exact rfl; exact rfl)) | ((with_reducible apply tl_id); first | ((with_reducible apply tl_nil)) | ((with_reducible apply u_s); exact rfl; exact rfl; exact rfl; (with_reducible apply os_callF (PV := TiE E T) (k := 43) (hc := Try.call43)); exact rfl; exact rfl; exact fun D w1 hw1 => (by rw [← hE, ← hT]; exact refTiredE_T d A n c l w1 (hr.ext hw1.ext.ext) (by omega)); rintro v H' ⟨x, hx, rfl, rfl⟩; (try simp only [List.append_nil])) | ((with_reducible apply u_q); exact rfl; exact rfl; exact rfl; exact rfl)) | ((with_reducible apply rd_id); first | (apply Rd.own; (repeat (first | exact P0 | apply P1 | apply PA)); exact rfl; done)) | ((with_reducible apply t_id); first | (apply t_region; kernel_rfl)) | exact Rdn.zero | apply Rdn.succ)
    all_goals exact ⟨by trivial, x, hx, by (repeat (first | exact FrSub.nil | (apply FrSub.cons; exact rfl))), by (repeat (first | exact HpSub.refl _ | (apply HpSub.consE; (repeat (first | exact P0 | apply P1 | apply PA)); exact rfl) | apply hp_appC | apply HpSub.skipX | exact HpSub.nil))⟩
  rintro x2 hx2
  have HD := fun w1 => dutyR_calls d w1
  have HD' := fun w1 => refDuty_calls d w1
  have HR := fun w1 h => rosR_calls (some ⟨g, 0, none⟩) n cp l w1 h (fun h => by cases h) (by omega)
  have HR' := fun w1 h => refRos_calls A n c l w1 h (by omega)
  obtain ⟨p, hp⟩ : ∃ p, duE d = p := ⟨_, rfl⟩
  obtain ⟨q, hq⟩ : ∃ q, rosE l = q := ⟨_, rfl⟩
  rw [hp] at HD HD'
  rw [hq] at HR HR'
  repeat' (first | ((with_reducible apply oq_id); first | ((with_reducible apply oq_eqlT); exact rfl; exact rfl; exact rfl) | (apply oq_fn; exact rfl; first | exact trivial | (refine ⟨?_, ?_⟩ <;> omega) | (refine ⟨?_, ?_, ?_⟩ <;> omega) | omega | skip) | ((with_reducible apply oq_loadAgg); exact rfl; exact rfl) | ((with_reducible apply oq_call (k := 44) (hc := Try.call44)); exact rfl; exact rfl; exact fun D w1 hw1 => HD w1) | ((with_reducible apply oq_call (k := 45) (hc := Try.call45)); exact rfl; exact rfl; exact fun D w1 hw1 => HD' w1) | ((with_reducible apply oq_call (k := 46) (hc := Try.call46)); exact rfl; exact rfl; exact fun D w1 hw1 => HR w1 (sh_own hl hw1 (by (repeat (first | exact P0 | apply P1 | apply PA))))) | ((with_reducible apply oq_call (k := 47) (hc := Try.call47)); exact rfl; exact rfl; exact fun D w1 hw1 => HR' w1 (hr.ext hw1.ext.ext)) | ((with_reducible apply oq_call (k := 48) (hc := Try.call48)); exact rfl; exact rfl; exact fun D w1 hw1 => sameTi_calls (clA x1) (clA x2) T.length (clC x1) (clC x2) T w1 (ti_rows (hw1.sub (show HpSub _ (clH 99 3 (tiB T) x1) from (by (repeat (first | exact HpSub.refl _ | exact hp_left | (apply HpSub.skipX) | apply hp_skipApp))))) hx1) (ti_rows (hw1.sub (show HpSub _ (clH 99 3 (tiB T) x2) from (by (repeat (first | exact HpSub.refl _ | exact hp_left | (apply HpSub.skipX) | apply hp_skipApp))))) hx2) (by omega)) | ((with_reducible apply oq_call (k := 49) (hc := Try.call49)); exact rfl; exact rfl; exact fun D w1 hw1 => sameSh_calls (some ⟨g, 0, none⟩) A n cp c l w1 (sh_own hl hw1 (by (repeat (first | exact P0 | apply P1 | apply PA)))) (hr.ext hw1.ext.ext) (by omega))) | ((with_reducible apply gx_id); first | ((with_reducible apply v_nil)) | ((with_reducible apply v_q); exact rfl; exact rfl; exact rfl)) | ((with_reducible apply rd_id); first | (apply Rd.own; (repeat (first | exact P0 | apply P1 | apply PA)); exact rfl; done)) | ((with_reducible apply t_id); first | ((with_reducible apply t_seq)) | (apply t_drawn; kernel_rfl; decide +kernel; try simp only [List.append_eq, List.cons_append, List.nil_append]) | ((with_reducible apply t_ret))) | with_reducible apply q_thenN | exact Rdn.zero | apply Rdn.succ | ((with_reducible apply end_ret)) | exact rvs_nil | ((with_reducible apply rvs_cons)) | ((with_reducible apply rv_tmp); exact rfl))
  all_goals rfl

end Go.Proofs.Ytmlmgipngbndgaa
