/- A part of the proof: rules for walks, and contracts of functions (7). -/
import Derived.Test.YtmlmgipngbndgaaX8F
import Derived.Test.YtmlmgipngbndgaaX8E
import Derived.Test.YtmlmgipngbndgaaX8C
import Derived.Test.YtmlmgipngbndgaaX8D
import Derived.Test.YtmlmgipngbndgaaX8B
import Derived.Test.YtmlmgipngbndgaaX8A
import Derived.Test.YtmlmgipngbndgaaChecked
import Derived.Test.YtmlmgipngbndgaaRows
import Derived.ProofKit
import Derived.Lib.SmallJoins
import Derived.Carry
set_option linter.unusedVariables false
set_option linter.unusedSimpArgs false
set_option maxRecDepth 100000
set_option maxHeartbeats 2000000
namespace Go.Proofs.Ytmlmgipngbndgaa
open Go.RowKit
attribute [local irreducible] OQ OS OX Rd T TL GX GL AL AI RV wpG SAny Calls
/-- Lists of numbers, as they may be read. -/
structure LisW (w : World) (A : Option Addr) (n : Nat) (L : List (List Int)) (R : List Row) : Prop where
  cells : RdS w 1 A n (R.map fun r => [rwV r])
  fsts : R.map Prod.fst = L
  row : ∀ r ∈ R, RdS w 1 (clA r.2) r.1.length (r.1.map inCells)
theorem LisW.ext {w w' : World} {A : Option Addr} {n : Nat} {L : List (List Int)} {R : List Row} (h : LisW w A n L R) (he : Ext w w') : LisW w' A n L R := ⟨h.cells.ext he, h.fsts, fun r hr => (h.row r hr).ext he⟩
theorem lisW_of {w0 : World} {M : Ms} {w : World} {H : Hp} {R : List Row} {o : Option (Nat × Nat)} {L : List (List Int)} (h : Has w0 M H w) (hs : HpSub H (lisH o R)) (hk : ∀ r ∈ R, LrOk r) (hL : R.map Prod.fst = L) (ho : o = none → R = []) : LisW w (clA o) R.length L R :=
  ⟨lis_rds h hs (fun e => by rw [ho e, List.length_nil]), hL, fun r hr => by
    obtain ⟨i, hi, rfl⟩ := List.getElem_of_mem hr
    have hne : o ≠ none := fun e => by have := ho e; rw [this] at hi; exact absurd hi (Nat.not_lt_zero _)
    exact lis_row (i := i) (xs := R[i].1) (ro := R[i].2) h hs hne (List.getElem?_eq_getElem hi) hk⟩
theorem lisW_nil {w0 : World} {M : Ms} {w : World} {H : Hp} (h : Has w0 M H w) : LisW w none 0 [] [] := lisW_of (o := none) (R := []) h HpSub.nil (fun r hr => by cases hr) rfl (fun _ => rfl)
theorem lis_read {w : World} {A : Option Addr} {n : Nat} {L : List (List Int)} {R : List Row} (h : LisW w A n L R) {i : Nat} (hi : i < n) :
    ∃ b o xs ro, A = some ⟨b, o, none⟩ ∧ R[i]? = some (xs, ro) ∧ L[i]? = some xs ∧ w.cell? ⟨b, o + i * 1, none⟩ = some (.slice (clA ro) xs.length (clC ro)) ∧ RdS w 1 (clA ro) xs.length (xs.map inCells) := by
  obtain ⟨b, o, cs, hA, hb, hx, _, hc⟩ := h.cells.row hi
  simp only [List.getElem?_map, Option.map_eq_some_iff] at hx
  obtain ⟨r, hx, rfl⟩ := hx
  refine ⟨b, o, r.1, r.2, hA, hx, by rw [← h.fsts, List.getElem?_map, hx]; rfl, ?_, h.row r (List.mem_of_getElem? hx)⟩
  exact hc 0 _ rfl
theorem sameLists_calls (A B : Option Addr) (n c c' : Nat) (L : List (List Int)) (R S : List Row) (w : World) (hA : LisW w A n L R) (hB : LisW w B n L S) (hn : n ≤ 1000000) (hL : ∀ x ∈ L, x.length ≤ 1000000) :
    Calls Try.prog 52 #[.slice A n c, .slice B n c'] w fun e w' => e = .returned (.bool true) ∧ Ext w w' := by
  refine enterQ (c := cx w 27) Try.func52 rfl rfl rfl rfl ?_
  repeat' (first | ((with_reducible apply oq_id); first | ((with_reducible apply oq_neqF); exact rfl; exact rfl; omega) | (apply oq_fn; exact rfl; try first | exact trivial | (and_intros <;> omega))) | ((with_reducible apply tl_id); first | (with_reducible apply tl_nil) | ((with_reducible apply u_q); (iterate 4 exact rfl))) | ((with_reducible apply t_id); first | (with_reducible apply t_seq) | (apply t_region; kernel_rfl) | ((with_reducible apply t_condF); exact rfl) | (with_reducible apply t_skip) | (with_reducible apply t_block)) | with_reducible apply q_thenN)
  apply t_loopK (GH := []) (ι := Nat) [0, 1] (fun i => [(5, .int .i64 (i : Nat))]) (fun _ => []) (fun i => i ≤ n) (fun i => n - i) (0)
  (repeat (first | exact KeepF.nil | (apply KeepF.cons; exact rfl) | apply KeepF.skip))
  (repeat (first | exact FrSub.nil | (apply FrSub.cons; exact rfl)))
  ((try simp only [List.append_nil]); (repeat (first | exact HpSub.refl _ | (apply HpSub.consE; (repeat (first | exact P0 | apply P1 | apply PA)); exact rfl) | apply hp_appC | apply HpSub.skipX | exact hp_left | apply hp_skipApp | exact HpSub.nil)))
  · exact Nat.zero_le _
  rintro i hi
  try simp only [List.cons_append, List.nil_append]
  by_cases hlt : i < n
  · obtain ⟨b, o, xs, ro, rfl, hRi, hxs, c0, hx⟩ := lis_read hA hlt
    obtain ⟨b', o', ys, so, rfl, hSi, hys, d0, hy⟩ := lis_read hB hlt
    obtain rfl : xs = ys := by rw [hxs] at hys; exact Option.some.inj hys
    have hxl := hL xs (List.mem_of_getElem? hxs)
    repeat' (first | ((with_reducible apply oq_id); first | ((with_reducible apply oq_addE (k := ((i + 1 : Nat) : Int))); exact rfl; exact rfl; omega) | (focus ((with_reducible apply oq_indexAddrN); (iterate 4 exact rfl); omega)) | ((with_reducible apply oq_lssT); exact rfl; exact rfl; omega) | (apply oq_fn; exact rfl; try first | exact trivial | (and_intros <;> omega)) | ((with_reducible apply oq_load); exact rfl; exact rfl) | ((with_reducible apply oq_call (k := 32) (hc := Try.call32)); exact rfl; exact rfl; exact fun D w1 hw1 => sameInts_calls (clA ro) (clA so) xs.length (clC ro) xs.length (clC so) xs xs true (by simp) w1 (hx.ext hw1.ext.ext) (hy.ext hw1.ext.ext) hxl hxl)) | ((with_reducible apply tl_id); first | (with_reducible apply tl_nil) | ((with_reducible apply u_q); (iterate 4 exact rfl))) | ((with_reducible apply gx_id); first | (with_reducible apply v_nil) | ((with_reducible apply v_q); (iterate 3 exact rfl))) | ((with_reducible apply rd_id); first | (apply Rd.old; (first | exact c0 | exact d0); exact List.not_mem_nil)) | ((with_reducible apply t_id); first | (with_reducible apply t_seq) | (apply t_region; kernel_rfl) | (apply t_drawn; kernel_rfl; decide +kernel; try simp only [List.append_eq, List.cons_append, List.nil_append]) | ((with_reducible apply t_condT); exact rfl) | ((with_reducible apply t_condF); exact rfl) | (with_reducible apply t_skip) | (with_reducible apply t_block)) | with_reducible apply q_thenN | with_reducible apply q_blockN)
    all_goals (refine ⟨i + 1, (by omega), (by omega), ?_, ?_⟩)
    all_goals first
      | ((repeat (first | exact FrSub.nil | (apply FrSub.cons; exact rfl))); done)
      | exact HpSub.refl _
  · repeat' (first | ((with_reducible apply oq_id); first | ((with_reducible apply oq_lssF); exact rfl; exact rfl; omega) | (apply oq_fn; exact rfl; try first | exact trivial | (and_intros <;> omega))) | ((with_reducible apply tl_id); first | (with_reducible apply tl_nil) | ((with_reducible apply u_q); (iterate 4 exact rfl))) | ((with_reducible apply t_id); first | (with_reducible apply t_seq) | (apply t_region; kernel_rfl) | ((with_reducible apply t_condF); exact rfl) | (with_reducible apply t_ret) | (with_reducible apply t_exit)) | with_reducible apply q_thenN | with_reducible apply q_thenE | ((with_reducible apply q_blockE); exact rfl) | (with_reducible apply end_ret) | exact rvs_nil | (with_reducible apply rvs_cons) | ((with_reducible apply rv_tmp); exact rfl))
    all_goals rfl
theorem asgV_err {E : Int} {L : List (List Int)} {v : Value} {H : Hp} (h : E ≠ 0) (hV : AsgV E L v H) : v = .tuple #[.slice none 0 0, .int .i64 E] ∧ H = [] := by
  rcases hV with ⟨_, h1, h2⟩ | ⟨h1, _⟩
  · exact ⟨h1, h2⟩
  · exact absurd h1 h
theorem asgV_ok {E : Int} {L : List (List Int)} {v : Value} {H : Hp} (h : E = 0) (hV : AsgV E L v H) : ∃ g R, ((∀ r ∈ R, LrOk r) ∧ R.map Prod.fst = L) ∧ v = .tuple #[.slice (some ⟨g, 0, none⟩) L.length L.length, .int .i64 0] ∧ H = outH g L.length R := by
  rcases hV with ⟨h1, _⟩ | ⟨_, g, R, a, b, c, e⟩
  · exact absurd h h1
  · exact ⟨g, R, ⟨a, b⟩, c, e⟩
theorem out_set {g m g' c' j : Nat} {u : Int} {xs : List Int} {R1 R2 : List Row} {X : Hp} : HpSub ((g', (xs.set j u).map iv, some (3, 1, c')) :: (g, R1.map rwV ++ rwV (xs, some (g', c')) :: R2.map rwV, some (41, 1, m)) :: (rwsH R1 ++ rwsH R2 ++ X)) (outH g m (R1 ++ (xs.set j u, some (g', c')) :: R2) ++ X) := by
  have e : rwV (xs, some (g', c')) = rwV (xs.set j u, some (g', c')) := by simp [rwV]
  rw [e]
  exact out_of g m R1 (xs.set j u, some (g', c')) R2 X
theorem row_split' {R : List Row} {i : Nat} {r : Row} (h : R[i]? = some r) : ∃ R1 R2, R = R1 ++ r :: R2 ∧ R1.length = i := by
  obtain ⟨hi, rfl⟩ := List.getElem?_eq_some_iff.1 h
  refine ⟨R.take i, R.drop (i + 1), ?_, by simp; omega⟩
  rw [← List.drop_eq_getElem_cons hi, List.take_append_drop]
theorem crewAssigns_T (d : Du) (A : Option Addr) (n c : Nat) (l : List Sh) (mem : Int) (AT : Option Addr) (m cT : Nat) (ts : List Tr) (w : World) (hr : RdS w 3 A n (l.map shCells)) (hrT : RdS w 3 AT m (ts.map trCells)) (hcT : m ≤ cT) : Calls Try.prog 8 #[.agg #[.int .i64 d.most, .int .i64 d.rest, .int .i64 d.win, .int .i64 d.sum], .slice A n c, .int .i64 mem, .slice AT m cT] w fun e w' => e = .returned (.bool true) ∧ Ext w w' := by
  have hl := hr.len
  simp only [List.length_map] at hl
  have hlT := hrT.len
  simp only [List.length_map] at hlT
  have HG := fun w1 => great41_calls A n c w1
  refine enterQ (c := cx w 78) Try.func8 rfl rfl rfl rfl ?_
  refine t_cut (ι := Nat) (fun z => [(1, .slice A n c), (2, .int .i64 mem), (3, .slice AT m cT), (4, .pointer (some ⟨z, 0, none⟩)), (8, .bool false)]) (fun z => [(z, [.int .i64 d.most, .int .i64 d.rest, .int .i64 d.win, .int .i64 d.sum], some (74, 4, 1))]) (fun _ => True) ?_ ?_
  · repeat' (first | ((with_reducible apply oq_id); first | (apply oq_fn; exact rfl; try first | exact trivial | (and_intros <;> omega))) | ((with_reducible apply tl_id); first | (with_reducible apply tl_nil) | ((with_reducible apply u_q); (iterate 4 exact rfl)) | ((with_reducible apply u_s); (iterate 3 exact rfl))) | ((with_reducible apply os_x); exact rfl) | ((with_reducible apply ox_boxAgg); exact rfl; intro _) | ((with_reducible apply t_id); first | (apply t_region; kernel_rfl)))
    all_goals exact ⟨rfl, _, trivial, by (repeat (first | exact FrSub.nil | (apply FrSub.cons; exact rfl))), by (repeat (first | exact HpSub.refl _ | (apply HpSub.consE; (repeat (first | exact P0 | apply P1 | apply PA)); exact rfl) | apply hp_appC | apply HpSub.skipX | exact hp_left | apply hp_skipApp | exact HpSub.nil))⟩
  rintro b4 -
  try dsimp only
  by_cases hg : 50 < n
  · rw [decide_eq_true hg] at HG
    repeat' (first | ((with_reducible apply oq_id); first | (apply oq_fn; exact rfl; try first | exact trivial | (and_intros <;> omega)) | ((with_reducible apply oq_call (k := 41) (hc := Try.call41)); exact rfl; exact rfl; exact fun D w1 hw1 => HG w1)) | ((with_reducible apply tl_id); first | (with_reducible apply tl_nil) | ((with_reducible apply u_q); (iterate 4 exact rfl)) | ((with_reducible apply u_skip); (iterate 3 exact rfl))) | ((with_reducible apply t_id); first | (with_reducible apply t_seq) | (apply t_region; kernel_rfl) | ((with_reducible apply t_condT); exact rfl) | (with_reducible apply t_ret)) | with_reducible apply q_thenN | with_reducible apply q_thenR | (with_reducible apply end_ret) | exact rvs_nil | (with_reducible apply rvs_cons) | ((with_reducible apply rv_tmp); exact rfl))
    all_goals rfl
  rw [decide_eq_false hg] at HG
  by_cases hg1 : 10 < m
  · repeat' (first | ((with_reducible apply oq_id); first | ((with_reducible apply oq_gtrT); exact rfl; exact rfl; omega) | (apply oq_fn; exact rfl; try first | exact trivial | (and_intros <;> omega)) | ((with_reducible apply oq_call (k := 41) (hc := Try.call41)); exact rfl; exact rfl; exact fun D w1 hw1 => HG w1)) | ((with_reducible apply tl_id); first | (with_reducible apply tl_nil) | ((with_reducible apply u_q); (iterate 4 exact rfl))) | ((with_reducible apply t_id); first | (with_reducible apply t_seq) | (apply t_region; kernel_rfl) | ((with_reducible apply t_condT); exact rfl) | (with_reducible apply t_ret)) | with_reducible apply q_thenN | with_reducible apply q_thenR | (with_reducible apply end_ret) | exact rvs_nil | (with_reducible apply rvs_cons) | ((with_reducible apply rv_tmp); exact rfl))
    all_goals rfl
  refine t_cut (ι := Unit) (fun _ => [(1, .slice A n c), (2, .int .i64 mem), (3, .slice AT m cT), (4, .pointer (some ⟨b4, 0, none⟩)), (8, .bool false)]) (fun _ => [(b4, [.int .i64 d.most, .int .i64 d.rest, .int .i64 d.win, .int .i64 d.sum], some (74, 4, 1))]) (fun _ => True) ?_ ?_
  · repeat' (first | ((with_reducible apply oq_id); first | ((with_reducible apply oq_gtrF); exact rfl; exact rfl; omega) | (apply oq_fn; exact rfl; try first | exact trivial | (and_intros <;> omega)) | ((with_reducible apply oq_call (k := 41) (hc := Try.call41)); exact rfl; exact rfl; exact fun D w1 hw1 => HG w1)) | ((with_reducible apply tl_id); first | (with_reducible apply tl_nil) | ((with_reducible apply u_q); (iterate 4 exact rfl))) | ((with_reducible apply t_id); first | (with_reducible apply t_seq) | (apply t_region; kernel_rfl) | ((with_reducible apply t_condF); exact rfl) | (with_reducible apply t_skip)) | with_reducible apply q_thenN)
    all_goals exact ⟨rfl, (), trivial, by (repeat (first | exact FrSub.nil | (apply FrSub.cons; exact rfl))), by (repeat (first | exact HpSub.refl _ | (apply HpSub.consE; (repeat (first | exact P0 | apply P1 | apply PA)); exact rfl) | apply hp_appC | apply HpSub.skipX | exact hp_left | apply hp_skipApp | exact HpSub.nil))⟩
  rintro ⟨⟩ -
  refine t_cut (ι := Nat × Nat) (fun z => [(1, .slice A n c), (2, .int .i64 mem), (3, .slice AT m cT), (4, .pointer (some ⟨b4, 0, none⟩)), (8, .bool false), (9, .slice (some ⟨z.1, 0, none⟩) n z.2)]) (fun z => [(z.1, shB l, some (101, 3, z.2)), (b4, [.int .i64 d.most, .int .i64 d.rest, .int .i64 d.win, .int .i64 d.sum], some (74, 4, 1))]) (fun _ => True) ?_ ?_
  · repeat' (first | ((with_reducible apply oq_id); first | (apply oq_fn; exact rfl; try first | exact trivial | (and_intros <;> omega))) | ((with_reducible apply tl_id); first | (with_reducible apply tl_nil) | ((with_reducible apply u_s); (iterate 3 exact rfl); (with_reducible apply os_appendRows (hk := app_ok75) (rows := l.map shCells) (hr := fun D w1 hw1 => hr.ext hw1.ext.ext)); exact rfl; exact rfl; (repeat (first | exact P0 | apply P1 | apply PA)); exact sh_len l; exact rfl; exact sh_one l; exact Nat.le_refl _; omega; omega; intro gN cN; (simp only [Nat.zero_add, List.nil_append])) | ((with_reducible apply u_q); (iterate 4 exact rfl)) | ((with_reducible apply u_s); (iterate 3 exact rfl))) | ((with_reducible apply os_x); exact rfl) | ((with_reducible apply ox_buildSlice); (iterate 4 exact rfl)) | ((with_reducible apply t_id); first | (apply t_region; kernel_rfl)) | ((with_reducible apply Norm.nil); exact rfl) | exact (rfl : (_ : Bool) = true) | (intro _; with_reducible apply tl_id))
    all_goals exact ⟨by trivial, (gN, cN), trivial, by (repeat (first | exact FrSub.nil | (apply FrSub.cons; exact rfl))), by (repeat (first | exact HpSub.refl _ | (apply HpSub.consE; (repeat (first | exact P0 | apply P1 | apply PA)); exact rfl) | apply hp_appC | apply HpSub.skipX | exact hp_left | apply hp_skipApp | exact HpSub.nil))⟩
  rintro ⟨gk, ck⟩ -
  try dsimp only
  obtain ⟨E, hE⟩ : ∃ E, asgE d l mem ts = E := ⟨_, rfl⟩
  obtain ⟨L, hL⟩ : ∃ L, asgL d l mem ts = L := ⟨_, rfl⟩
  by_cases h0 : E = 0
  rotate_left
  · refine t_cut (ι := Unit) (fun _ => [(1, .slice A n c), (2, .int .i64 mem), (3, .slice AT m cT), (4, .pointer (some ⟨b4, 0, none⟩)), (8, .bool false), (9, .slice (some ⟨gk, 0, none⟩) n ck), (10, .slice none 0 0), (11, .int .i64 E)]) (fun _ => [(gk, shB l, some (101, 3, ck)), (b4, [.int .i64 d.most, .int .i64 d.rest, .int .i64 d.win, .int .i64 d.sum], some (74, 4, 1))]) (fun _ => True) ?_ ?_
    · repeat' (first | ((with_reducible apply oq_id); first | (apply oq_fn; exact rfl; try first | exact trivial | (and_intros <;> omega)) | ((with_reducible apply oq_loadAgg); exact rfl; exact rfl)) | ((with_reducible apply tl_id); first | (with_reducible apply tl_nil) | ((with_reducible apply u_s); (iterate 3 exact rfl); (with_reducible apply os_callF (PV := AsgV E L) (k := 50) (hc := Try.call50)); exact rfl; exact rfl; exact fun D w1 hw1 => (by rw [← hE, ← hL]; exact assign_T d (some ⟨gk, 0, none⟩) n ck l mem AT m cT ts w1 (Blk.rows (rows := l.map shCells) (hw1.blk _ (Pick.mem (by (repeat (first | exact P0 | apply P1 | apply PA))))).2 (by simp; exact hl) (sh_len _)) (fun h => by cases h) (hrT.ext hw1.ext.ext) (by omega) (by omega)); rintro v H' hV; obtain ⟨rfl, rfl⟩ := asgV_err h0 hV; (try simp only [List.nil_append])) | ((with_reducible apply u_q); (iterate 4 exact rfl))) | ((with_reducible apply rd_id); first | (apply Rd.own; (repeat (first | exact P0 | apply P1 | apply PA)); exact rfl; done)) | ((with_reducible apply t_id); first | (apply t_region; kernel_rfl)) | exact Rdn.zero | apply Rdn.succ)
      all_goals exact ⟨by trivial, (), trivial, by (repeat (first | exact FrSub.nil | (apply FrSub.cons; exact rfl))), by (repeat (first | exact HpSub.refl _ | (apply HpSub.consE; (repeat (first | exact P0 | apply P1 | apply PA)); exact rfl) | apply hp_appC | apply HpSub.skipX | exact hp_left | apply hp_skipApp | exact HpSub.nil))⟩
    rintro ⟨⟩ -
    refine t_cut (ι := Unit) (fun _ => [(1, .slice A n c), (2, .int .i64 mem), (3, .slice AT m cT), (4, .pointer (some ⟨b4, 0, none⟩)), (8, .bool false), (9, .slice (some ⟨gk, 0, none⟩) n ck), (10, .slice none 0 0), (11, .int .i64 E), (12, .slice none 0 0), (13, .int .i64 E)]) (fun _ => [(gk, shB l, some (101, 3, ck)), (b4, [.int .i64 d.most, .int .i64 d.rest, .int .i64 d.win, .int .i64 d.sum], some (74, 4, 1))]) (fun _ => True) ?_ ?_
    · repeat' (first | ((with_reducible apply oq_id); first | (apply oq_fn; exact rfl; try first | exact trivial | (and_intros <;> omega)) | ((with_reducible apply oq_loadAgg); exact rfl; exact rfl)) | ((with_reducible apply tl_id); first | (with_reducible apply tl_nil) | ((with_reducible apply u_s); (iterate 3 exact rfl); (with_reducible apply os_callF (PV := RasV E L) (k := 51) (hc := Try.call51)); exact rfl; exact rfl; exact fun D w1 hw1 => (by rw [← hE, ← hL]; exact refAssign_T d A n c l mem AT m cT ts w1 (hr.ext hw1.ext.ext) (hrT.ext hw1.ext.ext) (by omega) (by omega) hcT); rintro v H' hV; obtain ⟨rfl, rfl⟩ := rasV_err h0 hV; (try simp only [List.nil_append])) | ((with_reducible apply u_q); (iterate 4 exact rfl))) | ((with_reducible apply rd_id); first | (apply Rd.own; (repeat (first | exact P0 | apply P1 | apply PA)); exact rfl; done)) | ((with_reducible apply t_id); first | (apply t_region; kernel_rfl)) | exact Rdn.zero | apply Rdn.succ)
      all_goals exact ⟨by trivial, (), trivial, by (repeat (first | exact FrSub.nil | (apply FrSub.cons; exact rfl))), by (repeat (first | exact HpSub.refl _ | (apply HpSub.consE; (repeat (first | exact P0 | apply P1 | apply PA)); exact rfl) | apply hp_appC | apply HpSub.skipX | exact hp_left | apply hp_skipApp | exact HpSub.nil))⟩
    rintro ⟨⟩ -
    refine t_cut (ι := Unit) (fun _ => [(1, .slice A n c), (2, .int .i64 mem), (3, .slice AT m cT), (4, .pointer (some ⟨b4, 0, none⟩)), (8, .bool false), (9, .slice (some ⟨gk, 0, none⟩) n ck), (10, .slice none 0 0), (14, .bool true)]) (fun _ => [(gk, shB l, some (101, 3, ck)), (b4, [.int .i64 d.most, .int .i64 d.rest, .int .i64 d.win, .int .i64 d.sum], some (74, 4, 1))]) (fun _ => True) ?_ ?_
    · repeat' (first | ((with_reducible apply oq_id); first | ((with_reducible apply oq_eqlT); exact rfl; exact rfl; omega) | (apply oq_fn; exact rfl; try first | exact trivial | (and_intros <;> omega)) | ((with_reducible apply oq_call (k := 52) (hc := Try.call52)); exact rfl; exact rfl; exact fun D w1 hw1 => sameLists_calls none none 0 0 0 [] [] [] w1 (lisW_nil hw1) (lisW_nil hw1) (by omega) (fun x h => by cases h))) | ((with_reducible apply tl_id); first | (with_reducible apply tl_nil) | ((with_reducible apply u_q); (iterate 4 exact rfl))) | ((with_reducible apply t_id); first | (apply t_region; kernel_rfl)))
      all_goals exact ⟨rfl, (), trivial, by (repeat (first | exact FrSub.nil | (apply FrSub.cons; exact rfl))), by (repeat (first | exact HpSub.refl _ | (apply HpSub.consE; (repeat (first | exact P0 | apply P1 | apply PA)); exact rfl) | apply hp_appC | apply HpSub.skipX | exact hp_left | apply hp_skipApp | exact HpSub.nil))⟩
    rintro ⟨⟩ -
    repeat' (first | ((with_reducible apply oq_id); first | (apply oq_fn; exact rfl; try first | exact trivial | (and_intros <;> omega))) | ((with_reducible apply tl_id); first | (with_reducible apply tl_nil) | ((with_reducible apply u_q); (iterate 4 exact rfl))) | ((with_reducible apply t_id); first | (with_reducible apply t_seq) | (apply t_region; kernel_rfl) | (with_reducible apply t_block)) | with_reducible apply q_thenN)
    apply t_loopK (GH := []) (ι := Unit) [1, 9, 10, 14, 52] (fun _ => [(53, .int .i64 0)]) (fun _ => [(gk, shB l, some (101, 3, ck)), (b4, [.int .i64 d.most, .int .i64 d.rest, .int .i64 d.win, .int .i64 d.sum], some (74, 4, 1))]) (fun _ => True) (fun _ => 0) (())
    (repeat (first | exact KeepF.nil | (apply KeepF.cons; exact rfl) | apply KeepF.skip))
    (repeat (first | exact FrSub.nil | (apply FrSub.cons; exact rfl)))
    ((try simp only [List.append_nil]); (repeat (first | exact HpSub.refl _ | (apply HpSub.consE; (repeat (first | exact P0 | apply P1 | apply PA)); exact rfl) | apply hp_appC | apply HpSub.skipX | exact hp_left | apply hp_skipApp | exact HpSub.nil)))
    · trivial
    rintro ⟨⟩ -
    try simp only [List.cons_append, List.nil_append]
    try simp only [List.append_nil]
    repeat' (first | ((with_reducible apply oq_id); first | ((with_reducible apply oq_lssF); exact rfl; exact rfl; omega) | (apply oq_fn; exact rfl; try first | exact trivial | (and_intros <;> omega)) | ((with_reducible apply oq_call (k := 49) (hc := Try.call49)); exact rfl; exact rfl; exact fun D w1 hw1 => sameSh_calls (some ⟨gk, 0, none⟩) A n ck c l w1 (Blk.rows (rows := l.map shCells) (hw1.blk _ (Pick.mem (by (repeat (first | exact P0 | apply P1 | apply PA))))).2 (by simp; exact hl) (sh_len _)) (hr.ext hw1.ext.ext) (by omega))) | ((with_reducible apply tl_id); first | (with_reducible apply tl_nil) | ((with_reducible apply u_q); (iterate 4 exact rfl))) | ((with_reducible apply t_id); first | (with_reducible apply t_seq) | (apply t_region; kernel_rfl) | ((with_reducible apply t_condF); exact rfl) | (with_reducible apply t_ret) | (with_reducible apply t_exit)) | with_reducible apply q_thenN | with_reducible apply q_thenE | ((with_reducible apply q_blockE); exact rfl) | (with_reducible apply end_ret) | exact rvs_nil | (with_reducible apply rvs_cons) | ((with_reducible apply rv_tmp); exact rfl))
    all_goals rfl
  obtain ⟨a0, ⟨a1, a1'⟩, a2, a3, a4⟩ := asgE_ok (hE.trans h0)
  rw [hL] at a4
  unfold asgN at a4
  have hLm : L.length = m := by rw [tryF_len a4]; exact hlT
  obtain ⟨_, b2, _⟩ := (tryF_mand a4 ⟨List.Pairwise.nil, fun p hp => by cases hp⟩ (fun p hp => by cases hp)).at
  have hL2 : ∀ x ∈ L, x.length ≤ 2 := fun x hx => by
    obtain ⟨j, hj, rfl⟩ := List.getElem_of_mem hx
    have hj2 : j < ts.length := by omega
    have h1 := (b2 j ts[j] L[j] (List.getElem?_eq_getElem hj2) (List.getElem?_eq_getElem hj)).1
    have h2 := a3 ts[j] (List.getElem_mem hj2)
    unfold trOk at h2
    omega
  have hLb : ∀ x ∈ L, x.length ≤ 1000000 := fun x hx => by have := hL2 x hx; omega
  refine t_cut (ι := Nat × List Row) (fun z => [(1, .slice A n c), (2, .int .i64 mem), (3, .slice AT m cT), (4, .pointer (some ⟨b4, 0, none⟩)), (8, .bool false), (9, .slice (some ⟨gk, 0, none⟩) n ck), (10, .slice (some ⟨z.1, 0, none⟩) m m), (11, .int .i64 0)]) (fun z => outH z.1 m z.2 ++ [(gk, shB l, some (101, 3, ck)), (b4, [.int .i64 d.most, .int .i64 d.rest, .int .i64 d.win, .int .i64 d.sum], some (74, 4, 1))]) (fun z => (∀ r ∈ z.2, LrOk r) ∧ z.2.map Prod.fst = L) ?_ ?_
  · repeat' (first | ((with_reducible apply oq_id); first | (apply oq_fn; exact rfl; try first | exact trivial | (and_intros <;> omega)) | ((with_reducible apply oq_loadAgg); exact rfl; exact rfl)) | ((with_reducible apply tl_id); first | (with_reducible apply tl_nil) | ((with_reducible apply u_s); (iterate 3 exact rfl); (with_reducible apply os_callF (PV := AsgV E L) (k := 50) (hc := Try.call50)); exact rfl; exact rfl; exact fun D w1 hw1 => (by rw [← hE, ← hL]; exact assign_T d (some ⟨gk, 0, none⟩) n ck l mem AT m cT ts w1 (Blk.rows (rows := l.map shCells) (hw1.blk _ (Pick.mem (by (repeat (first | exact P0 | apply P1 | apply PA))))).2 (by simp; exact hl) (sh_len _)) (fun h => by cases h) (hrT.ext hw1.ext.ext) (by omega) (by omega)); rintro v H' hV; obtain ⟨g, R, hRR, rfl, rfl⟩ := asgV_ok h0 hV; (rw [hLm])) | ((with_reducible apply u_q); (iterate 4 exact rfl))) | ((with_reducible apply rd_id); first | (apply Rd.own; (repeat (first | exact P0 | apply P1 | apply PA)); exact rfl; done)) | ((with_reducible apply t_id); first | (apply t_region; kernel_rfl)) | exact Rdn.zero | apply Rdn.succ)
    all_goals exact ⟨by trivial, (g, R), hRR, by (repeat (first | exact FrSub.nil | (apply FrSub.cons; exact rfl))), HpSub.refl _⟩
  rintro ⟨g, R⟩ ⟨hRk, hRL⟩
  simp only at hRk hRL ⊢
  have hRm : R.length = m := by rw [← hLm, ← hRL, List.length_map]
  refine t_cut (ι := Option (Nat × Nat) × List Row) (fun z => [(1, .slice A n c), (2, .int .i64 mem), (3, .slice AT m cT), (4, .pointer (some ⟨b4, 0, none⟩)), (8, .bool false), (9, .slice (some ⟨gk, 0, none⟩) n ck), (10, .slice (some ⟨g, 0, none⟩) m m), (11, .int .i64 0), (12, .slice (clA z.1) m (clC z.1)), (13, .int .i64 0)]) (fun z => lisH z.1 z.2 ++ (outH g m R ++ [(gk, shB l, some (101, 3, ck)), (b4, [.int .i64 d.most, .int .i64 d.rest, .int .i64 d.win, .int .i64 d.sum], some (74, 4, 1))])) (fun z => (∀ r ∈ z.2, LrOk r) ∧ z.2.map Prod.fst = L ∧ (z.1 = none → z.2 = [])) ?_ ?_
  · repeat' (first | ((with_reducible apply oq_id); first | (apply oq_fn; exact rfl; try first | exact trivial | (and_intros <;> omega)) | ((with_reducible apply oq_loadAgg); exact rfl; exact rfl)) | ((with_reducible apply tl_id); first | (with_reducible apply tl_nil) | ((with_reducible apply u_s); (iterate 3 exact rfl); (with_reducible apply os_callF (PV := RasV E L) (k := 51) (hc := Try.call51)); exact rfl; exact rfl; exact fun D w1 hw1 => (by rw [← hE, ← hL]; exact refAssign_T d A n c l mem AT m cT ts w1 (hr.ext hw1.ext.ext) (hrT.ext hw1.ext.ext) (by omega) (by omega) hcT); rintro v H' hV; obtain ⟨o2, R2, hSS, rfl, rfl⟩ := rasV_ok h0 hV; (have e2 : R2.length = m := by rw [← hLm, ← hSS.2.1, List.length_map]); (rw [e2])) | ((with_reducible apply u_q); (iterate 4 exact rfl))) | ((with_reducible apply rd_id); first | (apply Rd.own; (repeat (first | exact P0 | apply P1 | apply PA)); exact rfl; done)) | ((with_reducible apply t_id); first | (apply t_region; kernel_rfl)) | exact Rdn.zero | apply Rdn.succ)
    all_goals exact ⟨by trivial, (o2, R2), hSS, by (repeat (first | exact FrSub.nil | (apply FrSub.cons; exact rfl))), HpSub.refl _⟩
  rintro ⟨o2, R2⟩ ⟨hSk, hSL, hSn⟩
  simp only at hSk hSL hSn ⊢
  have hSm : R2.length = m := by rw [← hLm, ← hSL, List.length_map]
  refine t_cut (ι := Unit) (fun _ => [(1, .slice A n c), (2, .int .i64 mem), (3, .slice AT m cT), (4, .pointer (some ⟨b4, 0, none⟩)), (8, .bool false), (9, .slice (some ⟨gk, 0, none⟩) n ck), (10, .slice (some ⟨g, 0, none⟩) m m), (14, .bool true)]) (fun _ => outH g m R ++ [(gk, shB l, some (101, 3, ck)), (b4, [.int .i64 d.most, .int .i64 d.rest, .int .i64 d.win, .int .i64 d.sum], some (74, 4, 1))]) (fun _ => True) ?_ ?_
  · repeat' (first | ((with_reducible apply oq_id); first | ((with_reducible apply oq_eqlT); exact rfl; exact rfl; omega) | (apply oq_fn; exact rfl; try first | exact trivial | (and_intros <;> omega)) | ((with_reducible apply oq_call (k := 52) (hc := Try.call52)); exact rfl; exact rfl; exact fun D w1 hw1 => sameLists_calls (some ⟨g, 0, none⟩) (clA o2) m m (clC o2) L R R2 w1 (by have h := lisW_of (o := some (g, m)) hw1 (hp_skipApp (hp_leftX _ _)) hRk hRL (fun h => by cases h); rw [hRm] at h; exact h) (by have h := lisW_of hw1 (hp_leftX _ _) hSk hSL hSn; rw [hSm] at h; exact h) (by omega) hLb)) | ((with_reducible apply tl_id); first | (with_reducible apply tl_nil) | ((with_reducible apply u_q); (iterate 4 exact rfl))) | ((with_reducible apply t_id); first | (apply t_region; kernel_rfl)))
    all_goals exact ⟨by trivial, (), trivial, by (repeat (first | exact FrSub.nil | (apply FrSub.cons; exact rfl))), hp_skipApp (HpSub.refl _)⟩
  rintro ⟨⟩ -
  repeat' (first | ((with_reducible apply oq_id); first | (apply oq_fn; exact rfl; try first | exact trivial | (and_intros <;> omega))) | ((with_reducible apply tl_id); first | (with_reducible apply tl_nil) | ((with_reducible apply u_q); (iterate 4 exact rfl))) | ((with_reducible apply t_id); first | (with_reducible apply t_seq) | (apply t_region; kernel_rfl) | (with_reducible apply t_block)) | with_reducible apply q_thenN)
  apply t_loopK (GH := []) (ι := Nat × List Row) [1, 9, 10, 14, 52] (fun z => [(53, .int .i64 (z.1 : Nat))]) (fun z => outH g m z.2 ++ [(gk, shB l, some (101, 3, ck)), (b4, [.int .i64 d.most, .int .i64 d.rest, .int .i64 d.win, .int .i64 d.sum], some (74, 4, 1))]) (fun z => z.1 ≤ m ∧ z.2.length = m ∧ ∀ r ∈ z.2, LrOk r ∧ r.1.length ≤ 2) (fun z => m - z.1) ((0, R))
  (repeat (first | exact KeepF.nil | (apply KeepF.cons; exact rfl) | apply KeepF.skip))
  (repeat (first | exact FrSub.nil | (apply FrSub.cons; exact rfl)))
  ((try simp only [List.append_nil]); first | exact HpSub.refl _ | (repeat (first | exact HpSub.refl _ | (apply HpSub.consE; (repeat (first | exact P0 | apply P1 | apply PA)); exact rfl) | apply hp_appC | apply HpSub.skipX | exact hp_left | apply hp_skipApp | exact HpSub.nil)))
  · exact ⟨Nat.zero_le _, hRm, fun r hr => ⟨hRk r hr, hL2 _ (by rw [← hRL]; exact List.mem_map.2 ⟨r, hr, rfl⟩)⟩⟩
  rintro ⟨i, R'⟩ ⟨hi, hR'm, hR'k⟩
  simp only at hi hR'm hR'k
  try simp only [List.cons_append, List.nil_append]
  try simp only [List.append_nil]
  by_cases hlt : i < m
  · obtain ⟨⟨xs, ro⟩, hRi⟩ : ∃ r, R'[i]? = some r := ⟨_, List.getElem?_eq_getElem (by omega)⟩
    obtain ⟨q, hq⟩ : ∃ q, xs.length = q := ⟨_, rfl⟩
    have hq2 : q ≤ 2 := by have := (hR'k _ (List.mem_of_getElem? hRi)).2; simp only at this; omega
    repeat' (first | ((with_reducible apply oq_id); first | (focus ((with_reducible apply oq_indexAddrN); (iterate 4 exact rfl); omega)) | ((with_reducible apply oq_lssT); exact rfl; exact rfl; omega) | (apply oq_fn; exact rfl; try first | exact trivial | (and_intros <;> omega)) | ((with_reducible apply oq_load); exact rfl; exact rfl)) | ((with_reducible apply tl_id); first | (with_reducible apply tl_nil) | ((with_reducible apply u_q); (iterate 4 exact rfl))) | ((with_reducible apply rd_id); first | (focus ((apply (rd_out hRi)); exact hp_leftX _ _))) | ((with_reducible apply t_id); first | (with_reducible apply t_seq) | (apply t_region; kernel_rfl) | ((with_reducible apply t_condT); exact rfl) | (with_reducible apply t_skip) | (with_reducible apply t_block)) | with_reducible apply q_thenN)
    rw [hq]
    apply t_loopK (GH := []) (ι := Nat × List Row) [1, 9, 10, 14, 15, 52, 53, 59, 60] (fun z => [(61, .int .i64 (z.1 : Nat))]) (fun z => outH g m z.2 ++ [(gk, shB l, some (101, 3, ck)), (b4, [.int .i64 d.most, .int .i64 d.rest, .int .i64 d.win, .int .i64 d.sum], some (74, 4, 1))]) (fun z => z.1 ≤ q ∧ z.2.length = m ∧ (∀ r ∈ z.2, LrOk r ∧ r.1.length ≤ 2) ∧ ∀ r, z.2[i]? = some r → r.1.length = q) (fun z => q - z.1) ((0, R'))
    (repeat (first | exact KeepF.nil | (apply KeepF.cons; exact rfl) | apply KeepF.skip))
    (repeat (first | exact FrSub.nil | (apply FrSub.cons; exact rfl)))
    ((try simp only [List.append_nil]); first | exact HpSub.refl _ | (repeat (first | exact HpSub.refl _ | (apply HpSub.consE; (repeat (first | exact P0 | apply P1 | apply PA)); exact rfl) | apply hp_appC | apply HpSub.skipX | exact hp_left | apply hp_skipApp | exact HpSub.nil)))
    · exact ⟨Nat.zero_le _, hR'm, hR'k, fun r hr => by rw [hRi] at hr; cases hr; exact hq⟩
    rintro ⟨j, R3⟩ ⟨hj, hR3m, hR3k, hR3q⟩
    simp only at hj hR3m hR3k hR3q
    try simp only [List.cons_append, List.nil_append]
    try simp only [List.append_nil]
    by_cases hjl : j < q
    · obtain ⟨⟨ys, so⟩, hR3i⟩ : ∃ r, R3[i]? = some r := ⟨_, List.getElem?_eq_getElem (by omega)⟩
      have hyq := hR3q _ hR3i
      simp only at hyq
      have hjx : j < ys.length := by omega
      have hyk := hR3k _ (List.mem_of_getElem? hR3i)
      obtain ⟨g', c', rfl⟩ := row_nn (fun r hr => (hR3k r hr).1) hR3i (by omega)
      obtain ⟨R4, R5, rfl, hA0⟩ := row_split' hR3i
      have hA1 : (R4.map rwV).length = i := by rw [List.length_map]; exact hA0
      refine t_subW (HpSub.w (out_to g m R4 (ys, some (g', c')) R5 [(gk, shB l, some (101, 3, ck)), (b4, [.int .i64 d.most, .int .i64 d.rest, .int .i64 d.win, .int .i64 d.sum], some (74, 4, 1))])) ?_
      simp only [outR, rowH, clH, rowV_mk, clA, clC, List.cons_append, List.nil_append]
      repeat' (first | ((with_reducible apply oq_id); first | (focus ((with_reducible apply oq_indexAddrN); (iterate 4 exact rfl); omega)) | ((with_reducible apply oq_lssT); exact rfl; exact rfl; omega) | (apply oq_fn; exact rfl; try first | exact trivial | (and_intros <;> omega)) | ((with_reducible apply oq_load); exact rfl; exact rfl)) | ((with_reducible apply tl_id); first | (with_reducible apply tl_nil) | ((with_reducible apply u_q); (iterate 4 exact rfl)) | ((with_reducible apply u_s0); exact rfl; exact rfl)) | ((with_reducible apply (os_storeI hjx)); (iterate 3 exact rfl); (repeat (first | exact P0 | apply P1 | apply PA))) | ((with_reducible apply rd_id); first | (apply Rd.own; (repeat (first | exact P0 | apply P1 | apply PA)); exact rwV_at hA1; done)) | ((with_reducible apply t_id); first | (with_reducible apply t_seq) | (apply t_region; kernel_rfl) | ((with_reducible apply t_condT); exact rfl) | (with_reducible apply t_skip) | (with_reducible apply t_block)) | with_reducible apply q_thenN | with_reducible apply q_blockN)
      all_goals (refine ⟨(j + 1, R4 ++ (ys.set j (-7), some (g', c')) :: R5), ⟨(by simp only; omega), (by simp only [List.length_append, List.length_cons] at hR3m ⊢; omega), (fun r hr => by
        rcases List.mem_append.1 hr with hr | hr
        · exact hR3k r (List.mem_append_left _ hr)
        · rcases List.mem_cons.1 hr with rfl | hr
          · exact ⟨⟨fun h => (by cases h), by simp only [List.length_set]; exact hyk.1.2⟩, by simp only [List.length_set]; exact hyk.2⟩
          · exact hR3k r (List.mem_append_right _ (List.mem_cons_of_mem _ hr))), (fun r hr => by
        simp only at hr
        rw [List.getElem?_append_right (by omega), hA0, Nat.sub_self] at hr
        simp only [List.getElem?_cons_zero, Option.some.injEq] at hr
        subst hr
        simp only [List.length_set]; exact hyq)⟩, (by simp only; omega), ?_, ?_⟩)
      all_goals first
        | ((try simp only [List.cons_append, List.nil_append]); (repeat (first | exact FrSub.nil | (apply FrSub.cons; exact rfl))); done)
        | exact out_set
        | trace_state
    · obtain rfl : j = q := by omega
      repeat' (first | ((with_reducible apply oq_id); first | ((with_reducible apply oq_lssF); exact rfl; exact rfl; omega) | (apply oq_fn; exact rfl; try first | exact trivial | (and_intros <;> omega))) | ((with_reducible apply tl_id); first | (with_reducible apply tl_nil) | ((with_reducible apply u_q); (iterate 4 exact rfl))) | ((with_reducible apply t_id); first | (with_reducible apply t_seq) | (apply t_region; kernel_rfl) | ((with_reducible apply t_condF); exact rfl) | (with_reducible apply t_exit)) | with_reducible apply q_thenN | with_reducible apply q_blockN | with_reducible apply q_thenE | ((with_reducible apply q_blockE); exact rfl))
      all_goals (refine ⟨(i + 1, R3), ⟨(by simp only; omega), hR3m, hR3k⟩, (by simp only; omega), ?_, ?_⟩)
      all_goals first
        | ((try simp only [List.cons_append, List.nil_append]); (repeat (first | exact FrSub.nil | (apply FrSub.cons; exact rfl))); done)
        | exact HpSub.refl _
  · repeat' (first | ((with_reducible apply oq_id); first | ((with_reducible apply oq_lssF); exact rfl; exact rfl; omega) | (apply oq_fn; exact rfl; try first | exact trivial | (and_intros <;> omega)) | ((with_reducible apply oq_call (k := 49) (hc := Try.call49)); exact rfl; exact rfl; exact fun D w1 hw1 => sameSh_calls (some ⟨gk, 0, none⟩) A n ck c l w1 (Blk.rows (rows := l.map shCells) (hw1.blk _ (Pick.mem (by (repeat (first | exact P0 | apply P1 | apply PA))))).2 (by simp; exact hl) (sh_len _)) (hr.ext hw1.ext.ext) (by omega))) | ((with_reducible apply tl_id); first | (with_reducible apply tl_nil) | ((with_reducible apply u_q); (iterate 4 exact rfl))) | ((with_reducible apply t_id); first | (with_reducible apply t_seq) | (apply t_region; kernel_rfl) | ((with_reducible apply t_condF); exact rfl) | (with_reducible apply t_ret) | (with_reducible apply t_exit)) | with_reducible apply q_thenN | with_reducible apply q_thenE | ((with_reducible apply q_blockE); exact rfl) | (with_reducible apply end_ret) | exact rvs_nil | (with_reducible apply rvs_cons) | ((with_reducible apply rv_tmp); exact rfl))
    all_goals rfl
end Go.Proofs.Ytmlmgipngbndgaa
namespace Go.Proofs.Ytmlmgipngbndgaa
open Go.ChangeShapes Go.WideShapes Go.ChangeAt Go.RowKit
theorem Try.own : ownKnob Try.prog.godebug = none := by kernel_rfl
theorem Try.laidOut : laidOutB Try.prog = true := by kernel_rfl
section
variable {H : Type} {enc : TypeId × Value → H} {P : Program}
theorem trodAll_ext (hl : laidOutB P = true) {W W' : World} (hb : Ext W W') : ∀ {ts : List TypeId} {vs : List Value} {ds : List (DataW H)} {p : List MemPlace}, (ts.all fun t => P.readableRec t && decide (t < P.types.size)) = true →
    DataW.TrodAll enc P W 0 (fun _ => true) true ts vs ds p → (∀ x ∈ p, x.block < W.heap.size) → DataW.TrodAll enc P W' 0 (fun b => decide (b < W.heap.size)) true ts vs ds p
  | [], vs, ds, p, _, h, _ => by
    obtain ⟨rfl, rfl, rfl⟩ := trodAll_nil h
    exact trodAll_mk0
  | t :: ts, vs, ds, p, ht, h, hlt => by
    obtain ⟨v, vs', d, ds', p0, q0, rfl, rfl, rfl, h1, h2⟩ := trodAll_cons h
    simp only [List.all_cons, Bool.and_eq_true, decide_eq_true_eq] at ht
    exact ⟨p0, q0, Below.trod hl ht.1.1 ht.1.2 h1 hb (fun x hx => hlt x (List.mem_append_left _ hx)), trodAll_ext hl hb ht.2 h2 (fun x hx => hlt x (List.mem_append_right _ hx)), rfl⟩
end
end Go.Proofs.Ytmlmgipngbndgaa
