/- What the statement computes, walked. -/
import Derived.Test.YtmlmgipngbndgaaPkL
import Derived.Test.YtmlmgipngbndgaaPkO
import Derived.Test.YtmlmgipngbndgaaPkJ
/- Lists of deals, cut, are the specification's. -/
namespace Go.Proofs.Ytmlmgipngbndgaa
open Go.RowKit
attribute [local irreducible] OQ OS OX Rd T TL GX GL AL AI RV wpG SAny Calls
set_option maxRecDepth 100000
set_option maxHeartbeats 2000000
set_option linter.unusedVariables false
set_option linter.unusedSimpArgs false

theorem oq_sliceLE {c : Cx} {F : Fr} {H : Hp} {d : Option Tmp} {ty t : TypeId} {pos : String} {af : Array Edge} {g : Option (Nat × Bool)} {x y : Operand} {a0 a1 : Bool} {s0 s1 : Nat} {z0 z1 : List Value} {k1 : TyK} {e len cap l : Nat} {L LD : Option Addr} (hn : L = none → len = 0 ∧ cap = 0) (hD : dropA L l cap s1 = LD) (ht : tyAt c.tys t = some ⟨a0, s0, z0, .slice e⟩) (he : tyAt c.tys e = some ⟨a1, s1, z1, k1⟩)
    (hx : ev F x = some (.slice L len cap)) (hy : ev F y = some (.int .i64 (l : Nat))) (h1 : l ≤ len) :
    OQ c ⟨d, .slice t x (some y) none none, ty, pos, af, g⟩ F H (.slice LD (len - l) (cap - l)) := by
  subst hD
  exact oq_sliceLG hn ht he hx hy h1
theorem stV_valid {o : Off} (hO : OkO o) (hv : officeB o = true) {l : List Deal} : ∀ {k : Nat}, k ≤ l.length → okTo o l k → officeB (stV o l k) = true
  | 0, _, _ => hv
  | k + 1, hk, h => by
    obtain ⟨d, hd⟩ : ∃ d, l[k]? = some d := ⟨_, List.getElem?_eq_getElem (by omega)⟩
    rw [stV_succ hd]
    exact done_valid (stV_ok hO (by omega) fun j e hj he => h j e (by omega) he) d (h k d (by omega) hd)
theorem run_end {o : Off} {l : List Deal} (h : ¬ (runV o l).2.2 = 0) : ∃ j d, j < l.length ∧ okTo o l j ∧ l[j]? = some d ∧ ¬ doneE (stV o l j) d = 0 := by
  rcases run_cases o l l.length (Nat.le_refl _) with h1 | h1
  · rw [run_all h1] at h; exact absurd rfl h
  · exact h1
theorem run_zero {o : Off} {l : List Deal} (h : (runV o l).2.2 = 0) : okTo o l l.length := by
  rcases run_cases o l l.length (Nat.le_refl _) with h1 | ⟨j, d, h1, h2, h3, h4⟩
  · exact h1
  · rw [run_bad h2 h3 h4] at h; exact absurd h h4
/-- A prefix that is refused. -/
theorem cut_bad {o : Off} {l : List Deal} {c : Nat} (hc : c ≤ l.length) (h : ¬ (playV o (l.take c)).2.2 = 0) : ((playV o l).2.2 = (playV o (l.take c)).2.2 ∧ (playV o l).2.1 = (playV o (l.take c)).2.1) ∨ (200 < l.length ∧ (playV o l).2.2 = 4) := by
  have htl : (l.take c).length = c := by simp; omega
  by_cases hv : officeB o = true
  · by_cases h2 : l.length ≤ 200
    · left
      unfold playV at h ⊢
      rw [if_pos hv, if_pos (by omega)] at h
      rw [if_pos hv, if_pos hv, if_pos h2, if_pos (by omega)]
      obtain ⟨j, d, h3, h4, h5, h6⟩ := run_end h
      have h5' : l[j]? = some d := by
        rw [List.getElem?_take] at h5
        split at h5
        · exact h5
        · cases h5
      have h7 : okTo o l j := fun i e hi he => by
        have := h4 i e hi (by rw [List.getElem?_take, if_pos (by omega)]; exact he)
        rw [stV_take (by omega)] at this
        exact this
      rw [run_bad h4 h5 h6]
      rw [stV_take (by omega)] at h6 ⊢
      rw [run_bad h7 h5' h6]
      exact ⟨rfl, rfl⟩
    · right
      unfold playV
      rw [if_pos hv, if_neg h2]
      exact ⟨by omega, rfl⟩
  · left
    unfold playV
    rw [if_neg hv, if_neg hv]
    exact ⟨rfl, rfl⟩
/-- A prefix that is done. -/
theorem cut_ok {o : Off} {l : List Deal} {c : Nat} (hc : c ≤ l.length) (h : (playV o (l.take c)).2.2 = 0) : officeB o = true ∧ okTo o l c ∧ playV o (l.take c) = (stV o l c, 0, 0) := by
  have htl : (l.take c).length = c := by simp; omega
  unfold playV at h ⊢
  split at h
  · rename_i hv
    split at h
    · rename_i h2
      have h3 := run_zero h
      rw [htl] at h3
      refine ⟨hv, fun i e hi he => ?_, ?_⟩
      · have := h3 i e hi (by rw [List.getElem?_take, if_pos (by omega)]; exact he)
        rw [stV_take (by omega)] at this
        exact this
      · rw [if_pos hv, if_pos h2, run_all (by rw [htl]; exact h3), htl, stV_take (Nat.le_refl _)]
    · cases h
  · cases h
theorem checkOk {o : Off} (hO : OkO o) (hv : officeB o = true) (A : Option Addr) (cf : Nat) (B : Option Addr) (cb : Nat) (w : World) (hA : RdS w 4 A o.fl.length (o.fl.map depCells)) (hB : RdS w 3 B o.bk.length (o.bk.map bkCells)) (hnA : A = none → o.fl.length = 0 ∧ cf = 0) (hnB : B = none → o.bk.length = 0 ∧ cb = 0) : Calls Try.prog 39 #[.agg ⟨offCells o A cf B cb⟩] w fun e w' => e = .returned (.int .i64 0) ∧ Ext w w' := by
  have h := check_calls o A cf B cb w hA hB hnA hnB (fun d hd => (hO.deps d hd).2) (by have := hO.nf; omega) (by have := hO.nb; omega)
  unfold chkE at h
  rw [if_pos hv] at h
  exact h
theorem cDoY {o : Off} (hO : OkO o) (hv : officeB o = true) {d : Deal} (hE : doneE o d = 0) (A : Option Addr) (cf : Nat) (B : Option Addr) (cb : Nat) (w : World) (hA : RdS w 4 A o.fl.length (o.fl.map depCells)) (hB : RdS w 3 B o.bk.length (o.bk.map bkCells)) (hnA : A = none → o.fl.length = 0 ∧ cf = 0) (hnB : B = none → o.bk.length = 0 ∧ cb = 0) (hk : 0 ≤ d.kind ∧ d.kind ≤ 255) : Calls Try.prog 37 #[.agg ⟨offCells o A cf B cb⟩, .agg ⟨dealCells d⟩] w fun e w' => ∃ v H', e = .returned v ∧ AnyV (doneO o d) 0 v H' ∧ Has w ⟨[], []⟩ H' w' := by
  have h := cDo_T o A cf B cb w hA hB hnA hnB (fun d hd => (hO.deps d hd).2) (by have := hO.nf; omega) (by have := hO.nb; omega) d hk
  unfold doR doE at h
  rw [if_pos ⟨hv, hE⟩, if_pos hv, hE] at h
  exact h
theorem cDoN {o : Off} (hO : OkO o) (hv : officeB o = true) {d : Deal} {z : Int} (hE : ¬ doneE o d = 0) (hz : doneE o d = z) (A : Option Addr) (cf : Nat) (B : Option Addr) (cb : Nat) (w : World) (hA : RdS w 4 A o.fl.length (o.fl.map depCells)) (hB : RdS w 3 B o.bk.length (o.bk.map bkCells)) (hnA : A = none → o.fl.length = 0 ∧ cf = 0) (hnB : B = none → o.bk.length = 0 ∧ cb = 0) (hk : 0 ≤ d.kind ∧ d.kind ≤ 255) : Calls Try.prog 37 #[.agg ⟨offCells o A cf B cb⟩, .agg ⟨dealCells d⟩] w fun e w' => ∃ v H', e = .returned v ∧ AnyV zeroO z v H' ∧ Has w ⟨[], []⟩ H' w' := by
  have h := cDo_T o A cf B cb w hA hB hnA hnB (fun d hd => (hO.deps d hd).2) (by have := hO.nf; omega) (by have := hO.nb; omega) d hk
  unfold doR doE at h
  rw [if_neg (fun h => hE h.2), if_pos hv, hz] at h
  exact h
theorem sameZero (w : World) (A B : Option Addr) (cf cb : Nat) : Calls Try.prog 36 #[.agg ⟨offCells zeroO A cf B cb⟩, .agg ⟨offCells zeroO none 0 none 0⟩] w fun e w' => e = .returned (.bool true) ∧ Ext w w' :=
  same_calls zeroO A cf B cb none 0 none 0 w (RdS.nil _ _ _) (RdS.nil _ _ _) (RdS.nil _ _ _) (RdS.nil _ _ _) (Nat.zero_le _) (Nat.zero_le _)
theorem run_len : ∀ {l : List Deal} {o : Off}, OkO o → (runV o l).1.fl.length ≤ 1000000 ∧ (runV o l).1.bk.length ≤ 1000000
  | [], o, h => by have := h.nf; have := h.nb; unfold runV; simp only; omega
  | d :: l, o, h => by
    unfold runV
    split
    · rename_i hE
      split
      · exact run_len (done_okO h d hE)
      · exact ⟨by unfold zeroO; simp, by unfold zeroO; simp⟩
    · exact ⟨by unfold zeroO; simp, by unfold zeroO; simp⟩

theorem crewCut_T (o : Off) (A : Option Addr) (cf : Nat) (B : Option Addr) (cb : Nat) (w : World) (hA : RdS w 4 A o.fl.length (o.fl.map depCells)) (hB : RdS w 3 B o.bk.length (o.bk.map bkCells)) (hnA : A = none → o.fl.length = 0 ∧ cf = 0) (hnB : B = none → o.bk.length = 0 ∧ cb = 0) (hu : ∀ d ∈ o.fl, 0 ≤ d.state) (l : List Deal) (L : Option Addr) (nl cl : Nat) (hL : RdS w 5 L nl (l.map dealCells)) (hlk : ∀ d ∈ l, 0 ≤ d.kind ∧ d.kind ≤ 255) (hLn : L = none → nl = 0 ∧ cl = 0) (hlc : nl ≤ cl) (cut : Int) : Calls Try.prog 12 #[.agg ⟨offCells o A cf B cb⟩, .slice L nl cl, .int .i64 cut] w fun e w' => e = .returned (.bool true) ∧ Ext w w' := by
  have hll := hL.len
  simp only [List.length_map] at hll
  refine enterQ (c := cx w 149) Try.func12 rfl rfl rfl rfl ?_
  refine t_cut (ι := Nat) (fun z => [(1, .slice L nl cl), (2, .int .i64 cut), (3, .pointer (some ⟨z, 0, none⟩))]) (fun z => (z, offCells o A cf B cb, some (25, 7, 1)) :: []) (fun _ => True) ?_ ?_
  · repeat' (first | ((with_reducible apply oq_id); first | (apply oq_fn; exact rfl; first | exact trivial | (refine ⟨?_, ?_⟩ <;> omega) | (refine ⟨?_, ?_, ?_⟩ <;> omega) | omega | skip)) | ((with_reducible apply tl_id); first | ((with_reducible apply tl_nil)) | ((with_reducible apply u_q); exact rfl; exact rfl; exact rfl; exact rfl) | ((with_reducible apply u_s); exact rfl; exact rfl; exact rfl)) | ((with_reducible apply os_id); first | ((with_reducible apply os_x); exact rfl)) | ((with_reducible apply ox_id); first | ((with_reducible apply ox_boxAgg); exact rfl; intro _)) | ((with_reducible apply t_id); first | (apply t_region; kernel_rfl)))
    all_goals exact ⟨rfl, _, trivial, by (repeat (first | exact FrSub.nil | (apply FrSub.cons; exact rfl))), by (repeat (first | exact HpSub.refl _ | (apply HpSub.consE; (repeat (first | exact P0 | apply P1 | apply PA)); exact rfl) | exact HpSub.nil))⟩
  rintro b3 -
  refine t_cut (ι := Unit) (fun _ => [(1, .slice L nl cl), (2, .int .i64 cut), (3, .pointer (some ⟨b3, 0, none⟩)), (7, .bool true)]) (fun _ => (b3, offCells o A cf B cb, some (25, 7, 1)) :: []) (fun _ => True) ?_ ?_
  · repeat' (first | ((with_reducible apply oq_id); first | (apply oq_fn; exact rfl; first | exact trivial | (refine ⟨?_, ?_⟩ <;> omega) | (refine ⟨?_, ?_, ?_⟩ <;> omega) | omega | skip) | ((with_reducible apply oq_call (k := 53) (hc := Try.call53)); exact rfl; exact rfl; exact fun D w1 hw1 => alive_calls w1)) | ((with_reducible apply tl_id); first | ((with_reducible apply tl_nil)) | ((with_reducible apply u_q); exact rfl; exact rfl; exact rfl; exact rfl)) | ((with_reducible apply t_id); first | (apply t_region; kernel_rfl)))
    all_goals exact ⟨rfl, (), trivial, by (repeat (first | exact FrSub.nil | (apply FrSub.cons; exact rfl))), by (repeat (first | exact HpSub.refl _ | (apply HpSub.consE; (repeat (first | exact P0 | apply P1 | apply PA)); exact rfl) | exact HpSub.nil))⟩
  rintro ⟨⟩ -
  have HG := fun w1 => great_calls o A cf B cb w1
  by_cases hg : 20 < o.fl.length ∨ 150 < o.bk.length
  · rw [decide_eq_true hg] at HG
    repeat' (first | ((with_reducible apply oq_id); first | (apply oq_fn; exact rfl; first | exact trivial | (refine ⟨?_, ?_⟩ <;> omega) | (refine ⟨?_, ?_, ?_⟩ <;> omega) | omega | skip) | ((with_reducible apply oq_loadAgg); exact rfl; exact rfl) | ((with_reducible apply oq_call (k := 19) (hc := Try.call19)); exact rfl; exact rfl; exact fun D w1 hw1 => HG w1)) | ((with_reducible apply tl_id); first | ((with_reducible apply tl_nil)) | ((with_reducible apply u_q); exact rfl; exact rfl; exact rfl; exact rfl) | ((with_reducible apply u_skip); exact rfl; exact rfl; exact rfl)) | ((with_reducible apply rd_id); first | (apply Rd.own; (repeat (first | exact P0 | apply P1 | apply PA)); exact rfl; done)) | ((with_reducible apply t_id); first | ((with_reducible apply t_seq)) | (apply t_region; kernel_rfl) | ((with_reducible apply t_condT); exact rfl) | ((with_reducible apply t_ret))) | with_reducible apply q_thenN | with_reducible apply q_thenR | exact Rdn.zero | apply Rdn.succ | ((with_reducible apply end_ret)) | exact rvs_nil | ((with_reducible apply rvs_cons)) | ((with_reducible apply rv_tmp); exact rfl))
    all_goals rfl
  rw [decide_eq_false hg] at HG
  have hn : o.fl.length ≤ 1000000 := by omega
  have hn2 : o.bk.length ≤ 1000000 := by omega
  by_cases hbad : 220 < nl ∨ cut < 0 ∨ (nl : Int) < cut
  · have hbad' : 220 < nl ∨ (nl ≤ 220 ∧ cut < 0) ∨ (nl ≤ 220 ∧ 0 ≤ cut ∧ (nl : Int) < cut) := by omega
    clear hbad
    rcases hbad' with h220 | ⟨h1, h2⟩ | ⟨h1, h2, h3⟩
    all_goals (repeat' (first | ((with_reducible apply oq_id); first | ((with_reducible apply oq_gtrT); exact rfl; exact rfl; omega) | ((with_reducible apply oq_gtrF); exact rfl; exact rfl; omega) | ((with_reducible apply oq_lssT); exact rfl; exact rfl; omega) | ((with_reducible apply oq_lssF); exact rfl; exact rfl; omega) | (apply oq_fn; exact rfl; first | exact trivial | (refine ⟨?_, ?_⟩ <;> omega) | (refine ⟨?_, ?_, ?_⟩ <;> omega) | omega | skip) | ((with_reducible apply oq_loadAgg); exact rfl; exact rfl) | ((with_reducible apply oq_call (k := 19) (hc := Try.call19)); exact rfl; exact rfl; exact fun D w1 hw1 => HG w1)) | ((with_reducible apply tl_id); first | ((with_reducible apply tl_nil)) | ((with_reducible apply u_q); exact rfl; exact rfl; exact rfl; exact rfl) | ((with_reducible apply u_skip); exact rfl; exact rfl; exact rfl)) | ((with_reducible apply rd_id); first | (apply Rd.own; (repeat (first | exact P0 | apply P1 | apply PA)); exact rfl; done)) | ((with_reducible apply t_id); first | ((with_reducible apply t_seq)) | (apply t_region; kernel_rfl) | ((with_reducible apply t_condT); exact rfl) | ((with_reducible apply t_ret))) | with_reducible apply q_thenN | with_reducible apply q_thenR | exact Rdn.zero | apply Rdn.succ | ((with_reducible apply end_ret)) | exact rvs_nil | ((with_reducible apply rvs_cons)) | ((with_reducible apply rv_tmp); exact rfl)))
    all_goals rfl
  obtain ⟨c, rfl⟩ : ∃ c : Nat, cut = c := ⟨cut.toNat, by omega⟩
  have h220 : nl ≤ 220 := by omega
  have hcn : c ≤ nl := by omega
  clear hbad
  refine t_cut (ι := Unit) (fun _ => [(1, .slice L nl cl), (2, .int .i64 (c : Nat)), (3, .pointer (some ⟨b3, 0, none⟩)), (7, .bool true)]) (fun _ => (b3, offCells o A cf B cb, some (25, 7, 1)) :: []) (fun _ => True) ?_ ?_
  · repeat' (first | ((with_reducible apply oq_id); first | ((with_reducible apply oq_gtrF); exact rfl; exact rfl; omega) | ((with_reducible apply oq_lssF); exact rfl; exact rfl; omega) | (apply oq_fn; exact rfl; first | exact trivial | (refine ⟨?_, ?_⟩ <;> omega) | (refine ⟨?_, ?_, ?_⟩ <;> omega) | omega | skip) | ((with_reducible apply oq_loadAgg); exact rfl; exact rfl) | ((with_reducible apply oq_call (k := 19) (hc := Try.call19)); exact rfl; exact rfl; exact fun D w1 hw1 => HG w1)) | ((with_reducible apply tl_id); first | ((with_reducible apply tl_nil)) | ((with_reducible apply u_q); exact rfl; exact rfl; exact rfl; exact rfl)) | ((with_reducible apply rd_id); first | (apply Rd.own; (repeat (first | exact P0 | apply P1 | apply PA)); exact rfl; done)) | ((with_reducible apply t_id); first | ((with_reducible apply t_seq)) | (apply t_region; kernel_rfl) | ((with_reducible apply t_condF); exact rfl) | ((with_reducible apply t_skip))) | with_reducible apply q_thenN | exact Rdn.zero | apply Rdn.succ)
    all_goals exact ⟨rfl, (), trivial, by (repeat (first | exact FrSub.nil | (apply FrSub.cons; exact rfl))), by (repeat (first | exact HpSub.refl _ | (apply HpSub.consE; (repeat (first | exact P0 | apply P1 | apply PA)); exact rfl) | exact HpSub.nil))⟩
  rintro ⟨⟩ -
  obtain ⟨⟨po, pa, pe⟩, hp⟩ : ∃ p, playV o l = p := ⟨_, rfl⟩
  obtain ⟨⟨qo, qa, qe⟩, hq⟩ : ∃ p, playV o (l.take c) = p := ⟨_, rfl⟩
  refine t_cut (ι := Nat × Option (Nat × Nat) × Option (Nat × Nat)) (fun z => [(1, .slice L nl cl), (2, .int .i64 (c : Nat)), (3, .pointer (some ⟨b3, 0, none⟩)), (7, .bool true), (8, .pointer (some ⟨z.1, 0, none⟩)), (9, .int .i64 pa), (10, .int .i64 pe)]) (fun z => (z.1, offCells po (clA z.2.1) (clC z.2.1) (clA z.2.2) (clC z.2.2), some (25, 7, 1)) :: (flH po z.2.1 ++ (bkH po z.2.2 ++ ((b3, offCells o A cf B cb, some (25, 7, 1)) :: [])))) (fun z => (z.2.1 = none → po.fl.length = 0) ∧ (z.2.2 = none → po.bk.length = 0)) ?_ ?_
  · repeat' (first | ((with_reducible apply oq_id); first | (apply oq_fn; exact rfl; first | exact trivial | (refine ⟨?_, ?_⟩ <;> omega) | (refine ⟨?_, ?_, ?_⟩ <;> omega) | omega | skip) | ((with_reducible apply oq_loadAgg); exact rfl; exact rfl)) | ((with_reducible apply tl_id); first | ((with_reducible apply tl_nil)) | ((with_reducible apply u_s); exact rfl; exact rfl; exact rfl; (with_reducible apply os_callF (PV := AnyP (playV o l)) (k := 34) (hc := Try.call34)); exact rfl; exact rfl; exact fun D w1 hw1 => play_T o A cf B cb w1 (hA.ext hw1.ext.ext) (hB.ext hw1.ext.ext) hnA hnB hu hn hn2 l L nl cl (hL.ext hw1.ext.ext) (by omega) hlk; rintro v H' ⟨x1, y1, hx1, hy1, rfl, rfl⟩; (simp only [List.append_assoc])) | ((with_reducible apply u_q); exact rfl; exact rfl; exact rfl; exact rfl) | ((with_reducible apply u_s0); exact rfl; exact rfl) | ((with_reducible apply u_s); exact rfl; exact rfl; exact rfl)) | ((with_reducible apply os_id); first | ((with_reducible apply os_x); exact rfl) | ((with_reducible apply os_storeAgg); exact rfl; exact rfl; exact rfl; exact rfl; exact rfl)) | ((with_reducible apply ox_id); first | ((with_reducible apply ox_alloc); exact rfl; intro _)) | ((with_reducible apply rd_id); first | (apply Rd.own; (repeat (first | exact P0 | apply P1 | apply PA)); exact rfl; done)) | ((with_reducible apply t_id); first | (apply t_region; kernel_rfl)) | exact P0 | exact Rdn.zero | apply Rdn.succ | ((with_reducible apply Norm.nil); exact rfl) | ((with_reducible apply Norm.cons); exact rfl) | exact Nat.le_of_ble_eq_true rfl)
    all_goals (rw [hp] at hx1 hy1)
    all_goals (refine ⟨by trivial, (_, x1, y1), ⟨hx1, hy1⟩, by (simp only [hp]; (repeat (first | exact FrSub.nil | (apply FrSub.cons; exact rfl)))), ?_⟩)
    all_goals (simp only [hp]; (repeat (first | exact HpSub.refl _ | (apply HpSub.consE; (repeat (first | exact P0 | apply P1 | apply PA)); exact rfl) | exact HpSub.appLeft | apply HpSub.skipX | apply HpSub.skipApp | exact HpSub.nil)))
  rintro ⟨b8, x1, y1⟩ ⟨hx1, hy1⟩
  simp only at hx1 hy1 ⊢
  refine t_cut (ι := Nat × Option (Nat × Nat) × Option (Nat × Nat)) (fun z => [(1, .slice L nl cl), (2, .int .i64 (c : Nat)), (7, .bool true), (8, .pointer (some ⟨b8, 0, none⟩)), (9, .int .i64 pa), (10, .int .i64 pe), (11, .pointer (some ⟨z.1, 0, none⟩)), (12, .int .i64 qa), (13, .int .i64 qe)]) (fun z => (z.1, offCells qo (clA z.2.1) (clC z.2.1) (clA z.2.2) (clC z.2.2), some (25, 7, 1)) :: (flH qo z.2.1 ++ (bkH qo z.2.2 ++ ((b8, offCells po (clA x1) (clC x1) (clA y1) (clC y1), some (25, 7, 1)) :: (flH po x1 ++ (bkH po y1 ++ ([]))))))) (fun z => (z.2.1 = none → qo.fl.length = 0) ∧ (z.2.2 = none → qo.bk.length = 0)) ?_ ?_
  · repeat' (first | ((with_reducible apply oq_id); first | (focus ((with_reducible apply (oq_sliceHG (h := c) hLn)); exact rfl; exact rfl; exact rfl; exact rfl; omega)) | (apply oq_fn; exact rfl; first | exact trivial | (refine ⟨?_, ?_⟩ <;> omega) | (refine ⟨?_, ?_, ?_⟩ <;> omega) | omega | skip) | ((with_reducible apply oq_loadAgg); exact rfl; exact rfl)) | ((with_reducible apply gx_id); first | ((with_reducible apply v_nil)) | ((with_reducible apply v_q); exact rfl; exact rfl; exact rfl)) | ((with_reducible apply os_id); first | ((with_reducible apply os_storeAgg); exact rfl; exact rfl; exact rfl; exact rfl; exact rfl)) | ((with_reducible apply ox_id); first | ((with_reducible apply ox_alloc); exact rfl; intro _)) | ((with_reducible apply ai_id); first | ((with_reducible apply ai_n); exact rfl; exact rfl; exact rfl; exact rfl; (with_reducible apply os_callF (PV := AnyP (playV o (l.take c))) (k := 34) (hc := Try.call34)); exact rfl; exact rfl; exact fun D w1 hw1 => play_T o A cf B cb w1 (hA.ext hw1.ext.ext) (hB.ext hw1.ext.ext) hnA hnB hu hn hn2 (l.take c) L c cl (rows_take (hL.ext hw1.ext.ext) (by omega)) (by omega) (fun d hd => hlk d (List.mem_of_mem_take hd)); rintro v H' ⟨x2, y2, hx2, hy2, rfl, rfl⟩; (simp only [List.append_assoc])) | ((with_reducible apply ai_q); exact rfl; exact rfl; exact rfl; exact rfl; exact rfl) | ((with_reducible apply ai_x); exact rfl; exact rfl; exact rfl; exact rfl; exact rfl) | ((with_reducible apply ai_n0); exact rfl; exact rfl; exact rfl)) | ((with_reducible apply al_keep); focus (repeat (first | exact HpSub.refl _ | (apply HpSub.cons; (repeat (first | exact P0 | apply P1 | apply PA))) | apply HpSub.skipX | apply HpSub.skipApp | exact HpSub.nil))) | ((with_reducible apply rd_id); first | (apply Rd.own; (repeat (first | exact P0 | apply P1 | apply PA)); exact rfl; done)) | ((with_reducible apply t_id); first | (apply t_mix (id := 5) [0, 1, 2, 3] 9 #[false, false, false, false, false, false, false, false, false, false, false, false, false]; kernel_rfl; kernel_rfl; exact rfl)) | exact P0 | (first | (with_reducible apply P1) | (with_reducible apply PA)) | exact Rdn.zero | apply Rdn.succ | ((with_reducible apply Norm.nil); exact rfl) | ((with_reducible apply Norm.cons); exact rfl) | ((with_reducible apply al_id); first | (apply al_done; decide +kernel) | (apply al_one 4; decide +kernel) | (apply al_one 5; decide +kernel) | (apply al_one 6; decide +kernel) | (apply al_one 7; decide +kernel) | (apply al_one 8; decide +kernel) | (apply al_one 9; decide +kernel) | (apply al_one 10; decide +kernel) | (apply al_one 11; decide +kernel) | (apply al_one 12; decide +kernel) | (apply al_two 4 9; decide +kernel) | (apply al_two 5 9; decide +kernel) | (apply al_two 6 7; decide +kernel) | (apply al_two 6 8; decide +kernel) | (apply al_two 6 9; decide +kernel) | (apply al_two 7 8; decide +kernel) | (apply al_two 7 9; decide +kernel) | (apply al_two 7 10; decide +kernel) | (apply al_two 8 9; decide +kernel) | (apply al_two 8 10; decide +kernel) | (apply al_two 8 11; decide +kernel) | (apply al_three 6 7 8; decide +kernel) | (apply al_three 6 7 9; decide +kernel) | (apply al_three 6 8 9; decide +kernel) | (apply al_three 7 8 9; decide +kernel) | (apply al_three 7 8 10; decide +kernel) | (apply al_four 6 7 8 9; decide +kernel)) | exact Nat.le_of_ble_eq_true rfl)
    all_goals (rw [hq] at hx2 hy2)
    all_goals (refine ⟨by trivial, (_, x2, y2), ⟨hx2, hy2⟩, by (simp only [hq]; (repeat (first | exact FrSub.nil | (apply FrSub.cons; exact rfl)))), ?_⟩)
    all_goals (simp only [hq]; (repeat (first | exact HpSub.refl _ | (apply HpSub.consE; (repeat (first | exact P0 | apply P1 | apply PA)); exact rfl) | apply HpSub.appC | apply HpSub.skipX | apply HpSub.skipApp | exact HpSub.nil)))
  rintro ⟨b11, x2, y2⟩ ⟨hx2, hy2⟩
  simp only at hx2 hy2 ⊢
  by_cases hqe : qe = 0
  · have hko := cut_ok (o := o) (l := l) (c := c) (by omega) (by rw [hq]; exact hqe)
    obtain ⟨hv0, hok, hqq⟩ := hko
    rw [hq] at hqq
    simp only [Prod.mk.injEq] at hqq
    obtain ⟨e1, e2, e3⟩ := hqq
    subst e1 e2 e3
    have hO0 := okO hu hv0
    have hOt := stV_ok hO0 (show c ≤ l.length by omega) hok
    have hvt := stV_valid hO0 hv0 (show c ≤ l.length by omega) hok
    by_cases h200 : 200 < nl
    · have hp' := hp
      unfold playV at hp'
      rw [if_pos hv0, if_neg (by omega)] at hp'
      simp only [Prod.mk.injEq] at hp'
      obtain ⟨e1, e2, e3⟩ := hp'
      subst e1 e2 e3
      repeat' (first | ((with_reducible apply oq_id); first | ((with_reducible apply oq_eqlT); exact rfl; exact rfl; exact rfl) | ((with_reducible apply oq_neqF); exact rfl; exact rfl; omega) | ((with_reducible apply oq_gtrT); exact rfl; exact rfl; omega) | (apply oq_fn; exact rfl; first | exact trivial | (refine ⟨?_, ?_⟩ <;> omega) | (refine ⟨?_, ?_, ?_⟩ <;> omega) | omega | skip) | ((with_reducible apply oq_loadAgg); exact rfl; exact rfl) | ((with_reducible apply oq_call (k := 39) (hc := Try.call39)); exact rfl; exact rfl; exact fun D w1 hw1 => checkOk hOt hvt (clA x2) (clC x2) (clA y2) (clC y2) w1 (clH_rows (x := x2) (hw1.sub (show HpSub _ (clH 106 4 ((stV o l c).fl.map depCells).flatten x2) from (by repeat (first | exact HpSub.refl _ | exact HpSub.appLeft | apply HpSub.skipX | apply HpSub.skipApp)))) (fun _ => rfl) rfl hx2) (clH_rows (x := y2) (hw1.sub (show HpSub _ (clH 71 3 ((stV o l c).bk.map bkCells).flatten y2) from (by repeat (first | exact HpSub.refl _ | exact HpSub.appLeft | apply HpSub.skipX | apply HpSub.skipApp)))) (fun _ => rfl) rfl hy2) (nilA hx2) (nilA hy2))) | ((with_reducible apply tl_id); first | ((with_reducible apply tl_nil)) | ((with_reducible apply u_q); exact rfl; exact rfl; exact rfl; exact rfl)) | ((with_reducible apply rd_id); first | (apply Rd.own; (repeat (first | exact P0 | apply P1 | apply PA)); exact rfl; done)) | ((with_reducible apply t_id); first | ((with_reducible apply t_seq)) | (apply t_region; kernel_rfl) | ((with_reducible apply t_condT); exact rfl) | ((with_reducible apply t_condF); exact rfl) | ((with_reducible apply t_ret)) | ((with_reducible apply t_skip))) | with_reducible apply q_thenN | with_reducible apply q_thenR | exact Rdn.zero | apply Rdn.succ | ((with_reducible apply end_ret)) | exact rvs_nil | ((with_reducible apply rvs_cons)) | ((with_reducible apply rv_tmp); exact rfl))
      all_goals rfl
    · have hp1 : playV o l = runV o l := by
        unfold playV
        rw [if_pos hv0, if_pos (by omega)]
      have hpn : po.fl.length ≤ 1000000 := by
        have := (run_len (l := l) hO0).1
        rw [← hp1, hp] at this
        exact this
      have hpn2 : po.bk.length ≤ 1000000 := by
        have := (run_len (l := l) hO0).2
        rw [← hp1, hp] at this
        exact this
      obtain ⟨LD, hLD⟩ : ∃ LD, dropA L c cl 5 = LD := ⟨_, rfl⟩
      have hLd := rows_dropG hL hcn hlc
      rw [hLD] at hLd
      repeat' (first | ((with_reducible apply oq_id); first | (focus ((with_reducible apply (oq_sliceLE (l := c) hLn hLD)); exact rfl; exact rfl; exact rfl; exact rfl; omega)) | ((with_reducible apply oq_neqF); exact rfl; exact rfl; omega) | ((with_reducible apply oq_gtrF); exact rfl; exact rfl; omega) | (apply oq_fn; exact rfl; first | exact trivial | (refine ⟨?_, ?_⟩ <;> omega) | (refine ⟨?_, ?_, ?_⟩ <;> omega) | omega | skip) | ((with_reducible apply oq_loadAgg); exact rfl; exact rfl) | ((with_reducible apply oq_call (k := 39) (hc := Try.call39)); exact rfl; exact rfl; exact fun D w1 hw1 => checkOk hOt hvt (clA x2) (clC x2) (clA y2) (clC y2) w1 (clH_rows (x := x2) (hw1.sub (show HpSub _ (clH 106 4 ((stV o l c).fl.map depCells).flatten x2) from (by repeat (first | exact HpSub.refl _ | exact HpSub.appLeft | apply HpSub.skipX | apply HpSub.skipApp)))) (fun _ => rfl) rfl hx2) (clH_rows (x := y2) (hw1.sub (show HpSub _ (clH 71 3 ((stV o l c).bk.map bkCells).flatten y2) from (by repeat (first | exact HpSub.refl _ | exact HpSub.appLeft | apply HpSub.skipX | apply HpSub.skipApp)))) (fun _ => rfl) rfl hy2) (nilA hx2) (nilA hy2))) | ((with_reducible apply tl_id); first | ((with_reducible apply tl_nil)) | ((with_reducible apply u_q); exact rfl; exact rfl; exact rfl; exact rfl)) | ((with_reducible apply rd_id); first | (apply Rd.own; (repeat (first | exact P0 | apply P1 | apply PA)); exact rfl; done)) | ((with_reducible apply t_id); first | ((with_reducible apply t_seq)) | (apply t_region; kernel_rfl) | ((with_reducible apply t_condF); exact rfl) | ((with_reducible apply t_skip)) | ((with_reducible apply t_block))) | with_reducible apply q_thenN | exact Rdn.zero | apply Rdn.succ)
      apply t_loopK (GH := []) (ι := Nat × Option (Nat × Nat) × Option (Nat × Nat)) [2, 7, 8, 9, 10, 11, 100, 101, 135, 136, 137, 138, 139, 140, 141, 142, 143, 144, 145, 146, 147, 148] (fun z => [(102, .int .i64 (z.1 : Nat))]) (fun z => (b11, offCells (stV o l (c + z.1)) (clA z.2.1) (clC z.2.1) (clA z.2.2) (clC z.2.2), some (25, 7, 1)) :: (flH (stV o l (c + z.1)) z.2.1 ++ (bkH (stV o l (c + z.1)) z.2.2 ++ ((b8, offCells po (clA x1) (clC x1) (clA y1) (clC y1), some (25, 7, 1)) :: (flH po x1 ++ (bkH po y1 ++ ([]))))))) (fun z => z.1 ≤ nl - c ∧ okTo o l (c + z.1) ∧ (z.2.1 = none → (stV o l (c + z.1)).fl.length = 0) ∧ (z.2.2 = none → (stV o l (c + z.1)).bk.length = 0)) (fun z => nl - c - z.1) ((0, x2, y2))
      (repeat (first | exact KeepF.nil | (apply KeepF.cons; exact rfl) | apply KeepF.skip))
      (repeat (first | exact FrSub.nil | (apply FrSub.cons; exact rfl)))
      (simp only [List.append_nil, Nat.add_zero]; (repeat (first | exact HpSub.refl _ | (apply HpSub.consE; (repeat (first | exact P0 | apply P1 | apply PA)); exact rfl) | apply HpSub.appC | apply HpSub.skipX | apply HpSub.skipApp | exact HpSub.nil)))
      · exact ⟨Nat.zero_le _, hok, hx2, hy2⟩
      rintro ⟨k, x, y⟩ ⟨hkl, hokk, hx, hy⟩
      simp only at hkl hokk hx hy
      try simp only [List.cons_append, List.nil_append]
      simp only [List.append_nil]
      have hOk := stV_ok hO0 (by omega) hokk
      have hvk := stV_valid hO0 hv0 (by omega) hokk
      by_cases hlt : k < nl - c
      · obtain ⟨b1, o1, d, rfl, _, hd, c0, c1, c2, c3, c4⟩ := deal_read hLd hlt
        rw [List.getElem?_drop] at hd
        have hdk := hlk d (List.mem_of_getElem? hd)
        by_cases hE : doneE (stV o l (c + k)) d = 0
        · repeat' (first | ((with_reducible apply oq_id); first | (focus ((with_reducible apply oq_indexAddrN); exact rfl; exact rfl; exact rfl; exact rfl; omega)) | ((with_reducible apply oq_lssT); exact rfl; exact rfl; omega) | ((with_reducible apply oq_neqF); exact rfl; exact rfl; omega) | (apply oq_fn; exact rfl; first | exact trivial | (refine ⟨?_, ?_⟩ <;> omega) | (refine ⟨?_, ?_, ?_⟩ <;> omega) | omega | skip) | ((with_reducible apply oq_loadAgg); exact rfl; exact rfl)) | ((with_reducible apply tl_id); first | ((with_reducible apply tl_nil)) | ((with_reducible apply u_s); exact rfl; exact rfl; exact rfl; (with_reducible apply os_callF (PV := AnyV (doneO (stV o l (c + k)) d) 0) (k := 37) (hc := Try.call37)); exact rfl; exact rfl; exact fun D w1 hw1 => cDoY hOk hvk hE (clA x) (clC x) (clA y) (clC y) w1 (clH_rows (x := x) (hw1.sub (show HpSub _ (clH 106 4 ((stV o l (c + k)).fl.map depCells).flatten x) from (by repeat (first | exact HpSub.refl _ | exact HpSub.appLeft | apply HpSub.skipX | apply HpSub.skipApp)))) (fun _ => rfl) rfl hx) (clH_rows (x := y) (hw1.sub (show HpSub _ (clH 71 3 ((stV o l (c + k)).bk.map bkCells).flatten y) from (by repeat (first | exact HpSub.refl _ | exact HpSub.appLeft | apply HpSub.skipX | apply HpSub.skipApp)))) (fun _ => rfl) rfl hy) (nilA hx) (nilA hy) hdk; rintro v H' ⟨x', y', hx', hy', rfl, rfl⟩; (simp only [List.append_assoc])) | ((with_reducible apply u_q); exact rfl; exact rfl; exact rfl; exact rfl) | ((with_reducible apply u_s0); exact rfl; exact rfl) | ((with_reducible apply u_s); exact rfl; exact rfl; exact rfl)) | ((with_reducible apply os_id); first | ((with_reducible apply os_x); exact rfl) | ((with_reducible apply os_storeAgg); exact rfl; exact rfl; exact rfl; exact rfl; exact rfl)) | ((with_reducible apply ox_id); first | ((with_reducible apply ox_alloc); exact rfl; intro _)) | ((with_reducible apply rd_id); first | (apply Rd.own; (repeat (first | exact P0 | apply P1 | apply PA)); exact rfl; done) | (apply Rd.old; (first | (with_reducible assumption) | exact c0 | exact c1 | exact c2 | exact c3 | exact c4 | exact c5 | exact c6 | exact c7 | exact c8 | exact d0 | exact d1 | exact d2 | exact d3 | exact d4 | exact d5); first | exact List.not_mem_nil | exact m0 | exact m1 | exact m2 | exact m3 | exact m4 | exact m5 | exact m6 | exact m7 | exact m8 | exact m9)) | ((with_reducible apply t_id); first | ((with_reducible apply t_seq)) | (apply t_region; kernel_rfl) | ((with_reducible apply t_condT); exact rfl) | ((with_reducible apply t_condF); exact rfl) | ((with_reducible apply t_skip)) | ((with_reducible apply t_block))) | with_reducible apply q_thenN | with_reducible apply q_blockN | exact P0 | (first | (with_reducible apply P1) | (with_reducible apply PA)) | exact Rdn.zero | apply Rdn.succ | ((with_reducible apply Norm.nil); exact rfl) | ((with_reducible apply Norm.cons); exact rfl) | exact Nat.le_of_ble_eq_true rfl)
          all_goals (refine ⟨(k + 1, x', y'), ⟨(by simp only; omega), okTo_succ hokk hd hE, (by simp only; rw [show c + (k + 1) = (c + k) + 1 from rfl, stV_succ hd]; exact hx'), (by simp only; rw [show c + (k + 1) = (c + k) + 1 from rfl, stV_succ hd]; exact hy')⟩, (by simp only; omega), ?_, ?_⟩)
          · try simp only [List.cons_append, List.nil_append]
            (repeat (first | exact FrSub.nil | (apply FrSub.cons; exact rfl)))
          · simp only [show c + (k + 1) = (c + k) + 1 from rfl, stV_succ hd]
            (repeat (first | exact HpSub.refl _ | (apply HpSub.consE; (repeat (first | exact P0 | apply P1 | apply PA)); exact rfl) | apply HpSub.appC | apply HpSub.skipX | apply HpSub.skipApp | exact HpSub.nil))
        · obtain ⟨z, hz⟩ : ∃ z, doneE (stV o l (c + k)) d = z := ⟨_, rfl⟩
          have hp' := hp
          rw [hp1, run_bad hokk hd hE, hz] at hp'
          simp only [Prod.mk.injEq] at hp'
          obtain ⟨e1, e2, e3⟩ := hp'
          subst e1 e2 e3
          have hE' := hE
          rw [hz] at hE'
          repeat' (first | ((with_reducible apply oq_id); first | (focus ((with_reducible apply oq_indexAddrN); exact rfl; exact rfl; exact rfl; exact rfl; omega)) | ((with_reducible apply oq_addE (k := ((c + k : Nat) : Int))); exact rfl; exact rfl; omega) | ((with_reducible apply oq_eqlT); exact rfl; exact rfl; exact rfl) | ((with_reducible apply oq_lssT); exact rfl; exact rfl; omega) | ((with_reducible apply oq_neqT); exact rfl; exact rfl; omega) | (apply oq_fn; exact rfl; first | exact trivial | (refine ⟨?_, ?_⟩ <;> omega) | (refine ⟨?_, ?_, ?_⟩ <;> omega) | omega | skip) | ((with_reducible apply oq_loadAgg); exact rfl; exact rfl) | ((with_reducible apply oq_call (k := 36) (hc := Try.call36)); exact rfl; exact rfl; exact fun D w1 hw1 => sameZero w1 _ _ _ _) | ((with_reducible apply oq_build); exact rfl; exact rfl; exact rfl)) | ((with_reducible apply tl_id); first | ((with_reducible apply tl_nil)) | ((with_reducible apply u_s); exact rfl; exact rfl; exact rfl; (with_reducible apply os_callF (PV := AnyV zeroO z) (k := 37) (hc := Try.call37)); exact rfl; exact rfl; exact fun D w1 hw1 => cDoN hOk hvk hE hz (clA x) (clC x) (clA y) (clC y) w1 (clH_rows (x := x) (hw1.sub (show HpSub _ (clH 106 4 ((stV o l (c + k)).fl.map depCells).flatten x) from (by repeat (first | exact HpSub.refl _ | exact HpSub.appLeft | apply HpSub.skipX | apply HpSub.skipApp)))) (fun _ => rfl) rfl hx) (clH_rows (x := y) (hw1.sub (show HpSub _ (clH 71 3 ((stV o l (c + k)).bk.map bkCells).flatten y) from (by repeat (first | exact HpSub.refl _ | exact HpSub.appLeft | apply HpSub.skipX | apply HpSub.skipApp)))) (fun _ => rfl) rfl hy) (nilA hx) (nilA hy) hdk; rintro v H' ⟨x', y', hx', hy', rfl, rfl⟩; (simp only [List.append_assoc])) | ((with_reducible apply u_q); exact rfl; exact rfl; exact rfl; exact rfl) | ((with_reducible apply u_s0); exact rfl; exact rfl) | ((with_reducible apply u_s); exact rfl; exact rfl; exact rfl)) | ((with_reducible apply os_id); first | ((with_reducible apply os_x); exact rfl) | ((with_reducible apply os_storeAgg); exact rfl; exact rfl; exact rfl; exact rfl; exact rfl)) | ((with_reducible apply ox_id); first | ((with_reducible apply ox_alloc); exact rfl; intro _)) | ((with_reducible apply rd_id); first | (apply Rd.own; (repeat (first | exact P0 | apply P1 | apply PA)); exact rfl; done) | (apply Rd.old; (first | (with_reducible assumption) | exact c0 | exact c1 | exact c2 | exact c3 | exact c4 | exact c5 | exact c6 | exact c7 | exact c8 | exact d0 | exact d1 | exact d2 | exact d3 | exact d4 | exact d5); first | exact List.not_mem_nil | exact m0 | exact m1 | exact m2 | exact m3 | exact m4 | exact m5 | exact m6 | exact m7 | exact m8 | exact m9)) | ((with_reducible apply t_id); first | ((with_reducible apply t_seq)) | (apply t_region; kernel_rfl) | ((with_reducible apply t_condT); exact rfl) | ((with_reducible apply t_ret)) | ((with_reducible apply t_skip)) | ((with_reducible apply t_block))) | with_reducible apply q_thenN | with_reducible apply q_thenR | with_reducible apply q_blockR | exact P0 | exact Rdn.zero | apply Rdn.succ | ((with_reducible apply Norm.nil); exact rfl) | ((with_reducible apply Norm.cons); exact rfl) | ((with_reducible apply end_ret)) | exact rvs_nil | ((with_reducible apply rvs_cons)) | ((with_reducible apply rv_tmp); exact rfl) | exact Nat.le_of_ble_eq_true rfl)
          all_goals rfl
      · have hkn : c + k = l.length := by omega
        have hp' := hp
        rw [hp1, run_all (by rw [← hkn]; exact hokk), ← hkn] at hp'
        simp only [Prod.mk.injEq] at hp'
        obtain ⟨e1, e2, e3⟩ := hp'
        subst e1 e2 e3
        repeat' (first | ((with_reducible apply oq_id); first | ((with_reducible apply oq_eqlT); exact rfl; exact rfl; exact rfl) | ((with_reducible apply oq_lssF); exact rfl; exact rfl; omega) | (apply oq_fn; exact rfl; first | exact trivial | (refine ⟨?_, ?_⟩ <;> omega) | (refine ⟨?_, ?_, ?_⟩ <;> omega) | omega | skip) | ((with_reducible apply oq_loadAgg); exact rfl; exact rfl) | ((with_reducible apply oq_call (k := 36) (hc := Try.call36)); exact rfl; exact rfl; exact fun D w1 hw1 => same_calls (stV o l (c + k)) (clA x1) (clC x1) (clA y1) (clC y1) (clA x) (clC x) (clA y) (clC y) w1 (clH_rows (x := x1) (hw1.sub (show HpSub _ (clH 106 4 ((stV o l (c + k)).fl.map depCells).flatten x1) from (by repeat (first | exact HpSub.refl _ | exact HpSub.appLeft | apply HpSub.skipX | apply HpSub.skipApp)))) (fun _ => rfl) rfl hx1) (clH_rows (x := y1) (hw1.sub (show HpSub _ (clH 71 3 ((stV o l (c + k)).bk.map bkCells).flatten y1) from (by repeat (first | exact HpSub.refl _ | exact HpSub.appLeft | apply HpSub.skipX | apply HpSub.skipApp)))) (fun _ => rfl) rfl hy1) (clH_rows (x := x) (hw1.sub (show HpSub _ (clH 106 4 ((stV o l (c + k)).fl.map depCells).flatten x) from (by repeat (first | exact HpSub.refl _ | exact HpSub.appLeft | apply HpSub.skipX | apply HpSub.skipApp)))) (fun _ => rfl) rfl hx) (clH_rows (x := y) (hw1.sub (show HpSub _ (clH 71 3 ((stV o l (c + k)).bk.map bkCells).flatten y) from (by repeat (first | exact HpSub.refl _ | exact HpSub.appLeft | apply HpSub.skipX | apply HpSub.skipApp)))) (fun _ => rfl) rfl hy) hpn hpn2)) | ((with_reducible apply tl_id); first | ((with_reducible apply tl_nil)) | ((with_reducible apply u_q); exact rfl; exact rfl; exact rfl; exact rfl)) | ((with_reducible apply rd_id); first | (apply Rd.own; (repeat (first | exact P0 | apply P1 | apply PA)); exact rfl; done)) | ((with_reducible apply t_id); first | ((with_reducible apply t_seq)) | (apply t_region; kernel_rfl) | ((with_reducible apply t_condF); exact rfl) | ((with_reducible apply t_ret)) | ((with_reducible apply t_exit))) | with_reducible apply q_thenN | with_reducible apply q_thenE | ((with_reducible apply q_blockE); exact rfl) | exact Rdn.zero | apply Rdn.succ | ((with_reducible apply end_ret)) | exact rvs_nil | ((with_reducible apply rvs_cons)) | ((with_reducible apply rv_tmp); exact rfl))
        all_goals rfl
  · have hcb := cut_bad (o := o) (l := l) (c := c) (by omega) (by rw [hq]; exact hqe)
    rw [hp, hq] at hcb
    simp only at hcb
    have hcb' : (pe = qe ∧ pa = qa) ∨ (pe = qe ∧ ¬ pa = qa ∧ 200 < nl ∧ pe = 4) ∨ (¬ pe = qe ∧ 200 < nl ∧ pe = 4) := by omega
    clear hcb
    rcases hcb' with ⟨h1, h2⟩ | ⟨h1, h2, h3, h4⟩ | ⟨h1, h2, h3⟩
    all_goals (repeat' (first | ((with_reducible apply oq_id); first | ((with_reducible apply oq_neqT); exact rfl; exact rfl; omega) | ((with_reducible apply oq_gtrT); exact rfl; exact rfl; omega) | ((with_reducible apply oq_eqlT); exact rfl; exact rfl; omega) | ((with_reducible apply oq_eqlF); exact rfl; exact rfl; omega) | (apply oq_fn; exact rfl; first | exact trivial | (refine ⟨?_, ?_⟩ <;> omega) | (refine ⟨?_, ?_, ?_⟩ <;> omega) | omega | skip)) | ((with_reducible apply tl_id); first | ((with_reducible apply tl_nil)) | ((with_reducible apply u_q); exact rfl; exact rfl; exact rfl; exact rfl) | ((with_reducible apply u_skip); exact rfl; exact rfl; exact rfl)) | ((with_reducible apply t_id); first | ((with_reducible apply t_seq)) | (apply t_region; kernel_rfl) | ((with_reducible apply t_condT); exact rfl) | ((with_reducible apply t_ret))) | with_reducible apply q_thenN | with_reducible apply q_thenR | ((with_reducible apply end_ret)) | exact rvs_nil | ((with_reducible apply rvs_cons)) | ((with_reducible apply rv_tmp); exact rfl)))
    all_goals rfl

end Go.Proofs.Ytmlmgipngbndgaa
