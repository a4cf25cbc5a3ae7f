/- Deals, one after the other. -/
import Derived.Test.YtmlmgipngbndgaaPkK
import Derived.Test.YtmlmgipngbndgaaPkJ
/- Deals, one after the other: plain laws. -/
namespace Go.Proofs.Ytmlmgipngbndgaa
set_option linter.unusedVariables false
set_option linter.unusedSimpArgs false
/-- The office after the first k deals. -/
def stV (o : Off) (l : List Deal) (k : Nat) : Off := (l.take k).foldl doneO o
/-- The first k deals are done. -/
def okTo (o : Off) (l : List Deal) (k : Nat) : Prop := ∀ j d, j < k → l[j]? = some d → doneE (stV o l j) d = 0
theorem stV_zero (o : Off) (l : List Deal) : stV o l 0 = o := rfl
theorem stV_succ {o : Off} {l : List Deal} {k : Nat} {d : Deal} (h : l[k]? = some d) : stV o l (k + 1) = doneO (stV o l k) d := by
  unfold stV
  rw [List.take_add_one, h, List.foldl_append]
  rfl
theorem stV_cons (o : Off) (d : Deal) (l : List Deal) (k : Nat) : stV o (d :: l) (k + 1) = stV (doneO o d) l k := rfl
theorem okTo_zero (o : Off) (l : List Deal) : okTo o l 0 := fun j d h => by omega
theorem okTo_succ {o : Off} {l : List Deal} {k : Nat} {d : Deal} (h : okTo o l k) (hd : l[k]? = some d) (hE : doneE (stV o l k) d = 0) : okTo o l (k + 1) := fun j e hj he => by
  by_cases hjk : j = k
  · subst hjk
    obtain rfl : d = e := by rw [hd] at he; exact Option.some.inj he
    exact hE
  · exact h j e (by omega) he
theorem stV_ok {o : Off} (hv : OkO o) {l : List Deal} : ∀ {k : Nat}, k ≤ l.length → okTo o l k → OkO (stV o l k)
  | 0, _, _ => hv
  | k + 1, hk, h => by
    obtain ⟨d, hd⟩ : ∃ d, l[k]? = some d := ⟨_, List.getElem?_eq_getElem (by omega)⟩
    rw [stV_succ hd]
    exact done_okO (stV_ok hv (by omega) fun j e hj he => h j e (by omega) he) d (h k d (by omega) hd)
/-- What Play answers for a valid office. -/
def runV (o : Off) : List Deal → Off × Int × Int
  | [] => (o, 0, 0)
  | d :: l => if doneE o d = 0 then (if (runV (doneO o d) l).2.2 = 0 then runV (doneO o d) l else (zeroO, (runV (doneO o d) l).2.1 + 1, (runV (doneO o d) l).2.2)) else (zeroO, 0, doneE o d)
theorem run_all {o : Off} : ∀ {l : List Deal}, okTo o l l.length → runV o l = (stV o l l.length, 0, 0)
  | [], _ => rfl
  | d :: l, h => by
    have h0 : doneE o d = 0 := h 0 d (by simp) rfl
    have ih := run_all (o := doneO o d) (l := l) fun j e hj he => h (j + 1) e (by simpa using hj) he
    unfold runV
    rw [if_pos h0, ih]
    rfl
theorem run_bad : ∀ {l : List Deal} {o : Off} {k : Nat} {d : Deal}, okTo o l k → l[k]? = some d → ¬ doneE (stV o l k) d = 0 → runV o l = (zeroO, (k : Int), doneE (stV o l k) d)
  | [], o, k, d, _, hd, _ => by simp at hd
  | a :: l, o, 0, d, h, hd, hE => by
    obtain rfl : a = d := by simpa using hd
    unfold runV
    rw [if_neg (show ¬ doneE o a = 0 from hE)]
    rfl
  | a :: l, o, k + 1, d, h, hd, hE => by
    have h0 : doneE o a = 0 := h 0 a (by omega) rfl
    have ih := run_bad (l := l) (o := doneO o a) (k := k) (d := d) (fun j e hj he => h (j + 1) e (by omega) he) (by simpa using hd) hE
    unfold runV
    have hE' : ¬ doneE (stV (doneO o a) l k) d = 0 := hE
    rw [if_pos h0, ih]
    simp only [hE', if_false]
    rfl
def playV (o : Off) (l : List Deal) : Off × Int × Int := if officeB o = true then (if l.length ≤ 200 then runV o l else (zeroO, 0, 4)) else (zeroO, 0, 84)
def AnyP (r : Off × Int × Int) (v : Value) (H : Hp) : Prop := ∃ x y, (x = none → r.1.fl.length = 0) ∧ (y = none → r.1.bk.length = 0) ∧ v = .tuple #[.agg ⟨offCells r.1 (clA x) (clC x) (clA y) (clC y)⟩, .int .i64 r.2.1, .int .i64 r.2.2] ∧ H = flH r.1 x ++ bkH r.1 y
theorem deal_read {w : World} {A : Option Addr} {n : Nat} {l : List Deal} (h : RdS w 5 A n (l.map dealCells)) {i : Nat} (hi : i < n) :
    ∃ b o x, A = some ⟨b, o, none⟩ ∧ b < w.heap.size ∧ l[i]? = some x ∧ w.cell? ⟨b, o + i * 5, none⟩ = some (.int .u8 x.kind) ∧ w.cell? ⟨b, o + i * 5 + 1, none⟩ = some (.int .i64 x.n) ∧ w.cell? ⟨b, o + i * 5 + 2, none⟩ = some (.int .i64 x.seats) ∧ w.cell? ⟨b, o + i * 5 + 3, none⟩ = some (.int .i64 x.price) ∧ w.cell? ⟨b, o + i * 5 + 4, none⟩ = some (.int .i64 x.leaves) := by
  obtain ⟨b, o, cs, hA, hb, hx, _, hc⟩ := h.row hi
  simp only [List.getElem?_map, Option.map_eq_some_iff] at hx
  obtain ⟨x, hx, rfl⟩ := hx
  exact ⟨b, o, x, hA, hb, hx, hc 0 _ rfl, hc 1 _ rfl, hc 2 _ rfl, hc 3 _ rfl, hc 4 _ rfl⟩
end Go.Proofs.Ytmlmgipngbndgaa
/- Play. -/
namespace Go.Proofs.Ytmlmgipngbndgaa
open Go.RowKit
attribute [local irreducible] OQ OS OX Rd T TL GX GL AL AI RV wpG SAny Calls
set_option maxRecDepth 100000
set_option maxHeartbeats 2000000
set_option linter.unusedVariables false
set_option linter.unusedSimpArgs false

theorem play_T (o : Off) (A : Option Addr) (cf : Nat) (B : Option Addr) (cb : Nat) (w : World) (hA : RdS w 4 A o.fl.length (o.fl.map depCells)) (hB : RdS w 3 B o.bk.length (o.bk.map bkCells)) (hnA : A = none → o.fl.length = 0 ∧ cf = 0) (hnB : B = none → o.bk.length = 0 ∧ cb = 0) (hu : ∀ d ∈ o.fl, 0 ≤ d.state) (hn : o.fl.length ≤ 1000000) (hn2 : o.bk.length ≤ 1000000) (l : List Deal) (L : Option Addr) (nl cl : Nat) (hL : RdS w 5 L nl (l.map dealCells)) (hln : nl ≤ 1000000) (hlk : ∀ d ∈ l, 0 ≤ d.kind ∧ d.kind ≤ 255) : Calls Try.prog 34 #[.agg ⟨offCells o A cf B cb⟩, .slice L nl cl] w fun e w' => ∃ v H', e = .returned v ∧ AnyP (playV o l) v H' ∧ Has w ⟨[], []⟩ H' w' := by
  have hll := hL.len
  simp only [List.length_map] at hll
  unfold playV
  cases hv : officeB o with
  | false =>
    simp only [Bool.false_eq_true, if_false]
    refine enterF (c := cx w 44) Try.func34 rfl rfl rfl rfl ?_
    repeat' (first | ((with_reducible apply oq_id); first | (apply oq_fn; exact rfl; first | exact trivial | (refine ⟨?_, ?_⟩ <;> omega) | (refine ⟨?_, ?_, ?_⟩ <;> omega) | omega | skip) | ((with_reducible apply oq_loadAgg); exact rfl; exact rfl) | ((with_reducible apply oq_build); exact rfl; exact rfl; exact rfl)) | ((with_reducible apply tl_id); first | ((with_reducible apply tl_nil)) | ((with_reducible apply u_s); exact rfl; exact rfl; exact rfl; (with_reducible apply os_callF (PV := OpenN) (k := 62) (hc := Try.call62)); exact rfl; exact rfl; exact fun D w1 hw1 => openN_T o A cf B cb w1 (hA.ext hw1.ext.ext) (hB.ext hw1.ext.ext) hnA hnB hu hn hn2 hv; rintro v H' ⟨p, rfl, rfl⟩; (try simp only [List.cons_append, List.nil_append])) | ((with_reducible apply u_q); exact rfl; exact rfl; exact rfl; exact rfl) | ((with_reducible apply u_s0); exact rfl; exact rfl) | ((with_reducible apply u_s); exact rfl; exact rfl; exact rfl)) | ((with_reducible apply os_id); first | ((with_reducible apply os_x); exact rfl) | ((with_reducible apply os_storeAgg); exact rfl; exact rfl; exact rfl; exact rfl; exact rfl)) | ((with_reducible apply ox_id); first | ((with_reducible apply ox_alloc); exact rfl; intro _) | ((with_reducible apply ox_boxAgg); exact rfl; intro _)) | ((with_reducible apply rd_id); first | (apply Rd.own; (repeat (first | exact P0 | apply P1 | apply PA)); exact rfl; done)) | ((with_reducible apply t_id); first | ((with_reducible apply t_seq)) | (apply t_region; kernel_rfl) | ((with_reducible apply t_condT); exact rfl) | ((with_reducible apply t_ret))) | with_reducible apply q_thenN | with_reducible apply q_thenR | exact P0 | exact Rdn.zero | apply Rdn.succ | ((with_reducible apply Norm.nil); exact rfl) | ((with_reducible apply Norm.cons); exact rfl) | ((with_reducible apply end_ret)) | exact rvs_nil | ((with_reducible apply rvs_cons)) | ((with_reducible apply rv_tmp); exact rfl) | ((with_reducible apply rv_cellAgg); exact rfl; exact rfl) | exact Nat.le_of_ble_eq_true rfl)
    all_goals exact ⟨_, ⟨none, none, (fun _ => rfl), (fun _ => rfl), rfl, rfl⟩, HpSub.nil⟩
  | true =>
    have hO0 := okO hu hv
    simp only [if_true]
    by_cases h200 : l.length ≤ 200
    · rw [if_pos h200]
      refine enterF (c := cx w 44) Try.func34 rfl rfl rfl rfl ?_
      refine t_cut (ι := Nat × Nat) (fun z => [(1, .slice L nl cl), (2, .pointer (some ⟨z.1, 0, none⟩)), (4, .pointer (some ⟨z.2, 0, none⟩))]) (fun z => (z.2, [.int .i64 0, .int .i64 0, .int .i64 0, .slice none 0 0, .slice none 0 0, .int .i64 0, .int .i64 0], some (25, 7, 1)) :: (z.1, offCells o A cf B cb, some (25, 7, 1)) :: []) (fun _ => True) ?_ ?_
      · repeat' (first | ((with_reducible apply oq_id); first | (apply oq_fn; exact rfl; first | exact trivial | (refine ⟨?_, ?_⟩ <;> omega) | (refine ⟨?_, ?_, ?_⟩ <;> omega) | omega | skip)) | ((with_reducible apply tl_id); first | ((with_reducible apply tl_nil)) | ((with_reducible apply u_q); exact rfl; exact rfl; exact rfl; exact rfl) | ((with_reducible apply u_s); exact rfl; exact rfl; exact rfl)) | ((with_reducible apply os_id); first | ((with_reducible apply os_x); exact rfl)) | ((with_reducible apply ox_id); first | ((with_reducible apply ox_alloc); exact rfl; intro _) | ((with_reducible apply ox_boxAgg); exact rfl; intro _)) | ((with_reducible apply t_id); first | (apply t_region; kernel_rfl)))
        all_goals exact ⟨rfl, (_, _), trivial, by (repeat (first | exact FrSub.nil | (apply FrSub.cons; exact rfl))), by (repeat (first | exact HpSub.refl _ | (apply HpSub.consE; (repeat (first | exact P0 | apply P1 | apply PA)); exact rfl) | exact HpSub.nil))⟩
      rintro ⟨b2, b4⟩ -
      refine t_cut (ι := Nat × Option (Nat × Nat) × Option (Nat × Nat)) (fun z => [(1, .slice L nl cl), (4, .pointer (some ⟨b4, 0, none⟩)), (7, .pointer (some ⟨z.1, 0, none⟩)), (8, .bool true)]) (fun z => (b4, [.int .i64 0, .int .i64 0, .int .i64 0, .slice none 0 0, .slice none 0 0, .int .i64 0, .int .i64 0], some (25, 7, 1)) :: deskH z.1 o z.2.1 z.2.2) (fun z => (z.2.1 = none → o.fl.length = 0) ∧ (z.2.2 = none → o.bk.length = 0)) ?_ ?_
      · repeat' (first | ((with_reducible apply oq_id); first | (apply oq_fn; exact rfl; first | exact trivial | (refine ⟨?_, ?_⟩ <;> omega) | (refine ⟨?_, ?_, ?_⟩ <;> omega) | omega | skip) | ((with_reducible apply oq_loadAgg); exact rfl; exact rfl)) | ((with_reducible apply tl_id); first | ((with_reducible apply tl_nil)) | ((with_reducible apply u_s); exact rfl; exact rfl; exact rfl; (with_reducible apply os_callF (PV := OpenY o) (k := 62) (hc := Try.call62)); exact rfl; exact rfl; exact fun D w1 hw1 => openY_T o A cf B cb w1 (hA.ext hw1.ext.ext) (hB.ext hw1.ext.ext) hnA hnB hu hn hn2 hv; rintro v H' ⟨bd, x, y, hxn, hyn, rfl, rfl⟩; (try simp only [deskH, List.cons_append, List.nil_append, List.append_assoc])) | ((with_reducible apply u_q); exact rfl; exact rfl; exact rfl; exact rfl)) | ((with_reducible apply rd_id); first | (apply Rd.own; (repeat (first | exact P0 | apply P1 | apply PA)); exact rfl; done)) | ((with_reducible apply t_id); first | (apply t_region; kernel_rfl)) | exact Rdn.zero | apply Rdn.succ)
        all_goals (refine ⟨by trivial, (bd, x, y), ⟨hxn, hyn⟩, by (repeat (first | exact FrSub.nil | (apply FrSub.cons; exact rfl))), ?_⟩)
        all_goals ((try unfold deskH); rcases x with _ | ⟨g1, c1⟩ <;> rcases y with _ | ⟨g2, c2⟩ <;> simp only [flH, bkH, clH, clA, clC, List.cons_append, List.nil_append, List.append_nil])
        all_goals (repeat (first | exact HpSub.refl _ | (apply HpSub.consE; (repeat (first | exact P0 | apply P1 | apply PA)); exact rfl) | exact HpSub.nil))
      rintro ⟨bd, x0, y0⟩ ⟨hx0, hy0⟩
      simp only at hx0 hy0 ⊢
      repeat' (first | ((with_reducible apply oq_id); first | ((with_reducible apply oq_gtrF); exact rfl; exact rfl; omega) | (apply oq_fn; exact rfl; first | exact trivial | (refine ⟨?_, ?_⟩ <;> omega) | (refine ⟨?_, ?_, ?_⟩ <;> omega) | omega | skip)) | ((with_reducible apply tl_id); first | ((with_reducible apply tl_nil)) | ((with_reducible apply u_q); exact rfl; exact rfl; exact rfl; exact rfl)) | ((with_reducible apply t_id); first | ((with_reducible apply t_seq)) | (apply t_region; kernel_rfl) | ((with_reducible apply t_condF); exact rfl) | ((with_reducible apply t_skip)) | ((with_reducible apply t_block))) | with_reducible apply q_thenN)
      apply t_loopK (GH := []) (ι := Nat × Option (Nat × Nat) × Option (Nat × Nat)) [4, 7, 24, 25, 40, 41, 42, 43] (fun z => [(26, .int .i64 (z.1 : Nat))]) (fun z => (b4, [.int .i64 0, .int .i64 0, .int .i64 0, .slice none 0 0, .slice none 0 0, .int .i64 0, .int .i64 0], some (25, 7, 1)) :: deskH bd (stV o l z.1) z.2.1 z.2.2) (fun z => z.1 ≤ nl ∧ okTo o l z.1 ∧ (z.2.1 = none → (stV o l z.1).fl.length = 0) ∧ (z.2.2 = none → (stV o l z.1).bk.length = 0)) (fun z => nl - z.1) ((0, x0, y0))
      (repeat (first | exact KeepF.nil | (apply KeepF.cons; exact rfl) | apply KeepF.skip))
      (repeat (first | exact FrSub.nil | (apply FrSub.cons; exact rfl)))
      (rw [List.append_nil]; exact HpSub.refl _)
      · exact ⟨Nat.zero_le _, okTo_zero _ _, hx0, hy0⟩
      rintro ⟨k, x, y⟩ ⟨hkl, hok, hx, hy⟩
      simp only at hkl hok hx hy
      try simp only [List.cons_append, List.nil_append]
      rw [List.append_nil]
      have hO := stV_ok hO0 (by omega) hok
      by_cases hlt : k < nl
      · obtain ⟨b1, o1, d, rfl, _, hd, c0, c1, c2, c3, c4⟩ := deal_read hL hlt
        have hdk := hlk d (List.mem_of_getElem? hd)
        by_cases hE : doneE (stV o l k) d = 0
        · repeat' (first | ((with_reducible apply oq_id); first | (focus ((with_reducible apply oq_indexAddrN); exact rfl; exact rfl; exact rfl; exact rfl; omega)) | ((with_reducible apply oq_lssT); exact rfl; exact rfl; omega) | ((with_reducible apply oq_neqF); exact rfl; exact rfl; omega) | (apply oq_fn; exact rfl; first | exact trivial | (refine ⟨?_, ?_⟩ <;> omega) | (refine ⟨?_, ?_, ?_⟩ <;> omega) | omega | skip) | ((with_reducible apply oq_loadAgg); exact rfl; exact rfl)) | ((with_reducible apply tl_id); first | ((with_reducible apply tl_nil)) | ((with_reducible apply u_s); exact rfl; exact rfl; exact rfl; (with_reducible apply os_callM (PV := fun v H => v = .int .i64 0 ∧ AtW bd (doneO (stV o l k) d) H) (G := deskH bd (stV o l k) x y) (R := [(b4, [.int .i64 0, .int .i64 0, .int .i64 0, .slice none 0 0, .slice none 0 0, .int .i64 0, .int .i64 0], some (25, 7, 1))]) (k := 79) (hc := Try.call79)); exact rfl; exact rfl; (focus ((try unfold deskH); (try unfold flH bkH); rcases x with _ | ⟨gF, cF⟩ <;> rcases y with _ | ⟨gB, cB⟩ <;> simp only [clH, clA, clC, List.nil_append, List.cons_append, List.append_nil] <;> ((repeat (first | exact HpSub.refl _ | (apply HpSub.consE; (repeat (first | exact P0 | apply P1 | apply PA)); exact rfl) | apply HpSub.skipX | apply HpSub.skipX | exact HpSub.nil))))); exact (fun D w1 hw1 hwG => do_ok bd (stV o l k) x y hx hy hO w1 hwG d hE); rintro v H1 ⟨rfl, x', y', hx', hy', rfl⟩) | ((with_reducible apply u_q); exact rfl; exact rfl; exact rfl; exact rfl) | ((with_reducible apply u_s0); exact rfl; exact rfl) | ((with_reducible apply u_s); exact rfl; exact rfl; exact rfl)) | ((with_reducible apply os_id); first | ((with_reducible apply os_x); exact rfl) | ((with_reducible apply os_storeAgg); exact rfl; exact rfl; exact rfl; exact rfl; exact rfl)) | ((with_reducible apply ox_id); first | ((with_reducible apply ox_alloc); exact rfl; intro _)) | ((with_reducible apply rd_id); first | (apply Rd.own; (repeat (first | exact P0 | apply P1 | apply PA)); exact rfl; done) | (apply Rd.old; (first | (with_reducible assumption) | exact c0 | exact c1 | exact c2 | exact c3 | exact c4 | exact c5 | exact c6 | exact c7 | exact c8 | exact d0 | exact d1 | exact d2 | exact d3 | exact d4 | exact d5); first | exact List.not_mem_nil | exact m0 | exact m1 | exact m2 | exact m3 | exact m4 | exact m5 | exact m6 | exact m7 | exact m8 | exact m9)) | ((with_reducible apply t_id); first | ((with_reducible apply t_seq)) | (apply t_region; kernel_rfl) | ((with_reducible apply t_condT); exact rfl) | ((with_reducible apply t_condF); exact rfl) | ((with_reducible apply t_skip)) | ((with_reducible apply t_block))) | with_reducible apply q_thenN | with_reducible apply q_blockN | exact P0 | exact Rdn.zero | apply Rdn.succ | ((with_reducible apply Norm.nil); exact rfl) | ((with_reducible apply Norm.cons); exact rfl) | exact Nat.le_of_ble_eq_true rfl)
          refine ⟨(k + 1, x', y'), ⟨(by simp only; omega), okTo_succ hok hd hE, (by simp only; rw [stV_succ hd]; exact hx'), (by simp only; rw [stV_succ hd]; exact hy')⟩, (by simp only; omega), ?_, ?_⟩
          · try simp only [List.cons_append, List.nil_append]
            (repeat (first | exact FrSub.nil | (apply FrSub.cons; exact rfl)))
          · simp only [stV_succ hd]
            (try unfold deskH); (try unfold flH bkH); rcases x' with _ | ⟨gF, cF⟩ <;> rcases y' with _ | ⟨gB, cB⟩ <;> simp only [clH, clA, clC, List.nil_append, List.cons_append, List.append_nil] <;> ((repeat (first | exact HpSub.refl _ | (apply HpSub.consE; (repeat (first | exact P0 | apply P1 | apply PA)); exact rfl) | apply HpSub.skipX | exact HpSub.nil)))
        · have HD := fun A' cf' B' cb' w1 hD => do_no bd (stV o l k) A' cf' B' cb' w1 hD hO d hdk hE
          obtain ⟨z, hz⟩ : ∃ z, doneE (stV o l k) d = z := ⟨_, rfl⟩
          have hrun := run_bad hok hd hE
          rw [hz] at HD hE hrun
          rw [hrun]
          repeat' (first | ((with_reducible apply oq_id); first | (focus ((with_reducible apply oq_indexAddrN); exact rfl; exact rfl; exact rfl; exact rfl; omega)) | ((with_reducible apply oq_lssT); exact rfl; exact rfl; omega) | ((with_reducible apply oq_neqT); exact rfl; exact rfl; omega) | (apply oq_fn; exact rfl; first | exact trivial | (refine ⟨?_, ?_⟩ <;> omega) | (refine ⟨?_, ?_, ?_⟩ <;> omega) | omega | skip) | ((with_reducible apply oq_loadAgg); exact rfl; exact rfl) | ((with_reducible apply oq_call (k := 79) (hc := Try.call79)); exact rfl; exact rfl; exact fun D w1 hw1 => HD _ _ _ _ w1 (desk_of (o := stV o l k) (x := x) (y := y) hw1 (by (try unfold deskH); (try unfold flH bkH); rcases x with _ | ⟨gF, cF⟩ <;> rcases y with _ | ⟨gB, cB⟩ <;> simp only [clH, clA, clC, List.nil_append, List.cons_append, List.append_nil] <;> ((repeat (first | exact HpSub.refl _ | (apply HpSub.consE; (repeat (first | exact P0 | apply P1 | apply PA)); exact rfl) | apply HpSub.skipX | apply HpSub.skipX | exact HpSub.nil)))) hx hy)) | ((with_reducible apply oq_build); exact rfl; exact rfl; exact rfl)) | ((with_reducible apply tl_id); first | ((with_reducible apply tl_nil)) | ((with_reducible apply u_q); exact rfl; exact rfl; exact rfl; exact rfl) | ((with_reducible apply u_s0); exact rfl; exact rfl) | ((with_reducible apply u_s); exact rfl; exact rfl; exact rfl)) | ((with_reducible apply os_id); first | ((with_reducible apply os_x); exact rfl) | ((with_reducible apply os_storeAgg); exact rfl; exact rfl; exact rfl; exact rfl; exact rfl)) | ((with_reducible apply ox_id); first | ((with_reducible apply ox_alloc); exact rfl; intro _)) | ((with_reducible apply rd_id); first | (apply Rd.own; (repeat (first | exact P0 | apply P1 | apply PA)); exact rfl; done) | (apply Rd.old; (first | (with_reducible assumption) | exact c0 | exact c1 | exact c2 | exact c3 | exact c4 | exact c5 | exact c6 | exact c7 | exact c8 | exact d0 | exact d1 | exact d2 | exact d3 | exact d4 | exact d5); first | exact List.not_mem_nil | exact m0 | exact m1 | exact m2 | exact m3 | exact m4 | exact m5 | exact m6 | exact m7 | exact m8 | exact m9)) | ((with_reducible apply t_id); first | ((with_reducible apply t_seq)) | (apply t_region; kernel_rfl) | ((with_reducible apply t_condT); exact rfl) | ((with_reducible apply t_ret)) | ((with_reducible apply t_skip)) | ((with_reducible apply t_block))) | with_reducible apply q_thenN | with_reducible apply q_thenR | with_reducible apply q_blockR | exact P0 | (first | (with_reducible apply P1) | (with_reducible apply PA)) | exact Rdn.zero | apply Rdn.succ | ((with_reducible apply Norm.nil); exact rfl) | ((with_reducible apply Norm.cons); exact rfl) | ((with_reducible apply end_ret)) | exact rvs_nil | ((with_reducible apply rvs_cons)) | ((with_reducible apply rv_tmp); exact rfl) | ((with_reducible apply rv_cellAgg); exact rfl; exact rfl) | exact Nat.le_of_ble_eq_true rfl)
          all_goals exact ⟨_, ⟨none, none, (fun _ => rfl), (fun _ => rfl), rfl, rfl⟩, HpSub.nil⟩
      · have hkn : k = l.length := by omega
        subst hkn
        rw [run_all hok]
        unfold deskH; simp only [List.cons_append, List.append_nil]
        repeat' (first | ((with_reducible apply oq_id); first | ((with_reducible apply oq_lssF); exact rfl; exact rfl; omega) | (apply oq_fn; exact rfl; first | exact trivial | (refine ⟨?_, ?_⟩ <;> omega) | (refine ⟨?_, ?_, ?_⟩ <;> omega) | omega | skip) | ((with_reducible apply oq_loadAgg); exact rfl; exact rfl)) | ((with_reducible apply tl_id); first | ((with_reducible apply tl_nil)) | ((with_reducible apply u_q); exact rfl; exact rfl; exact rfl; exact rfl) | ((with_reducible apply u_s0); exact rfl; exact rfl)) | ((with_reducible apply os_id); first | ((with_reducible apply os_storeAgg); exact rfl; exact rfl; exact rfl; exact rfl; exact rfl)) | ((with_reducible apply rd_id); first | (apply Rd.own; (repeat (first | exact P0 | apply P1 | apply PA)); exact rfl; done)) | ((with_reducible apply t_id); first | ((with_reducible apply t_seq)) | (apply t_region; kernel_rfl) | ((with_reducible apply t_condF); exact rfl) | ((with_reducible apply t_ret)) | ((with_reducible apply t_exit))) | with_reducible apply q_thenN | with_reducible apply q_thenE | ((with_reducible apply q_blockE); exact rfl) | exact P0 | exact Rdn.zero | apply Rdn.succ | ((with_reducible apply Norm.nil); exact rfl) | ((with_reducible apply Norm.cons); exact rfl) | ((with_reducible apply end_ret)) | exact rvs_nil | ((with_reducible apply rvs_cons)) | ((with_reducible apply rv_tmp); exact rfl) | ((with_reducible apply rv_cellAgg); exact rfl; exact rfl) | exact Nat.le_of_ble_eq_true rfl)
        all_goals (refine ⟨_, ⟨x, y, hx, hy, rfl, rfl⟩, ?_⟩)
        all_goals ((try unfold deskH); (try unfold flH bkH); rcases x with _ | ⟨gF, cF⟩ <;> rcases y with _ | ⟨gB, cB⟩ <;> simp only [clH, clA, clC, List.nil_append, List.cons_append, List.append_nil] <;> ((repeat (first | exact HpSub.refl _ | (apply HpSub.consE; (repeat (first | exact P0 | apply P1 | apply PA)); exact rfl) | apply HpSub.skipX | exact HpSub.nil))))
    · rw [if_neg h200]
      refine enterF (c := cx w 44) Try.func34 rfl rfl rfl rfl ?_
      refine t_cut (ι := Nat × Nat) (fun z => [(1, .slice L nl cl), (2, .pointer (some ⟨z.1, 0, none⟩)), (4, .pointer (some ⟨z.2, 0, none⟩))]) (fun z => (z.2, [.int .i64 0, .int .i64 0, .int .i64 0, .slice none 0 0, .slice none 0 0, .int .i64 0, .int .i64 0], some (25, 7, 1)) :: (z.1, offCells o A cf B cb, some (25, 7, 1)) :: []) (fun _ => True) ?_ ?_
      · repeat' (first | ((with_reducible apply oq_id); first | (apply oq_fn; exact rfl; first | exact trivial | (refine ⟨?_, ?_⟩ <;> omega) | (refine ⟨?_, ?_, ?_⟩ <;> omega) | omega | skip)) | ((with_reducible apply tl_id); first | ((with_reducible apply tl_nil)) | ((with_reducible apply u_q); exact rfl; exact rfl; exact rfl; exact rfl) | ((with_reducible apply u_s); exact rfl; exact rfl; exact rfl)) | ((with_reducible apply os_id); first | ((with_reducible apply os_x); exact rfl)) | ((with_reducible apply ox_id); first | ((with_reducible apply ox_alloc); exact rfl; intro _) | ((with_reducible apply ox_boxAgg); exact rfl; intro _)) | ((with_reducible apply t_id); first | (apply t_region; kernel_rfl)))
        all_goals exact ⟨rfl, (_, _), trivial, by (repeat (first | exact FrSub.nil | (apply FrSub.cons; exact rfl))), by (repeat (first | exact HpSub.refl _ | (apply HpSub.consE; (repeat (first | exact P0 | apply P1 | apply PA)); exact rfl) | exact HpSub.nil))⟩
      rintro ⟨b2, b4⟩ -
      refine t_cut (ι := Nat × Option (Nat × Nat) × Option (Nat × Nat)) (fun z => [(1, .slice L nl cl), (4, .pointer (some ⟨b4, 0, none⟩)), (7, .pointer (some ⟨z.1, 0, none⟩)), (8, .bool true)]) (fun z => (b4, [.int .i64 0, .int .i64 0, .int .i64 0, .slice none 0 0, .slice none 0 0, .int .i64 0, .int .i64 0], some (25, 7, 1)) :: deskH z.1 o z.2.1 z.2.2) (fun z => (z.2.1 = none → o.fl.length = 0) ∧ (z.2.2 = none → o.bk.length = 0)) ?_ ?_
      · repeat' (first | ((with_reducible apply oq_id); first | (apply oq_fn; exact rfl; first | exact trivial | (refine ⟨?_, ?_⟩ <;> omega) | (refine ⟨?_, ?_, ?_⟩ <;> omega) | omega | skip) | ((with_reducible apply oq_loadAgg); exact rfl; exact rfl)) | ((with_reducible apply tl_id); first | ((with_reducible apply tl_nil)) | ((with_reducible apply u_s); exact rfl; exact rfl; exact rfl; (with_reducible apply os_callF (PV := OpenY o) (k := 62) (hc := Try.call62)); exact rfl; exact rfl; exact fun D w1 hw1 => openY_T o A cf B cb w1 (hA.ext hw1.ext.ext) (hB.ext hw1.ext.ext) hnA hnB hu hn hn2 hv; rintro v H' ⟨bd, x, y, hxn, hyn, rfl, rfl⟩; (try simp only [deskH, List.cons_append, List.nil_append, List.append_assoc])) | ((with_reducible apply u_q); exact rfl; exact rfl; exact rfl; exact rfl)) | ((with_reducible apply rd_id); first | (apply Rd.own; (repeat (first | exact P0 | apply P1 | apply PA)); exact rfl; done)) | ((with_reducible apply t_id); first | (apply t_region; kernel_rfl)) | exact Rdn.zero | apply Rdn.succ)
        all_goals (refine ⟨by trivial, (bd, x, y), ⟨hxn, hyn⟩, by (repeat (first | exact FrSub.nil | (apply FrSub.cons; exact rfl))), ?_⟩)
        all_goals ((try unfold deskH); rcases x with _ | ⟨g1, c1⟩ <;> rcases y with _ | ⟨g2, c2⟩ <;> simp only [flH, bkH, clH, clA, clC, List.cons_append, List.nil_append, List.append_nil])
        all_goals (repeat (first | exact HpSub.refl _ | (apply HpSub.consE; (repeat (first | exact P0 | apply P1 | apply PA)); exact rfl) | exact HpSub.nil))
      rintro ⟨bd, x0, y0⟩ ⟨hx0, hy0⟩
      simp only at hx0 hy0 ⊢
      repeat' (first | ((with_reducible apply oq_id); first | ((with_reducible apply oq_gtrT); exact rfl; exact rfl; omega) | (apply oq_fn; exact rfl; first | exact trivial | (refine ⟨?_, ?_⟩ <;> omega) | (refine ⟨?_, ?_, ?_⟩ <;> omega) | omega | skip) | ((with_reducible apply oq_build); exact rfl; exact rfl; exact rfl)) | ((with_reducible apply tl_id); first | ((with_reducible apply tl_nil)) | ((with_reducible apply u_q); exact rfl; exact rfl; exact rfl; exact rfl) | ((with_reducible apply u_s0); exact rfl; exact rfl)) | ((with_reducible apply os_id); first | ((with_reducible apply os_storeAgg); exact rfl; exact rfl; exact rfl; exact rfl; exact rfl)) | ((with_reducible apply rd_id); first | (apply Rd.own; (repeat (first | exact P0 | apply P1 | apply PA)); exact rfl; done)) | ((with_reducible apply t_id); first | ((with_reducible apply t_seq)) | (apply t_region; kernel_rfl) | ((with_reducible apply t_condT); exact rfl) | ((with_reducible apply t_condF); exact rfl) | ((with_reducible apply t_ret)) | ((with_reducible apply t_skip))) | with_reducible apply q_thenN | with_reducible apply q_thenR | exact P0 | exact Rdn.zero | apply Rdn.succ | ((with_reducible apply Norm.nil); exact rfl) | ((with_reducible apply Norm.cons); exact rfl) | ((with_reducible apply end_ret)) | exact rvs_nil | ((with_reducible apply rvs_cons)) | ((with_reducible apply rv_tmp); exact rfl) | ((with_reducible apply rv_cellAgg); exact rfl; exact rfl) | exact Nat.le_of_ble_eq_true rfl)
      all_goals exact ⟨_, ⟨none, none, (fun _ => rfl), (fun _ => rfl), rfl, rfl⟩, HpSub.nil⟩

end Go.Proofs.Ytmlmgipngbndgaa
/- Blocks in appended lists. -/
namespace Go.Proofs.Ytmlmgipngbndgaa
open Go.RowKit
set_option linter.unusedVariables false
set_option linter.unusedSimpArgs false
theorem HpSub.appLeft {G R : Hp} : HpSub (G ++ R) G := by
  induction G with
  | nil => exact HpSub.nil
  | cons x G ih => obtain ⟨b, C, g⟩ := x; exact HpSub.cons P0 ih
theorem HpSub.skipApp {G R X : Hp} (h : HpSub R X) : HpSub (G ++ R) X := by
  induction G with
  | nil => exact h
  | cons x G ih => exact HpSub.skipX ih
theorem HpSub.appC {A H G : Hp} (h : HpSub H G) : HpSub (A ++ H) (A ++ G) := by
  induction A with
  | nil => exact h
  | cons x A ih => obtain ⟨b, C, g⟩ := x; exact HpSub.cons P0 ih
theorem nilA {n : Nat} {x : Option (Nat × Nat)} (hx : x = none → n = 0) : clA x = none → n = 0 ∧ clC x = 0 := by
  rcases x with _ | ⟨a, b⟩
  · exact fun _ => ⟨hx rfl, rfl⟩
  · intro h; cases h
end Go.Proofs.Ytmlmgipngbndgaa
