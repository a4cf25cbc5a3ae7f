/- The office at work: valid or not; counts. -/
import Derived.Test.YtmlmgipngbndgaaPkC
import Derived.Test.YtmlmgipngbndgaaPkB
/- The desk: small functions that only read. -/
namespace Go.Proofs.Ytmlmgipngbndgaa
open Go.RowKit
attribute [local irreducible] OQ OS OX Rd T TL GX GL AL AI RV wpG SAny Calls
set_option maxRecDepth 100000
set_option maxHeartbeats 2000000
set_option linter.unusedVariables false
set_option linter.unusedSimpArgs false

def u8Cells (z : Int) : List Value := [.int .u8 z]
theorem u8_read {w : World} {A : Option Addr} {n : Nat} {l : List Int} (h : RdS w 1 A n (l.map u8Cells)) {i : Nat} (hi : i < n) :
    ∃ b o x, A = some ⟨b, o, none⟩ ∧ b < w.heap.size ∧ l[i]? = some x ∧ w.cell? ⟨b, o + i * 1, none⟩ = some (.int .u8 x) := by
  obtain ⟨b, o, cs, hA, hb, hx, _, hc⟩ := h.row hi
  simp only [List.getElem?_map, Option.map_eq_some_iff] at hx
  obtain ⟨x, hx, rfl⟩ := hx
  exact ⟨b, o, x, hA, hb, hx, hc 0 _ rfl⟩

theorem indexU8_calls (z : Int) (A : Option Addr) (n c : Nat) (l : List Int) (w : World) (hr : RdS w 1 A n (l.map u8Cells)) (hn : n ≤ 1000000)  :
    Calls Try.prog 120 #[.slice A n c, .int .u8 z] w fun e w' => e = .returned (.int .i64 (idxV (fun x => decide (z = x)) l)) ∧ Ext w w' := by
  have hl := hr.len
  simp only [List.length_map] at hl
  
  refine enterQ (c := cx w 19) Try.func120 rfl rfl rfl rfl ?_
  repeat' (first | ((with_reducible apply oq_id); first | (apply oq_fn; exact rfl; first | exact trivial | (refine ⟨?_, ?_⟩ <;> omega) | (refine ⟨?_, ?_, ?_⟩ <;> omega) | omega | skip)) | ((with_reducible apply tl_id); first | ((with_reducible apply tl_nil)) | ((with_reducible apply u_q); exact rfl; exact rfl; exact rfl; exact rfl)) | ((with_reducible apply t_id); first | ((with_reducible apply t_seq)) | (apply t_region; kernel_rfl) | ((with_reducible apply t_block))) | with_reducible apply q_thenN)
  apply t_loopK (ι := Nat) [0, 1, 7] (fun k => [(8, .int .i64 (k : Nat))]) (fun _ => []) (fun k => k ≤ n ∧ ∀ x ∈ l.take k, (fun x => decide (z = x)) x = false) (fun k => n - k) (0)
  (repeat (first | exact KeepF.nil | (apply KeepF.cons; exact rfl) | apply KeepF.skip))
  (repeat (first | exact FrSub.nil | (apply FrSub.cons; exact rfl)))
  (repeat (first | exact HpSub.refl _ | (apply HpSub.consE; (repeat (first | exact P0 | apply P1)); exact rfl) | exact HpSub.nil))
  · exact ⟨by omega, by simp⟩
  rintro k ⟨hk, hkp⟩
  try simp only [List.cons_append, List.nil_append]
  by_cases hlt : k < n
  · obtain ⟨b1, o1, x, rfl, _, hx, c0⟩ := u8_read hr hlt
    
    cases hpx : (fun x => decide (z = x)) x with
    | true =>
      have hpe := hpx; simp only [decide_eq_true_eq, decide_eq_false_iff_not] at hpe
      repeat' (first | ((with_reducible apply oq_id); first | (focus ((with_reducible apply oq_indexAddrN); exact rfl; exact rfl; exact rfl; exact rfl; omega)) | (apply oq_fn; exact rfl; first | exact trivial | (refine ⟨?_, ?_⟩ <;> omega) | (refine ⟨?_, ?_, ?_⟩ <;> omega) | omega | skip) | ((with_reducible apply oq_load); exact rfl; exact rfl)) | ((with_reducible apply tl_id); first | ((with_reducible apply tl_nil)) | ((with_reducible apply u_q); exact rfl; exact rfl; exact rfl; exact rfl)) | ((with_reducible apply rd_id); first | (apply Rd.old; (first | (with_reducible assumption) | exact c0 | exact c1 | exact c2 | exact c3 | exact c4 | exact c5 | exact c6 | exact c7 | exact c8 | exact d0 | exact d1 | exact d2 | exact d3 | exact d4 | exact d5); first | exact List.not_mem_nil | exact m0 | exact m1 | exact m2 | exact m3 | exact m4 | exact m5 | exact m6 | exact m7 | exact m8 | exact m9)) | ((with_reducible apply t_id); first | ((with_reducible apply t_seq)) | (apply t_region; kernel_rfl) | ((with_reducible apply t_condD); exact rfl; all_goals first | (intro hp; try (exfalso; omega)) | skip) | ((with_reducible apply t_ret)) | ((with_reducible apply t_skip)) | ((with_reducible apply t_block))) | with_reducible apply q_thenN | with_reducible apply q_thenR | with_reducible apply q_blockR | ((with_reducible apply end_ret)) | exact rvs_nil | ((with_reducible apply rvs_cons)) | ((with_reducible apply rv_tmp); exact rfl))
      rw [idxV_some hx hpx hkp]; rfl
    | false =>
      have hpe := hpx; simp only [decide_eq_true_eq, decide_eq_false_iff_not] at hpe
      repeat' (first | ((with_reducible apply oq_id); first | (focus ((with_reducible apply oq_indexAddrN); exact rfl; exact rfl; exact rfl; exact rfl; omega)) | (apply oq_fn; exact rfl; first | exact trivial | (refine ⟨?_, ?_⟩ <;> omega) | (refine ⟨?_, ?_, ?_⟩ <;> omega) | omega | skip) | ((with_reducible apply oq_load); exact rfl; exact rfl)) | ((with_reducible apply tl_id); first | ((with_reducible apply tl_nil)) | ((with_reducible apply u_q); exact rfl; exact rfl; exact rfl; exact rfl)) | ((with_reducible apply rd_id); first | (apply Rd.old; (first | (with_reducible assumption) | exact c0 | exact c1 | exact c2 | exact c3 | exact c4 | exact c5 | exact c6 | exact c7 | exact c8 | exact d0 | exact d1 | exact d2 | exact d3 | exact d4 | exact d5); first | exact List.not_mem_nil | exact m0 | exact m1 | exact m2 | exact m3 | exact m4 | exact m5 | exact m6 | exact m7 | exact m8 | exact m9)) | ((with_reducible apply t_id); first | ((with_reducible apply t_seq)) | (apply t_region; kernel_rfl) | ((with_reducible apply t_condD); exact rfl; all_goals first | (intro hp; try (exfalso; omega)) | skip) | ((with_reducible apply t_skip)) | ((with_reducible apply t_block))) | with_reducible apply q_thenN | with_reducible apply q_blockN)
      refine ⟨k + 1, ⟨by omega, fun y hy => ?_⟩, by omega, ?_, ?_⟩
      · rw [List.take_add_one, hx, List.mem_append] at hy
        rcases hy with hy | hy
        · exact hkp y hy
        · obtain rfl : y = x := by simpa using hy
          exact hpx
      · try simp only [List.cons_append, List.nil_append]
        (repeat (first | exact FrSub.nil | (apply FrSub.cons; exact rfl)))
      · try simp only [List.cons_append, List.nil_append]
        (repeat (first | exact HpSub.refl _ | (apply HpSub.consE; (repeat (first | exact P0 | apply P1)); exact rfl) | exact HpSub.nil))
  · repeat' (first | ((with_reducible apply oq_id); first | (apply oq_fn; exact rfl; first | exact trivial | (refine ⟨?_, ?_⟩ <;> omega) | (refine ⟨?_, ?_, ?_⟩ <;> omega) | omega | skip)) | ((with_reducible apply tl_id); first | ((with_reducible apply tl_nil)) | ((with_reducible apply u_q); exact rfl; exact rfl; exact rfl; exact rfl)) | ((with_reducible apply t_id); first | ((with_reducible apply t_seq)) | (apply t_region; kernel_rfl) | ((with_reducible apply t_condD); exact rfl; all_goals first | (intro hp; try (exfalso; omega)) | skip) | ((with_reducible apply t_ret)) | ((with_reducible apply t_exit))) | with_reducible apply q_thenN | with_reducible apply q_thenE | ((with_reducible apply q_blockE); exact rfl) | ((with_reducible apply end_ret)) | exact rvs_nil | ((with_reducible apply rvs_cons)) | ((with_reducible apply rv_tmp); exact rfl))
    rw [idxV_none (fun y hy => hkp y (by rw [List.take_of_length_le (by omega)]; exact hy))]; rfl

theorem containsU8_calls (z : Int) (A : Option Addr) (n c : Nat) (l : List Int) (w : World) (hr : RdS w 1 A n (l.map u8Cells)) (hn : n ≤ 1000000) : Calls Try.prog 101 #[.slice A n c, .int .u8 z] w fun e w' => e = .returned (.bool (l.any fun x => decide (z = x))) ∧ Ext w w' := by
  
  refine enterQ (c := cx w 9) Try.func101 rfl rfl rfl rfl ?_
  repeat' (first | ((with_reducible apply oq_id); first | (apply oq_fn; exact rfl; first | exact trivial | (refine ⟨?_, ?_⟩ <;> omega) | (refine ⟨?_, ?_, ?_⟩ <;> omega) | omega | skip) | ((with_reducible apply oq_call (k := 120) (hc := Try.call120)); exact rfl; exact rfl; exact fun D w1 hw1 => indexU8_calls z A n c l w1 (hr.ext hw1.ext.ext) hn)) | ((with_reducible apply tl_id); first | ((with_reducible apply tl_nil)) | ((with_reducible apply u_q); exact rfl; exact rfl; exact rfl; exact rfl)) | ((with_reducible apply t_id); first | ((with_reducible apply t_seq)) | (apply t_region; kernel_rfl) | ((with_reducible apply t_ret))) | with_reducible apply q_thenN | ((with_reducible apply end_ret)) | exact rvs_nil | ((with_reducible apply rvs_cons)) | ((with_reducible apply rv_tmp); exact rfl))
  all_goals (rw [← idxV_any]; rfl)

theorem fine_calls (a b c s : Int) (w : World) : Calls Try.prog 94 #[.agg #[.int .i64 a, .int .i64 b, .int .i64 c, .int .u8 s]] w fun e w' => e = .returned (.bool (depOk ⟨a, b, c, s⟩)) ∧ Ext w w' := by
  obtain ⟨q1, h1⟩ : ∃ q, allFrom 0 50 [a] = q := ⟨_, rfl⟩
  obtain ⟨q2, h2⟩ : ∃ q, allFrom 0 1000000 [b] = q := ⟨_, rfl⟩
  obtain ⟨q3, h3⟩ : ∃ q, allFrom 0 1000000 [c] = q := ⟨_, rfl⟩
  have key : depOk ⟨a, b, c, s⟩ = (q1 && q2 && q3 && decide (s ≤ 2)) := by
    rw [← h1, ← h2, ← h3]
    unfold depOk allFrom
    simp
  rw [key]
  refine enterQ (c := cx w 24) Try.func94 rfl rfl rfl rfl ?_
  repeat' (first | ((with_reducible apply oq_id); first | (apply oq_fn; exact rfl; first | exact trivial | (refine ⟨?_, ?_⟩ <;> omega) | (refine ⟨?_, ?_, ?_⟩ <;> omega) | omega | skip) | ((with_reducible apply oq_load); exact rfl; exact rfl) | ((with_reducible apply oq_call (k := 63) (hc := Try.call63)); exact rfl; exact rfl; exact fun D w1 hw1 => fromOne h1 hw1 (by (repeat (first | exact P0 | apply P1)))) | ((with_reducible apply oq_call (k := 63) (hc := Try.call63)); exact rfl; exact rfl; exact fun D w1 hw1 => fromOne h2 hw1 (by (repeat (first | exact P0 | apply P1)))) | ((with_reducible apply oq_call (k := 63) (hc := Try.call63)); exact rfl; exact rfl; exact fun D w1 hw1 => fromOne h3 hw1 (by (repeat (first | exact P0 | apply P1))))) | ((with_reducible apply tl_id); first | ((with_reducible apply tl_nil)) | ((with_reducible apply u_q); exact rfl; exact rfl; exact rfl; exact rfl) | ((with_reducible apply u_s); exact rfl; exact rfl; exact rfl) | ((with_reducible apply u_skip); exact rfl; exact rfl; exact rfl) | ((with_reducible apply u_split); exact rfl; exact rfl; all_goals first | intro hp | skip)) | ((with_reducible apply os_id); first | ((with_reducible apply os_x); exact rfl)) | ((with_reducible apply ox_id); first | ((with_reducible apply ox_boxAgg); exact rfl; intro _) | ((with_reducible apply ox_buildSlice1); exact rfl; exact rfl; exact rfl; exact rfl; exact rfl; exact rfl; intro _)) | ((with_reducible apply rd_id); first | (apply Rd.own; (repeat (first | exact P0 | apply P1)); exact rfl; done)) | ((with_reducible apply t_id); first | ((with_reducible apply t_seq)) | (apply t_region; kernel_rfl) | ((with_reducible apply t_ret))) | with_reducible apply q_thenN | ((with_reducible apply end_ret)) | exact rvs_nil | ((with_reducible apply rvs_cons)) | ((with_reducible apply rv_tmp); exact rfl))
  all_goals (cases q1 <;> cases q2 <;> cases q3 <;> first | rfl | simp_all)

/-- An office at work lies in block bd. -/
structure Desk (w : World) (bd : Nat) (o : Off) (A : Option Addr) (cf : Nat) (B : Option Addr) (cb : Nat) : Prop where
  now : w.cell? ⟨bd, 0, none⟩ = some (.int .i64 o.now)
  notice : w.cell? ⟨bd, 1, none⟩ = some (.int .i64 o.notice)
  fee : w.cell? ⟨bd, 2, none⟩ = some (.int .i64 o.fee)
  fls : w.cell? ⟨bd, 3, none⟩ = some (.slice A o.fl.length cf)
  bks : w.cell? ⟨bd, 4, none⟩ = some (.slice B o.bk.length cb)
  inn : w.cell? ⟨bd, 5, none⟩ = some (.int .i64 o.inn)
  out : w.cell? ⟨bd, 6, none⟩ = some (.int .i64 o.out)
  fl : RdS w 4 A o.fl.length (o.fl.map depCells)
  bk : RdS w 3 B o.bk.length (o.bk.map bkCells)
theorem Desk.ext {w w' : World} {bd : Nat} {o : Off} {A : Option Addr} {cf : Nat} {B : Option Addr} {cb : Nat} (h : Desk w bd o A cf B cb) (e : Ext w w') : Desk w' bd o A cf B cb :=
  ⟨e.cell h.now, e.cell h.notice, e.cell h.fee, e.cell h.fls, e.cell h.bks, e.cell h.inn, e.cell h.out, h.fl.ext e, h.bk.ext e⟩

theorem deskFee_calls (bd : Nat) (o : Off) (A : Option Addr) (cf : Nat) (B : Option Addr) (cb : Nat) (w : World) (hD : Desk w bd o A cf B cb) (hd : DepsOk o.fl) (hf : 0 ≤ o.fee ∧ o.fee ≤ 100) (i : Nat) (d : Dep) (hi : o.fl[i]? = some d) : Calls Try.prog 118 #[.pointer (some ⟨bd, 0, none⟩), .int .i64 (i : Int)] w fun e w' => e = .returned (.int .i64 (feeV d.price o.fee)) ∧ Ext w w' := by
  have hil := (List.getElem?_eq_some_iff.1 hi).1
  have d2 := hD.fee
  have d3 := hD.fls
  have hA := hD.fl
  obtain ⟨b1, o1, x, hA1, _, hx, c0, c1, c2, c3⟩ := dep_read hA hil
  obtain rfl : d = x := by rw [hi] at hx; exact Option.some.inj hx
  have hdi := depOk_in (hd d (List.mem_of_getElem? hi)).1
  have hfi := fee_in (price := d.price) (fee := o.fee) (by omega) hf
  obtain ⟨P, hP⟩ : ∃ P, d.price * o.fee = P := ⟨_, rfl⟩
  unfold feeV at hfi ⊢
  rw [hP] at hfi ⊢
  subst hA1
  refine enterQ (c := cx w 21) Try.func118 rfl rfl rfl rfl ?_
  repeat' (first | ((with_reducible apply oq_id); first | (focus ((with_reducible apply oq_indexAddrN); exact rfl; exact rfl; exact rfl; exact rfl; omega)) | (focus ((with_reducible apply oq_mulE (k := P)); exact rfl; exact rfl; exact hP; omega)) | (apply oq_fn; exact rfl; first | exact trivial | (refine ⟨?_, ?_⟩ <;> omega) | (refine ⟨?_, ?_, ?_⟩ <;> omega) | omega | skip) | ((with_reducible apply oq_load); exact rfl; exact rfl)) | ((with_reducible apply tl_id); first | ((with_reducible apply tl_nil)) | ((with_reducible apply u_q); exact rfl; exact rfl; exact rfl; exact rfl)) | ((with_reducible apply gx_id); first | ((with_reducible apply v_nil)) | ((with_reducible apply v_q); exact rfl; exact rfl; exact rfl)) | ((with_reducible apply rd_id); first | (apply Rd.old; (first | (with_reducible assumption) | exact c0 | exact c1 | exact c2 | exact c3 | exact c4 | exact c5 | exact c6 | exact c7 | exact c8 | exact d0 | exact d1 | exact d2 | exact d3 | exact d4 | exact d5); first | exact List.not_mem_nil | exact m0 | exact m1 | exact m2 | exact m3 | exact m4 | exact m5 | exact m6 | exact m7 | exact m8 | exact m9)) | ((with_reducible apply t_id); first | ((with_reducible apply t_seq)) | (apply t_region; kernel_rfl) | (apply t_drawn; kernel_rfl; decide +kernel; try simp only [List.append_eq, List.cons_append, List.nil_append]) | ((with_reducible apply t_ret))) | with_reducible apply q_thenN | ((with_reducible apply end_ret)) | exact rvs_nil | ((with_reducible apply rvs_cons)) | ((with_reducible apply rv_tmp); exact rfl))
  all_goals rfl

theorem purse_calls (bd : Nat) (o : Off) (A : Option Addr) (cf : Nat) (B : Option Addr) (cb : Nat) (w : World) (hD : Desk w bd o A cf B cb) (hd : DepsOk o.fl) (hb : BksOk o.fl o.bk) (hb2 : ∀ x ∈ o.bk, x.state = 1 ∨ x.state = 2 ∨ x.state = 3 ∨ x.state = 4) (hn : o.bk.length ≤ 1000) : Calls Try.prog 68 #[.pointer (some ⟨bd, 0, none⟩)] w fun e w' => e = .returned (.agg #[.int .i64 (sumsV o.fl o.bk).held, .int .i64 (sumsV o.fl o.bk).earned, .int .i64 (sumsV o.fl o.bk).kept, .int .i64 (sumsV o.fl o.bk).back]) ∧ Ext w w' := by
  have d3 := hD.fls
  have d4 := hD.bks
  have hA := hD.fl
  have hB := hD.bk
  refine enterQ (c := cx w 59) Try.func68 rfl rfl rfl rfl ?_
  repeat' (first | ((with_reducible apply oq_id); first | (apply oq_fn; exact rfl; first | exact trivial | (refine ⟨?_, ?_⟩ <;> omega) | (refine ⟨?_, ?_, ?_⟩ <;> omega) | omega | skip) | ((with_reducible apply oq_load); exact rfl; exact rfl)) | ((with_reducible apply tl_id); first | ((with_reducible apply tl_nil)) | ((with_reducible apply u_q); exact rfl; exact rfl; exact rfl; exact rfl) | ((with_reducible apply u_s); exact rfl; exact rfl; exact rfl)) | ((with_reducible apply os_id); first | ((with_reducible apply os_x); exact rfl)) | ((with_reducible apply ox_id); first | ((with_reducible apply ox_alloc); exact rfl; intro _)) | ((with_reducible apply rd_id); first | (apply Rd.old; (first | (with_reducible assumption) | exact c0 | exact c1 | exact c2 | exact c3 | exact c4 | exact c5 | exact c6 | exact c7 | exact c8 | exact d0 | exact d1 | exact d2 | exact d3 | exact d4 | exact d5); first | exact List.not_mem_nil | exact m0 | exact m1 | exact m2 | exact m3 | exact m4 | exact m5 | exact m6 | exact m7 | exact m8 | exact m9)) | ((with_reducible apply t_id); first | ((with_reducible apply t_seq)) | (apply t_region; kernel_rfl) | ((with_reducible apply t_block))) | with_reducible apply q_thenN)
  rename_i br bp
  apply t_loopK (ι := Nat) [0, 2, 3, 11, 12, 58] (fun k => [(13, .int .i64 (k : Nat))]) (fun k => [(bp, [.int .i64 (sumsTo o.fl o.bk k).held, .int .i64 (sumsTo o.fl o.bk k).earned, .int .i64 (sumsTo o.fl o.bk k).kept, .int .i64 (sumsTo o.fl o.bk k).back], some (129, 4, 1))]) (fun k => k ≤ o.bk.length) (fun k => o.bk.length - k) (0)
  (repeat (first | exact KeepF.nil | (apply KeepF.cons; exact rfl) | apply KeepF.skip))
  (repeat (first | exact FrSub.nil | (apply FrSub.cons; exact rfl)))
  (repeat (first | exact HpSub.refl _ | (apply HpSub.consE; (repeat (first | exact P0 | apply P1)); exact rfl) | exact HpSub.nil))
  · exact Nat.zero_le _
  rintro k hk
  try simp only [List.cons_append, List.nil_append]
  have hin := sums_in hd hb hk
  obtain ⟨S, hS⟩ : ∃ q, sumsTo o.fl o.bk k = q := ⟨_, rfl⟩
  rw [hS] at hin ⊢
  obtain ⟨p1, p2, p3, p4⟩ := S
  unfold Small at hin
  simp only at hin ⊢
  by_cases hlt : k < o.bk.length
  · obtain ⟨b1, o1, x, hB1, _, hx, c0, c1, c2⟩ := bk_read hB hlt
    have hxb := hb x (List.mem_of_getElem? hx)
    have hx4 := hb2 x (List.mem_of_getElem? hx)
    obtain ⟨i, hfi⟩ : ∃ i : Nat, x.flight = (i : Int) := ⟨x.flight.toNat, by omega⟩
    obtain ⟨b2, o2, d, hA1, _, hd1, c4, c5, c6, c7⟩ := dep_read hA (show i < o.fl.length by omega)
    have hdi := depOk_in (hd d (List.mem_of_getElem? hd1)).1
    have hpr := prc_at hfi hd1
    rw [hfi] at c0
    subst hA1 hB1
    by_cases h1 : x.state = 1
    · have hs : sumsTo o.fl o.bk (k + 1) = ⟨p1 + d.price, p2, p3, p4⟩ := by rw [sums_succ hx, hS]; unfold addB; simp [h1, hpr]
      repeat' (first | ((with_reducible apply oq_id); first | (focus ((with_reducible apply oq_indexAddrN); exact rfl; exact rfl; exact rfl; exact rfl; omega)) | (apply oq_fn; exact rfl; first | exact trivial | (refine ⟨?_, ?_⟩ <;> omega) | (refine ⟨?_, ?_, ?_⟩ <;> omega) | omega | skip) | ((with_reducible apply oq_load); exact rfl; exact rfl) | ((with_reducible apply oq_loadAgg); exact rfl; exact rfl)) | ((with_reducible apply tl_id); first | ((with_reducible apply tl_nil)) | ((with_reducible apply u_q); exact rfl; exact rfl; exact rfl; exact rfl) | ((with_reducible apply u_s0); exact rfl; exact rfl) | ((with_reducible apply u_s); exact rfl; exact rfl; exact rfl)) | ((with_reducible apply gx_id); first | ((with_reducible apply v_nil)) | ((with_reducible apply v_q); exact rfl; exact rfl; exact rfl)) | ((with_reducible apply os_id); first | ((with_reducible apply os_x); exact rfl) | ((with_reducible apply os_store); exact rfl; exact rfl; exact rfl; exact rfl) | ((with_reducible apply os_storeAgg); exact rfl; exact rfl; exact rfl; exact rfl; exact rfl)) | ((with_reducible apply ox_id); first | ((with_reducible apply ox_alloc); exact rfl; intro _)) | ((with_reducible apply rd_id); first | (apply Rd.own; (repeat (first | exact P0 | apply P1)); exact rfl; done) | (apply Rd.old; (first | (with_reducible assumption) | exact c0 | exact c1 | exact c2 | exact c3 | exact c4 | exact c5 | exact c6 | exact c7 | exact c8 | exact d0 | exact d1 | exact d2 | exact d3 | exact d4 | exact d5); first | exact List.not_mem_nil | exact m0 | exact m1 | exact m2 | exact m3 | exact m4 | exact m5 | exact m6 | exact m7 | exact m8 | exact m9)) | ((with_reducible apply t_id); first | ((with_reducible apply t_seq)) | (apply t_region; kernel_rfl) | (apply t_drawn; kernel_rfl; decide +kernel; try simp only [List.append_eq, List.cons_append, List.nil_append]) | ((with_reducible apply t_condD); exact rfl; all_goals first | (intro hp; try (exfalso; omega)) | skip) | ((with_reducible apply t_skip)) | ((with_reducible apply t_block))) | with_reducible apply q_thenN | with_reducible apply q_blockN | exact P0 | ((with_reducible apply P1)) | exact Rdn.zero | apply Rdn.succ | ((with_reducible apply Norm.nil); exact rfl) | ((with_reducible apply Norm.cons); exact rfl) | exact Nat.le_of_ble_eq_true rfl)
      all_goals (refine ⟨k + 1, by omega, by omega, ?_, ?_⟩)
      all_goals ((try simp only [List.cons_append, List.nil_append]); (repeat' (first | exact FrSub.nil | (apply FrSub.cons; exact rfl) | (apply HpSub.consE; (repeat (first | exact P0 | apply P1)); first | exact rfl | (focus (simp only [hs]))) | exact HpSub.nil)))
    · by_cases h2 : x.state = 2
      · have hs : sumsTo o.fl o.bk (k + 1) = ⟨p1 + d.price, p2, p3, p4⟩ := by rw [sums_succ hx, hS]; unfold addB; simp [h2, hpr]
        repeat' (first | ((with_reducible apply oq_id); first | (focus ((with_reducible apply oq_indexAddrN); exact rfl; exact rfl; exact rfl; exact rfl; omega)) | (apply oq_fn; exact rfl; first | exact trivial | (refine ⟨?_, ?_⟩ <;> omega) | (refine ⟨?_, ?_, ?_⟩ <;> omega) | omega | skip) | ((with_reducible apply oq_load); exact rfl; exact rfl) | ((with_reducible apply oq_loadAgg); exact rfl; exact rfl)) | ((with_reducible apply tl_id); first | ((with_reducible apply tl_nil)) | ((with_reducible apply u_q); exact rfl; exact rfl; exact rfl; exact rfl) | ((with_reducible apply u_s0); exact rfl; exact rfl) | ((with_reducible apply u_s); exact rfl; exact rfl; exact rfl)) | ((with_reducible apply gx_id); first | ((with_reducible apply v_nil)) | ((with_reducible apply v_q); exact rfl; exact rfl; exact rfl)) | ((with_reducible apply os_id); first | ((with_reducible apply os_x); exact rfl) | ((with_reducible apply os_store); exact rfl; exact rfl; exact rfl; exact rfl) | ((with_reducible apply os_storeAgg); exact rfl; exact rfl; exact rfl; exact rfl; exact rfl)) | ((with_reducible apply ox_id); first | ((with_reducible apply ox_alloc); exact rfl; intro _)) | ((with_reducible apply rd_id); first | (apply Rd.own; (repeat (first | exact P0 | apply P1)); exact rfl; done) | (apply Rd.old; (first | (with_reducible assumption) | exact c0 | exact c1 | exact c2 | exact c3 | exact c4 | exact c5 | exact c6 | exact c7 | exact c8 | exact d0 | exact d1 | exact d2 | exact d3 | exact d4 | exact d5); first | exact List.not_mem_nil | exact m0 | exact m1 | exact m2 | exact m3 | exact m4 | exact m5 | exact m6 | exact m7 | exact m8 | exact m9)) | ((with_reducible apply t_id); first | ((with_reducible apply t_seq)) | (apply t_region; kernel_rfl) | (apply t_drawn; kernel_rfl; decide +kernel; try simp only [List.append_eq, List.cons_append, List.nil_append]) | ((with_reducible apply t_condD); exact rfl; all_goals first | (intro hp; try (exfalso; omega)) | skip) | ((with_reducible apply t_skip)) | ((with_reducible apply t_block))) | with_reducible apply q_thenN | with_reducible apply q_blockN | exact P0 | ((with_reducible apply P1)) | exact Rdn.zero | apply Rdn.succ | ((with_reducible apply Norm.nil); exact rfl) | ((with_reducible apply Norm.cons); exact rfl) | exact Nat.le_of_ble_eq_true rfl)
        all_goals (refine ⟨k + 1, by omega, by omega, ?_, ?_⟩)
        all_goals ((try simp only [List.cons_append, List.nil_append]); (repeat' (first | exact FrSub.nil | (apply FrSub.cons; exact rfl) | (apply HpSub.consE; (repeat (first | exact P0 | apply P1)); first | exact rfl | (focus (simp only [hs]))) | exact HpSub.nil)))
      · by_cases h3 : x.state = 3
        · have hs : sumsTo o.fl o.bk (k + 1) = ⟨p1, p2 + d.price, p3, p4⟩ := by rw [sums_succ hx, hS]; unfold addB; simp [h3, hpr]
          repeat' (first | ((with_reducible apply oq_id); first | (focus ((with_reducible apply oq_indexAddrN); exact rfl; exact rfl; exact rfl; exact rfl; omega)) | (apply oq_fn; exact rfl; first | exact trivial | (refine ⟨?_, ?_⟩ <;> omega) | (refine ⟨?_, ?_, ?_⟩ <;> omega) | omega | skip) | ((with_reducible apply oq_load); exact rfl; exact rfl) | ((with_reducible apply oq_loadAgg); exact rfl; exact rfl)) | ((with_reducible apply tl_id); first | ((with_reducible apply tl_nil)) | ((with_reducible apply u_q); exact rfl; exact rfl; exact rfl; exact rfl) | ((with_reducible apply u_s0); exact rfl; exact rfl) | ((with_reducible apply u_s); exact rfl; exact rfl; exact rfl)) | ((with_reducible apply gx_id); first | ((with_reducible apply v_nil)) | ((with_reducible apply v_q); exact rfl; exact rfl; exact rfl)) | ((with_reducible apply os_id); first | ((with_reducible apply os_x); exact rfl) | ((with_reducible apply os_store); exact rfl; exact rfl; exact rfl; exact rfl) | ((with_reducible apply os_storeAgg); exact rfl; exact rfl; exact rfl; exact rfl; exact rfl)) | ((with_reducible apply ox_id); first | ((with_reducible apply ox_alloc); exact rfl; intro _)) | ((with_reducible apply rd_id); first | (apply Rd.own; (repeat (first | exact P0 | apply P1)); exact rfl; done) | (apply Rd.old; (first | (with_reducible assumption) | exact c0 | exact c1 | exact c2 | exact c3 | exact c4 | exact c5 | exact c6 | exact c7 | exact c8 | exact d0 | exact d1 | exact d2 | exact d3 | exact d4 | exact d5); first | exact List.not_mem_nil | exact m0 | exact m1 | exact m2 | exact m3 | exact m4 | exact m5 | exact m6 | exact m7 | exact m8 | exact m9)) | ((with_reducible apply t_id); first | ((with_reducible apply t_seq)) | (apply t_region; kernel_rfl) | (apply t_drawn; kernel_rfl; decide +kernel; try simp only [List.append_eq, List.cons_append, List.nil_append]) | ((with_reducible apply t_condD); exact rfl; all_goals first | (intro hp; try (exfalso; omega)) | skip) | ((with_reducible apply t_skip)) | ((with_reducible apply t_block))) | with_reducible apply q_thenN | with_reducible apply q_blockN | exact P0 | ((with_reducible apply P1)) | exact Rdn.zero | apply Rdn.succ | ((with_reducible apply Norm.nil); exact rfl) | ((with_reducible apply Norm.cons); exact rfl) | exact Nat.le_of_ble_eq_true rfl)
          all_goals (refine ⟨k + 1, by omega, by omega, ?_, ?_⟩)
          all_goals ((try simp only [List.cons_append, List.nil_append]); (repeat' (first | exact FrSub.nil | (apply FrSub.cons; exact rfl) | (apply HpSub.consE; (repeat (first | exact P0 | apply P1)); first | exact rfl | (focus (simp only [hs]))) | exact HpSub.nil)))
        · have h4 : x.state = 4 := by omega
          have hs : sumsTo o.fl o.bk (k + 1) = ⟨p1, p2, p3 + x.kept, p4 + d.price - x.kept⟩ := by rw [sums_succ hx, hS]; unfold addB; simp [h4, hpr]; omega
          repeat' (first | ((with_reducible apply oq_id); first | (focus ((with_reducible apply oq_indexAddrN); exact rfl; exact rfl; exact rfl; exact rfl; omega)) | (apply oq_fn; exact rfl; first | exact trivial | (refine ⟨?_, ?_⟩ <;> omega) | (refine ⟨?_, ?_, ?_⟩ <;> omega) | omega | skip) | ((with_reducible apply oq_load); exact rfl; exact rfl) | ((with_reducible apply oq_loadAgg); exact rfl; exact rfl)) | ((with_reducible apply tl_id); first | ((with_reducible apply tl_nil)) | ((with_reducible apply u_q); exact rfl; exact rfl; exact rfl; exact rfl) | ((with_reducible apply u_s0); exact rfl; exact rfl) | ((with_reducible apply u_s); exact rfl; exact rfl; exact rfl)) | ((with_reducible apply gx_id); first | ((with_reducible apply v_nil)) | ((with_reducible apply v_q); exact rfl; exact rfl; exact rfl)) | ((with_reducible apply os_id); first | ((with_reducible apply os_x); exact rfl) | ((with_reducible apply os_store); exact rfl; exact rfl; exact rfl; exact rfl) | ((with_reducible apply os_storeAgg); exact rfl; exact rfl; exact rfl; exact rfl; exact rfl)) | ((with_reducible apply ox_id); first | ((with_reducible apply ox_alloc); exact rfl; intro _)) | ((with_reducible apply ai_id); first | ((with_reducible apply ai_q); exact rfl; exact rfl; exact rfl; exact rfl; exact rfl) | ((with_reducible apply ai_s0); exact rfl; exact rfl; exact rfl; exact rfl)) | ((with_reducible apply rd_id); first | (apply Rd.own; (repeat (first | exact P0 | apply P1)); exact rfl; done) | (apply Rd.old; (first | (with_reducible assumption) | exact c0 | exact c1 | exact c2 | exact c3 | exact c4 | exact c5 | exact c6 | exact c7 | exact c8 | exact d0 | exact d1 | exact d2 | exact d3 | exact d4 | exact d5); first | exact List.not_mem_nil | exact m0 | exact m1 | exact m2 | exact m3 | exact m4 | exact m5 | exact m6 | exact m7 | exact m8 | exact m9)) | ((with_reducible apply t_id); first | ((with_reducible apply t_seq)) | (apply t_region; kernel_rfl) | (apply t_drawn; kernel_rfl; decide +kernel; try simp only [List.append_eq, List.cons_append, List.nil_append]) | ((with_reducible apply t_condD); exact rfl; all_goals first | (intro hp; try (exfalso; omega)) | skip) | ((with_reducible apply t_skip)) | ((with_reducible apply t_block))) | with_reducible apply q_thenN | with_reducible apply q_blockN | exact P0 | ((with_reducible apply P1)) | exact Rdn.zero | apply Rdn.succ | ((with_reducible apply Norm.nil); exact rfl) | ((with_reducible apply Norm.cons); exact rfl) | (apply t_mix (id := 11) [0, 1, 2, 3, 4, 5, 6, 12] 8 #[false, false, false, false, false, false, false, false, false, false, false, false, false, true, false, true]; kernel_rfl; kernel_rfl; exact rfl) | ((with_reducible apply al_id); first | (apply al_done; decide +kernel) | (apply al_one 7; decide +kernel) | (apply al_one 8; decide +kernel) | (apply al_one 9; decide +kernel) | (apply al_one 10; decide +kernel) | (apply al_one 11; decide +kernel) | (apply al_one 13; decide +kernel) | (apply al_one 14; decide +kernel) | (apply al_one 15; decide +kernel) | (apply al_two 7 9; decide +kernel) | (apply al_two 7 10; decide +kernel) | (apply al_two 7 13; decide +kernel) | (apply al_two 8 9; decide +kernel) | (apply al_two 8 10; decide +kernel) | (apply al_two 8 13; decide +kernel) | (apply al_two 9 13; decide +kernel) | (apply al_two 10 13; decide +kernel) | (apply al_two 11 13; decide +kernel) | (apply al_three 7 9 13; decide +kernel) | (apply al_three 7 10 13; decide +kernel) | (apply al_three 8 9 13; decide +kernel) | (apply al_three 8 10 13; decide +kernel)) | exact Nat.le_of_ble_eq_true rfl)
          all_goals (refine ⟨k + 1, by omega, by omega, ?_, ?_⟩)
          all_goals ((try simp only [List.cons_append, List.nil_append]); (repeat' (first | exact FrSub.nil | (apply FrSub.cons; exact rfl) | (apply HpSub.consE; (repeat (first | exact P0 | apply P1)); first | exact rfl | (focus (simp only [hs]))) | exact HpSub.nil)))
  · repeat' (first | ((with_reducible apply oq_id); first | (apply oq_fn; exact rfl; first | exact trivial | (refine ⟨?_, ?_⟩ <;> omega) | (refine ⟨?_, ?_, ?_⟩ <;> omega) | omega | skip) | ((with_reducible apply oq_loadAgg); exact rfl; exact rfl)) | ((with_reducible apply tl_id); first | ((with_reducible apply tl_nil)) | ((with_reducible apply u_q); exact rfl; exact rfl; exact rfl; exact rfl) | ((with_reducible apply u_s0); exact rfl; exact rfl)) | ((with_reducible apply os_id); first | ((with_reducible apply os_storeAgg); exact rfl; exact rfl; exact rfl; exact rfl; exact rfl)) | ((with_reducible apply rd_id); first | (apply Rd.own; (repeat (first | exact P0 | apply P1)); exact rfl; done)) | ((with_reducible apply t_id); first | ((with_reducible apply t_seq)) | (apply t_region; kernel_rfl) | ((with_reducible apply t_condD); exact rfl; all_goals first | (intro hp; try (exfalso; omega)) | skip) | ((with_reducible apply t_ret)) | ((with_reducible apply t_exit))) | with_reducible apply q_thenN | with_reducible apply q_thenE | ((with_reducible apply q_blockE); exact rfl) | exact P0 | ((with_reducible apply P1)) | exact Rdn.zero | apply Rdn.succ | ((with_reducible apply Norm.nil); exact rfl) | ((with_reducible apply Norm.cons); exact rfl) | ((with_reducible apply end_ret)) | exact rvs_nil | ((with_reducible apply rvs_cons)) | ((with_reducible apply rv_cellAgg); exact rfl; exact rfl) | exact Nat.le_of_ble_eq_true rfl)
    all_goals (rw [← sums_all (show o.bk.length ≤ k by omega), hS]; rfl)

end Go.Proofs.Ytmlmgipngbndgaa
/- The desk: is a booking valid? Copies of lists. -/
namespace Go.Proofs.Ytmlmgipngbndgaa
open Go.RowKit
attribute [local irreducible] OQ OS OX Rd T TL GX GL AL AI RV wpG SAny Calls
set_option maxRecDepth 100000
set_option maxHeartbeats 2000000
set_option linter.unusedVariables false
set_option linter.unusedSimpArgs false

theorem oq_indexAddrAU {c : Cx} {F : Fr} {H : Hp} {d : Option Tmp} {ty t : TypeId} {pos : String} {af : Array Edge} {g : Option (Nat × Bool)} {x y : Operand} {kk : IntKind} {a0 a1 : Bool} {s0 s1 : Nat} {z0 z1 : List Value} {k1 : TyK} {e b o k : Nat} {i : Int} (ht : tyAt c.tys t = some ⟨a0, s0, z0, .array k e⟩) (he : tyAt c.tys e = some ⟨a1, s1, z1, k1⟩)
    (hx : ev F x = some (.pointer (some ⟨b, o, none⟩))) (hy : ev F y = some (.int kk i)) (h0 : 0 ≤ i) (h1 : i < k) : OQ c ⟨d, .indexAddr t x y, ty, pos, af, g⟩ F H (.pointer (some ⟨b, o + i.toNat * s1, none⟩)) := .of fun D a w ha _ => by
  have h := (c.ty ht).kind
  have h2 := h w
  have h3 := (c.ty he).size w
  simp [execOp, ha.ev hx, ha.ev hy, Instr.indexAt, Instr.sureAddr, go_sem, h2, h3, asIntOf, h0, h1, add_eq]
theorem u8_rows {w0 : World} {M : Ms} {H H' : Hp} {w : World} {g n : Nat} {l : List Int} {tg : Tg} (hl : l.length = n) (h : Has w0 M H w) (q : Pick H g (l.map u8Cells).flatten tg H') : RdS w 1 (some ⟨g, 0, none⟩) n (l.map u8Cells) :=
  Blk.rows (h.blk _ q.mem).2 (by simpa using hl) (by simp only [List.mem_map]; rintro r ⟨x, _, rfl⟩; rfl)
theorem one8 {w0 : World} {M : Ms} {H H' : Hp} {w : World} {g : Nat} {a : Int} {tg : Tg} (h : Has w0 M H w) (q : Pick H g [.int .u8 a] tg H') : RdS w 1 (some ⟨g, 0, none⟩) 1 ([a].map u8Cells) := u8_rows rfl h q
theorem two8 {w0 : World} {M : Ms} {H H' : Hp} {w : World} {g : Nat} {a b : Int} {tg : Tg} (h : Has w0 M H w) (q : Pick H g [.int .u8 a, .int .u8 b] tg H') : RdS w 1 (some ⟨g, 0, none⟩) 2 ([a, b].map u8Cells) := u8_rows rfl h q

theorem sold_calls (bd : Nat) (o : Off) (A : Option Addr) (cf : Nat) (B : Option Addr) (cb : Nat) (w : World) (hD : Desk w bd o A cf B cb) (hd : DepsOk o.fl) (hf : 0 ≤ o.fee ∧ o.fee ≤ 100) (hn : o.fl.length ≤ 1000000) (f s k : Int) : Calls Try.prog 95 #[.pointer (some ⟨bd, 0, none⟩), .agg #[.int .i64 f, .int .u8 s, .int .i64 k]] w fun e w' => e = .returned (.bool (bookedB o.fl o.fee ⟨f, s, k⟩)) ∧ Ext w w' := by
  have d3 := hD.fls
  have hA := hD.fl
  by_cases hin : 0 ≤ f ∧ f < (o.fl.length : Int)
  · obtain ⟨i, rfl⟩ : ∃ i : Nat, f = (i : Int) := ⟨f.toNat, by omega⟩
    obtain ⟨b1, o1, d, hA1, _, hx, c0, c1, c2, c3⟩ := dep_read hA (show i < o.fl.length by omega)
    have hdd := hd d (List.mem_of_getElem? hx)
    have hdi := depOk_in hdd.1
    have hval : bookedB o.fl o.fee ⟨(i : Int), s, k⟩ = if s = 4 then decide (0 ≤ k) && decide (k ≤ feeV d.price o.fee) else fitB d.state s && decide (k = 0) := by
      unfold bookedB
      simp only
      rw [if_pos hin, Int.toNat_natCast, hx]
    rw [hval]
    have hw0 := allFrom_t (lo := 0) (hi := (o.fl.length : Int) - 1) (z := (i : Int)) ⟨by omega, by omega⟩
    by_cases hs : s = 4
    · rw [if_pos hs]
      have HF := fun w1 (hx1 : Ext w w1) => deskFee_calls bd o A cf B cb w1 (hD.ext hx1) hd hf i d hx
      obtain ⟨q3, hq3⟩ : ∃ q, allFrom 0 (feeV d.price o.fee) [k] = q := ⟨_, rfl⟩
      have key : (decide (0 ≤ k) && decide (k ≤ feeV d.price o.fee)) = q3 := by rw [← hq3]; unfold allFrom; simp
      rw [key]
      subst hA1
      refine enterQ (c := cx w 52) Try.func95 rfl rfl rfl rfl ?_
      repeat' (first | ((with_reducible apply oq_id); first | (apply oq_fn; exact rfl; first | exact trivial | (refine ⟨?_, ?_⟩ <;> omega) | (refine ⟨?_, ?_, ?_⟩ <;> omega) | omega | skip) | ((with_reducible apply oq_load); exact rfl; exact rfl) | ((with_reducible apply oq_call (k := 63) (hc := Try.call63)); exact rfl; exact rfl; exact fun D w1 hw1 => fromOne hw0 hw1 (by (repeat (first | exact P0 | apply P1)))) | ((with_reducible apply oq_call (k := 63) (hc := Try.call63)); exact rfl; exact rfl; exact fun D w1 hw1 => fromOne hq3 hw1 (by (repeat (first | exact P0 | apply P1)))) | ((with_reducible apply oq_call (k := 118) (hc := Try.call118)); exact rfl; exact rfl; exact fun D w1 hw1 => HF w1 hw1.ext.ext)) | ((with_reducible apply tl_id); first | ((with_reducible apply tl_nil)) | ((with_reducible apply u_q); exact rfl; exact rfl; exact rfl; exact rfl) | ((with_reducible apply u_s); exact rfl; exact rfl; exact rfl)) | ((with_reducible apply gx_id); first | ((with_reducible apply v_nil)) | ((with_reducible apply v_q); exact rfl; exact rfl; exact rfl)) | ((with_reducible apply os_id); first | ((with_reducible apply os_x); exact rfl)) | ((with_reducible apply ox_id); first | ((with_reducible apply ox_boxAgg); exact rfl; intro _) | ((with_reducible apply ox_buildSlice1); exact rfl; exact rfl; exact rfl; exact rfl; exact rfl; exact rfl; intro _)) | ((with_reducible apply ai_id); first | ((with_reducible apply ai_q); exact rfl; exact rfl; exact rfl; exact rfl; exact rfl) | ((with_reducible apply ai_x); exact rfl; exact rfl; exact rfl; exact rfl; exact rfl)) | ((with_reducible apply rd_id); first | (apply Rd.own; (repeat (first | exact P0 | apply P1)); exact rfl; done) | (apply Rd.old; (first | (with_reducible assumption) | exact c0 | exact c1 | exact c2 | exact c3 | exact c4 | exact c5 | exact c6 | exact c7 | exact c8 | exact d0 | exact d1 | exact d2 | exact d3 | exact d4 | exact d5); first | exact List.not_mem_nil | exact m0 | exact m1 | exact m2 | exact m3 | exact m4 | exact m5 | exact m6 | exact m7 | exact m8 | exact m9)) | ((with_reducible apply t_id); first | (apply t_mix (id := 1) [0, 1, 2, 3, 4, 5, 6, 7, 8] 3 #[false, false, false, false, false, false, false, false, false, false, false, false]; kernel_rfl; kernel_rfl; exact rfl) | (apply t_mix (id := 4) [0, 1, 2, 3, 4, 5] 3 #[false, false, false, false, false, false, false, false, false]; kernel_rfl; kernel_rfl; exact rfl) | ((with_reducible apply t_seq)) | (apply t_region; kernel_rfl) | ((with_reducible apply t_condF); exact rfl) | ((with_reducible apply t_condD); exact rfl; all_goals first | (intro hp; try (exfalso; omega)) | skip) | ((with_reducible apply t_ret)) | ((with_reducible apply t_skip))) | with_reducible apply q_thenN | with_reducible apply q_thenR | ((with_reducible apply end_ret)) | exact rvs_nil | ((with_reducible apply rvs_cons)) | ((with_reducible apply rv_tmp); exact rfl) | ((with_reducible apply al_id); first | (apply al_done; decide +kernel) | (apply al_one 9; decide +kernel) | (apply al_one 10; decide +kernel) | (apply al_one 11; decide +kernel)) | ((with_reducible apply al_id); first | (apply al_one 6; decide +kernel) | (apply al_one 7; decide +kernel) | (apply al_one 8; decide +kernel)))
      all_goals rfl
    · rw [if_neg hs]
      subst hA1
      have HQ0 := fun g cp w1 h => containsU8_calls s (some ⟨g, 0, none⟩) 2 cp [1, 2] w1 h (by omega)
      have HQ1 := fun g cp w1 h => containsU8_calls s (some ⟨g, 0, none⟩) 1 cp [3] w1 h (by omega)
      have HQ2 := fun w1 => containsU8_calls s none 0 0 [] w1 (RdS.nil _ _ _) (by omega)
      obtain ⟨q0, e0⟩ : ∃ q, ([1, 2] : List Int).any (fun x => decide (s = x)) = q := ⟨_, rfl⟩
      obtain ⟨q1, e1⟩ : ∃ q, ([3] : List Int).any (fun x => decide (s = x)) = q := ⟨_, rfl⟩
      obtain ⟨q2, e2⟩ : ∃ q, ([] : List Int).any (fun x => decide (s = x)) = q := ⟨_, rfl⟩
      rw [e0] at HQ0
      rw [e1] at HQ1
      rw [e2] at HQ2
      have key0 : fitB 0 s = q0 := by rw [← e0]; unfold fitB; simp
      have key1 : fitB 1 s = q1 := by rw [← e1]; unfold fitB; simp
      have key2 : fitB 2 s = q2 := by rw [← e2]; unfold fitB; simp
      rcases (by omega : d.state = 0 ∨ d.state = 1 ∨ d.state = 2) with hg | hg | hg
      · rw [hg] at c3
        cases hQ : q0 with
        | false =>
          rw [hQ] at HQ0 key0
          have hfit : fitB d.state s = false := by rw [hg]; exact key0
          rw [hfit, Bool.false_and]
          refine enterQ (c := cx w 52) Try.func95 rfl rfl rfl rfl ?_
          repeat' (first | ((with_reducible apply oq_id); first | (focus ((with_reducible apply oq_indexAddrN); exact rfl; exact rfl; exact rfl; exact rfl; omega)) | (focus ((with_reducible apply oq_indexAddrAU); exact rfl; exact rfl; exact rfl; exact rfl; omega; omega)) | (apply oq_fn; exact rfl; first | exact trivial | (refine ⟨?_, ?_⟩ <;> omega) | (refine ⟨?_, ?_, ?_⟩ <;> omega) | omega | skip) | ((with_reducible apply oq_load); exact rfl; exact rfl) | ((with_reducible apply oq_call (k := 63) (hc := Try.call63)); exact rfl; exact rfl; exact fun D w1 hw1 => fromOne hw0 hw1 (by (repeat (first | exact P0 | apply P1)))) | ((with_reducible apply oq_call (k := 101) (hc := Try.call101)); exact rfl; exact rfl; exact fun D w1 hw1 => HQ0 _ _ w1 (two8 hw1 (by (repeat (first | exact P0 | apply P1))))) | ((with_reducible apply oq_buildA); exact rfl; exact rfl; exact rfl; exact rfl)) | ((with_reducible apply tl_id); first | ((with_reducible apply tl_nil)) | ((with_reducible apply u_q); exact rfl; exact rfl; exact rfl; exact rfl) | ((with_reducible apply u_s0); exact rfl; exact rfl) | ((with_reducible apply u_s); exact rfl; exact rfl; exact rfl)) | ((with_reducible apply gx_id); first | ((with_reducible apply v_nil)) | ((with_reducible apply v_q); exact rfl; exact rfl; exact rfl) | ((with_reducible apply v_skip); exact rfl; exact rfl; exact rfl) | ((with_reducible apply v_splitD); exact rfl; exact rfl; all_goals first | (intro hp; try (exfalso; omega)) | skip)) | ((with_reducible apply os_id); first | ((with_reducible apply os_x); exact rfl) | ((with_reducible apply os_storeAgg); exact rfl; exact rfl; exact rfl; exact rfl; exact rfl)) | ((with_reducible apply ox_id); first | ((with_reducible apply ox_alloc); exact rfl; intro _) | ((with_reducible apply ox_boxAgg); exact rfl; intro _) | ((with_reducible apply ox_buildSlice1); exact rfl; exact rfl; exact rfl; exact rfl; exact rfl; exact rfl; intro _)) | ((with_reducible apply ai_id); first | ((with_reducible apply ai_q); exact rfl; exact rfl; exact rfl; exact rfl; exact rfl) | ((with_reducible apply ai_x); exact rfl; exact rfl; exact rfl; exact rfl; exact rfl)) | ((with_reducible apply rd_id); first | (apply Rd.own; (repeat (first | exact P0 | apply P1)); exact rfl; done) | (apply Rd.old; (first | (with_reducible assumption) | exact c0 | exact c1 | exact c2 | exact c3 | exact c4 | exact c5 | exact c6 | exact c7 | exact c8 | exact d0 | exact d1 | exact d2 | exact d3 | exact d4 | exact d5); first | exact List.not_mem_nil | exact m0 | exact m1 | exact m2 | exact m3 | exact m4 | exact m5 | exact m6 | exact m7 | exact m8 | exact m9)) | ((with_reducible apply t_id); first | (apply t_mix (id := 1) [0, 1, 2, 3, 4, 5, 6, 7, 8] 3 #[false, false, false, false, false, false, false, false, false, false, false, false]; kernel_rfl; kernel_rfl; exact rfl) | ((with_reducible apply t_seq)) | (apply t_region; kernel_rfl) | (apply t_drawn; kernel_rfl; decide +kernel; try simp only [List.append_eq, List.cons_append, List.nil_append]) | ((with_reducible apply t_condF); exact rfl) | ((with_reducible apply t_condD); exact rfl; all_goals first | (intro hp; try (exfalso; omega)) | skip) | ((with_reducible apply t_ret)) | ((with_reducible apply t_skip))) | with_reducible apply q_thenN | exact P0 | ((with_reducible apply Norm.nil); exact rfl) | ((with_reducible apply Norm.cons); exact rfl) | ((with_reducible apply end_ret)) | exact rvs_nil | ((with_reducible apply rvs_cons)) | ((with_reducible apply rv_tmp); exact rfl) | ((with_reducible apply al_id); first | (apply al_done; decide +kernel) | (apply al_one 9; decide +kernel) | (apply al_one 10; decide +kernel) | (apply al_one 11; decide +kernel)) | exact Nat.le_of_ble_eq_true rfl)
          all_goals rfl
        | true =>
          rw [hQ] at HQ0 key0
          have hfit : fitB d.state s = true := by rw [hg]; exact key0
          rw [hfit, Bool.true_and]
          by_cases hk : k = 0
          · rw [decide_eq_true hk]
            refine enterQ (c := cx w 52) Try.func95 rfl rfl rfl rfl ?_
            repeat' (first | ((with_reducible apply oq_id); first | (focus ((with_reducible apply oq_indexAddrN); exact rfl; exact rfl; exact rfl; exact rfl; omega)) | (focus ((with_reducible apply oq_indexAddrAU); exact rfl; exact rfl; exact rfl; exact rfl; omega; omega)) | (apply oq_fn; exact rfl; first | exact trivial | (refine ⟨?_, ?_⟩ <;> omega) | (refine ⟨?_, ?_, ?_⟩ <;> omega) | omega | skip) | ((with_reducible apply oq_load); exact rfl; exact rfl) | ((with_reducible apply oq_call (k := 63) (hc := Try.call63)); exact rfl; exact rfl; exact fun D w1 hw1 => fromOne hw0 hw1 (by (repeat (first | exact P0 | apply P1)))) | ((with_reducible apply oq_call (k := 101) (hc := Try.call101)); exact rfl; exact rfl; exact fun D w1 hw1 => HQ0 _ _ w1 (two8 hw1 (by (repeat (first | exact P0 | apply P1))))) | ((with_reducible apply oq_buildA); exact rfl; exact rfl; exact rfl; exact rfl)) | ((with_reducible apply tl_id); first | ((with_reducible apply tl_nil)) | ((with_reducible apply u_q); exact rfl; exact rfl; exact rfl; exact rfl) | ((with_reducible apply u_s0); exact rfl; exact rfl) | ((with_reducible apply u_s); exact rfl; exact rfl; exact rfl)) | ((with_reducible apply gx_id); first | ((with_reducible apply v_nil)) | ((with_reducible apply v_q); exact rfl; exact rfl; exact rfl) | ((with_reducible apply v_splitD); exact rfl; exact rfl; all_goals first | (intro hp; try (exfalso; omega)) | skip)) | ((with_reducible apply os_id); first | ((with_reducible apply os_x); exact rfl) | ((with_reducible apply os_storeAgg); exact rfl; exact rfl; exact rfl; exact rfl; exact rfl)) | ((with_reducible apply ox_id); first | ((with_reducible apply ox_alloc); exact rfl; intro _) | ((with_reducible apply ox_boxAgg); exact rfl; intro _) | ((with_reducible apply ox_buildSlice1); exact rfl; exact rfl; exact rfl; exact rfl; exact rfl; exact rfl; intro _)) | ((with_reducible apply ai_id); first | ((with_reducible apply ai_q); exact rfl; exact rfl; exact rfl; exact rfl; exact rfl) | ((with_reducible apply ai_x); exact rfl; exact rfl; exact rfl; exact rfl; exact rfl)) | ((with_reducible apply rd_id); first | (apply Rd.own; (repeat (first | exact P0 | apply P1)); exact rfl; done) | (apply Rd.old; (first | (with_reducible assumption) | exact c0 | exact c1 | exact c2 | exact c3 | exact c4 | exact c5 | exact c6 | exact c7 | exact c8 | exact d0 | exact d1 | exact d2 | exact d3 | exact d4 | exact d5); first | exact List.not_mem_nil | exact m0 | exact m1 | exact m2 | exact m3 | exact m4 | exact m5 | exact m6 | exact m7 | exact m8 | exact m9)) | ((with_reducible apply t_id); first | (apply t_mix (id := 1) [0, 1, 2, 3, 4, 5, 6, 7, 8] 3 #[false, false, false, false, false, false, false, false, false, false, false, false]; kernel_rfl; kernel_rfl; exact rfl) | ((with_reducible apply t_seq)) | (apply t_region; kernel_rfl) | (apply t_drawn; kernel_rfl; decide +kernel; try simp only [List.append_eq, List.cons_append, List.nil_append]) | ((with_reducible apply t_condF); exact rfl) | ((with_reducible apply t_condD); exact rfl; all_goals first | (intro hp; try (exfalso; omega)) | skip) | ((with_reducible apply t_ret)) | ((with_reducible apply t_skip))) | with_reducible apply q_thenN | exact P0 | ((with_reducible apply Norm.nil); exact rfl) | ((with_reducible apply Norm.cons); exact rfl) | ((with_reducible apply end_ret)) | exact rvs_nil | ((with_reducible apply rvs_cons)) | ((with_reducible apply rv_tmp); exact rfl) | ((with_reducible apply al_id); first | (apply al_done; decide +kernel) | (apply al_one 9; decide +kernel) | (apply al_one 10; decide +kernel) | (apply al_one 11; decide +kernel)) | exact Nat.le_of_ble_eq_true rfl)
            all_goals rfl
          · rw [decide_eq_false hk]
            refine enterQ (c := cx w 52) Try.func95 rfl rfl rfl rfl ?_
            repeat' (first | ((with_reducible apply oq_id); first | (apply oq_fn; exact rfl; first | exact trivial | (refine ⟨?_, ?_⟩ <;> omega) | (refine ⟨?_, ?_, ?_⟩ <;> omega) | omega | skip) | ((with_reducible apply oq_load); exact rfl; exact rfl) | ((with_reducible apply oq_call (k := 63) (hc := Try.call63)); exact rfl; exact rfl; exact fun D w1 hw1 => fromOne hw0 hw1 (by (repeat (first | exact P0 | apply P1)))) | ((with_reducible apply oq_buildA); exact rfl; exact rfl; exact rfl; exact rfl)) | ((with_reducible apply tl_id); first | ((with_reducible apply tl_nil)) | ((with_reducible apply u_q); exact rfl; exact rfl; exact rfl; exact rfl) | ((with_reducible apply u_s0); exact rfl; exact rfl) | ((with_reducible apply u_s); exact rfl; exact rfl; exact rfl)) | ((with_reducible apply gx_id); first | ((with_reducible apply v_nil)) | ((with_reducible apply v_q); exact rfl; exact rfl; exact rfl) | ((with_reducible apply v_skip); exact rfl; exact rfl; exact rfl) | ((with_reducible apply v_splitD); exact rfl; exact rfl; all_goals first | (intro hp; try (exfalso; omega)) | skip)) | ((with_reducible apply os_id); first | ((with_reducible apply os_x); exact rfl) | ((with_reducible apply os_storeAgg); exact rfl; exact rfl; exact rfl; exact rfl; exact rfl)) | ((with_reducible apply ox_id); first | ((with_reducible apply ox_alloc); exact rfl; intro _) | ((with_reducible apply ox_boxAgg); exact rfl; intro _) | ((with_reducible apply ox_buildSlice1); exact rfl; exact rfl; exact rfl; exact rfl; exact rfl; exact rfl; intro _)) | ((with_reducible apply ai_id); first | ((with_reducible apply ai_q); exact rfl; exact rfl; exact rfl; exact rfl; exact rfl) | ((with_reducible apply ai_x); exact rfl; exact rfl; exact rfl; exact rfl; exact rfl)) | ((with_reducible apply rd_id); first | (apply Rd.own; (repeat (first | exact P0 | apply P1)); exact rfl; done) | (apply Rd.old; (first | (with_reducible assumption) | exact c0 | exact c1 | exact c2 | exact c3 | exact c4 | exact c5 | exact c6 | exact c7 | exact c8 | exact d0 | exact d1 | exact d2 | exact d3 | exact d4 | exact d5); first | exact List.not_mem_nil | exact m0 | exact m1 | exact m2 | exact m3 | exact m4 | exact m5 | exact m6 | exact m7 | exact m8 | exact m9)) | ((with_reducible apply t_id); first | (apply t_mix (id := 1) [0, 1, 2, 3, 4, 5, 6, 7, 8] 3 #[false, false, false, false, false, false, false, false, false, false, false, false]; kernel_rfl; kernel_rfl; exact rfl) | ((with_reducible apply t_seq)) | (apply t_region; kernel_rfl) | (apply t_drawn; kernel_rfl; decide +kernel; try simp only [List.append_eq, List.cons_append, List.nil_append]) | ((with_reducible apply t_condF); exact rfl) | ((with_reducible apply t_condD); exact rfl; all_goals first | (intro hp; try (exfalso; omega)) | skip) | ((with_reducible apply t_ret)) | ((with_reducible apply t_skip))) | with_reducible apply q_thenN | exact P0 | ((with_reducible apply Norm.nil); exact rfl) | ((with_reducible apply Norm.cons); exact rfl) | ((with_reducible apply end_ret)) | exact rvs_nil | ((with_reducible apply rvs_cons)) | ((with_reducible apply rv_tmp); exact rfl) | ((with_reducible apply al_id); first | (apply al_done; decide +kernel) | (apply al_one 9; decide +kernel) | (apply al_one 10; decide +kernel) | (apply al_one 11; decide +kernel)) | exact Nat.le_of_ble_eq_true rfl)
            all_goals rfl
      · rw [hg] at c3
        cases hQ : q1 with
        | false =>
          rw [hQ] at HQ1 key1
          have hfit : fitB d.state s = false := by rw [hg]; exact key1
          rw [hfit, Bool.false_and]
          refine enterQ (c := cx w 52) Try.func95 rfl rfl rfl rfl ?_
          repeat' (first | ((with_reducible apply oq_id); first | (focus ((with_reducible apply oq_indexAddrN); exact rfl; exact rfl; exact rfl; exact rfl; omega)) | (focus ((with_reducible apply oq_indexAddrAU); exact rfl; exact rfl; exact rfl; exact rfl; omega; omega)) | (apply oq_fn; exact rfl; first | exact trivial | (refine ⟨?_, ?_⟩ <;> omega) | (refine ⟨?_, ?_, ?_⟩ <;> omega) | omega | skip) | ((with_reducible apply oq_load); exact rfl; exact rfl) | ((with_reducible apply oq_call (k := 63) (hc := Try.call63)); exact rfl; exact rfl; exact fun D w1 hw1 => fromOne hw0 hw1 (by (repeat (first | exact P0 | apply P1)))) | ((with_reducible apply oq_call (k := 101) (hc := Try.call101)); exact rfl; exact rfl; exact fun D w1 hw1 => HQ1 _ _ w1 (one8 hw1 (by (repeat (first | exact P0 | apply P1))))) | ((with_reducible apply oq_buildA); exact rfl; exact rfl; exact rfl; exact rfl)) | ((with_reducible apply tl_id); first | ((with_reducible apply tl_nil)) | ((with_reducible apply u_q); exact rfl; exact rfl; exact rfl; exact rfl) | ((with_reducible apply u_s0); exact rfl; exact rfl) | ((with_reducible apply u_s); exact rfl; exact rfl; exact rfl)) | ((with_reducible apply gx_id); first | ((with_reducible apply v_nil)) | ((with_reducible apply v_q); exact rfl; exact rfl; exact rfl) | ((with_reducible apply v_skip); exact rfl; exact rfl; exact rfl) | ((with_reducible apply v_splitD); exact rfl; exact rfl; all_goals first | (intro hp; try (exfalso; omega)) | skip)) | ((with_reducible apply os_id); first | ((with_reducible apply os_x); exact rfl) | ((with_reducible apply os_storeAgg); exact rfl; exact rfl; exact rfl; exact rfl; exact rfl)) | ((with_reducible apply ox_id); first | ((with_reducible apply ox_alloc); exact rfl; intro _) | ((with_reducible apply ox_boxAgg); exact rfl; intro _) | ((with_reducible apply ox_buildSlice1); exact rfl; exact rfl; exact rfl; exact rfl; exact rfl; exact rfl; intro _)) | ((with_reducible apply ai_id); first | ((with_reducible apply ai_q); exact rfl; exact rfl; exact rfl; exact rfl; exact rfl) | ((with_reducible apply ai_x); exact rfl; exact rfl; exact rfl; exact rfl; exact rfl)) | ((with_reducible apply rd_id); first | (apply Rd.own; (repeat (first | exact P0 | apply P1)); exact rfl; done) | (apply Rd.old; (first | (with_reducible assumption) | exact c0 | exact c1 | exact c2 | exact c3 | exact c4 | exact c5 | exact c6 | exact c7 | exact c8 | exact d0 | exact d1 | exact d2 | exact d3 | exact d4 | exact d5); first | exact List.not_mem_nil | exact m0 | exact m1 | exact m2 | exact m3 | exact m4 | exact m5 | exact m6 | exact m7 | exact m8 | exact m9)) | ((with_reducible apply t_id); first | (apply t_mix (id := 1) [0, 1, 2, 3, 4, 5, 6, 7, 8] 3 #[false, false, false, false, false, false, false, false, false, false, false, false]; kernel_rfl; kernel_rfl; exact rfl) | ((with_reducible apply t_seq)) | (apply t_region; kernel_rfl) | (apply t_drawn; kernel_rfl; decide +kernel; try simp only [List.append_eq, List.cons_append, List.nil_append]) | ((with_reducible apply t_condF); exact rfl) | ((with_reducible apply t_condD); exact rfl; all_goals first | (intro hp; try (exfalso; omega)) | skip) | ((with_reducible apply t_ret)) | ((with_reducible apply t_skip))) | with_reducible apply q_thenN | exact P0 | ((with_reducible apply Norm.nil); exact rfl) | ((with_reducible apply Norm.cons); exact rfl) | ((with_reducible apply end_ret)) | exact rvs_nil | ((with_reducible apply rvs_cons)) | ((with_reducible apply rv_tmp); exact rfl) | ((with_reducible apply al_id); first | (apply al_done; decide +kernel) | (apply al_one 9; decide +kernel) | (apply al_one 10; decide +kernel) | (apply al_one 11; decide +kernel)) | exact Nat.le_of_ble_eq_true rfl)
          all_goals rfl
        | true =>
          rw [hQ] at HQ1 key1
          have hfit : fitB d.state s = true := by rw [hg]; exact key1
          rw [hfit, Bool.true_and]
          by_cases hk : k = 0
          · rw [decide_eq_true hk]
            refine enterQ (c := cx w 52) Try.func95 rfl rfl rfl rfl ?_
            repeat' (first | ((with_reducible apply oq_id); first | (focus ((with_reducible apply oq_indexAddrN); exact rfl; exact rfl; exact rfl; exact rfl; omega)) | (focus ((with_reducible apply oq_indexAddrAU); exact rfl; exact rfl; exact rfl; exact rfl; omega; omega)) | (apply oq_fn; exact rfl; first | exact trivial | (refine ⟨?_, ?_⟩ <;> omega) | (refine ⟨?_, ?_, ?_⟩ <;> omega) | omega | skip) | ((with_reducible apply oq_load); exact rfl; exact rfl) | ((with_reducible apply oq_call (k := 63) (hc := Try.call63)); exact rfl; exact rfl; exact fun D w1 hw1 => fromOne hw0 hw1 (by (repeat (first | exact P0 | apply P1)))) | ((with_reducible apply oq_call (k := 101) (hc := Try.call101)); exact rfl; exact rfl; exact fun D w1 hw1 => HQ1 _ _ w1 (one8 hw1 (by (repeat (first | exact P0 | apply P1))))) | ((with_reducible apply oq_buildA); exact rfl; exact rfl; exact rfl; exact rfl)) | ((with_reducible apply tl_id); first | ((with_reducible apply tl_nil)) | ((with_reducible apply u_q); exact rfl; exact rfl; exact rfl; exact rfl) | ((with_reducible apply u_s0); exact rfl; exact rfl) | ((with_reducible apply u_s); exact rfl; exact rfl; exact rfl)) | ((with_reducible apply gx_id); first | ((with_reducible apply v_nil)) | ((with_reducible apply v_q); exact rfl; exact rfl; exact rfl) | ((with_reducible apply v_splitD); exact rfl; exact rfl; all_goals first | (intro hp; try (exfalso; omega)) | skip)) | ((with_reducible apply os_id); first | ((with_reducible apply os_x); exact rfl) | ((with_reducible apply os_storeAgg); exact rfl; exact rfl; exact rfl; exact rfl; exact rfl)) | ((with_reducible apply ox_id); first | ((with_reducible apply ox_alloc); exact rfl; intro _) | ((with_reducible apply ox_boxAgg); exact rfl; intro _) | ((with_reducible apply ox_buildSlice1); exact rfl; exact rfl; exact rfl; exact rfl; exact rfl; exact rfl; intro _)) | ((with_reducible apply ai_id); first | ((with_reducible apply ai_q); exact rfl; exact rfl; exact rfl; exact rfl; exact rfl) | ((with_reducible apply ai_x); exact rfl; exact rfl; exact rfl; exact rfl; exact rfl)) | ((with_reducible apply rd_id); first | (apply Rd.own; (repeat (first | exact P0 | apply P1)); exact rfl; done) | (apply Rd.old; (first | (with_reducible assumption) | exact c0 | exact c1 | exact c2 | exact c3 | exact c4 | exact c5 | exact c6 | exact c7 | exact c8 | exact d0 | exact d1 | exact d2 | exact d3 | exact d4 | exact d5); first | exact List.not_mem_nil | exact m0 | exact m1 | exact m2 | exact m3 | exact m4 | exact m5 | exact m6 | exact m7 | exact m8 | exact m9)) | ((with_reducible apply t_id); first | (apply t_mix (id := 1) [0, 1, 2, 3, 4, 5, 6, 7, 8] 3 #[false, false, false, false, false, false, false, false, false, false, false, false]; kernel_rfl; kernel_rfl; exact rfl) | ((with_reducible apply t_seq)) | (apply t_region; kernel_rfl) | (apply t_drawn; kernel_rfl; decide +kernel; try simp only [List.append_eq, List.cons_append, List.nil_append]) | ((with_reducible apply t_condF); exact rfl) | ((with_reducible apply t_condD); exact rfl; all_goals first | (intro hp; try (exfalso; omega)) | skip) | ((with_reducible apply t_ret)) | ((with_reducible apply t_skip))) | with_reducible apply q_thenN | exact P0 | ((with_reducible apply Norm.nil); exact rfl) | ((with_reducible apply Norm.cons); exact rfl) | ((with_reducible apply end_ret)) | exact rvs_nil | ((with_reducible apply rvs_cons)) | ((with_reducible apply rv_tmp); exact rfl) | ((with_reducible apply al_id); first | (apply al_done; decide +kernel) | (apply al_one 9; decide +kernel) | (apply al_one 10; decide +kernel) | (apply al_one 11; decide +kernel)) | exact Nat.le_of_ble_eq_true rfl)
            all_goals rfl
          · rw [decide_eq_false hk]
            refine enterQ (c := cx w 52) Try.func95 rfl rfl rfl rfl ?_
            repeat' (first | ((with_reducible apply oq_id); first | (apply oq_fn; exact rfl; first | exact trivial | (refine ⟨?_, ?_⟩ <;> omega) | (refine ⟨?_, ?_, ?_⟩ <;> omega) | omega | skip) | ((with_reducible apply oq_load); exact rfl; exact rfl) | ((with_reducible apply oq_call (k := 63) (hc := Try.call63)); exact rfl; exact rfl; exact fun D w1 hw1 => fromOne hw0 hw1 (by (repeat (first | exact P0 | apply P1)))) | ((with_reducible apply oq_buildA); exact rfl; exact rfl; exact rfl; exact rfl)) | ((with_reducible apply tl_id); first | ((with_reducible apply tl_nil)) | ((with_reducible apply u_q); exact rfl; exact rfl; exact rfl; exact rfl) | ((with_reducible apply u_s0); exact rfl; exact rfl) | ((with_reducible apply u_s); exact rfl; exact rfl; exact rfl)) | ((with_reducible apply gx_id); first | ((with_reducible apply v_nil)) | ((with_reducible apply v_q); exact rfl; exact rfl; exact rfl) | ((with_reducible apply v_skip); exact rfl; exact rfl; exact rfl) | ((with_reducible apply v_splitD); exact rfl; exact rfl; all_goals first | (intro hp; try (exfalso; omega)) | skip)) | ((with_reducible apply os_id); first | ((with_reducible apply os_x); exact rfl) | ((with_reducible apply os_storeAgg); exact rfl; exact rfl; exact rfl; exact rfl; exact rfl)) | ((with_reducible apply ox_id); first | ((with_reducible apply ox_alloc); exact rfl; intro _) | ((with_reducible apply ox_boxAgg); exact rfl; intro _) | ((with_reducible apply ox_buildSlice1); exact rfl; exact rfl; exact rfl; exact rfl; exact rfl; exact rfl; intro _)) | ((with_reducible apply ai_id); first | ((with_reducible apply ai_q); exact rfl; exact rfl; exact rfl; exact rfl; exact rfl) | ((with_reducible apply ai_x); exact rfl; exact rfl; exact rfl; exact rfl; exact rfl)) | ((with_reducible apply rd_id); first | (apply Rd.own; (repeat (first | exact P0 | apply P1)); exact rfl; done) | (apply Rd.old; (first | (with_reducible assumption) | exact c0 | exact c1 | exact c2 | exact c3 | exact c4 | exact c5 | exact c6 | exact c7 | exact c8 | exact d0 | exact d1 | exact d2 | exact d3 | exact d4 | exact d5); first | exact List.not_mem_nil | exact m0 | exact m1 | exact m2 | exact m3 | exact m4 | exact m5 | exact m6 | exact m7 | exact m8 | exact m9)) | ((with_reducible apply t_id); first | (apply t_mix (id := 1) [0, 1, 2, 3, 4, 5, 6, 7, 8] 3 #[false, false, false, false, false, false, false, false, false, false, false, false]; kernel_rfl; kernel_rfl; exact rfl) | ((with_reducible apply t_seq)) | (apply t_region; kernel_rfl) | (apply t_drawn; kernel_rfl; decide +kernel; try simp only [List.append_eq, List.cons_append, List.nil_append]) | ((with_reducible apply t_condF); exact rfl) | ((with_reducible apply t_condD); exact rfl; all_goals first | (intro hp; try (exfalso; omega)) | skip) | ((with_reducible apply t_ret)) | ((with_reducible apply t_skip))) | with_reducible apply q_thenN | exact P0 | ((with_reducible apply Norm.nil); exact rfl) | ((with_reducible apply Norm.cons); exact rfl) | ((with_reducible apply end_ret)) | exact rvs_nil | ((with_reducible apply rvs_cons)) | ((with_reducible apply rv_tmp); exact rfl) | ((with_reducible apply al_id); first | (apply al_done; decide +kernel) | (apply al_one 9; decide +kernel) | (apply al_one 10; decide +kernel) | (apply al_one 11; decide +kernel)) | exact Nat.le_of_ble_eq_true rfl)
            all_goals rfl
      · rw [hg] at c3
        cases hQ : q2 with
        | false =>
          rw [hQ] at HQ2 key2
          have hfit : fitB d.state s = false := by rw [hg]; exact key2
          rw [hfit, Bool.false_and]
          refine enterQ (c := cx w 52) Try.func95 rfl rfl rfl rfl ?_
          repeat' (first | ((with_reducible apply oq_id); first | (focus ((with_reducible apply oq_indexAddrN); exact rfl; exact rfl; exact rfl; exact rfl; omega)) | (focus ((with_reducible apply oq_indexAddrAU); exact rfl; exact rfl; exact rfl; exact rfl; omega; omega)) | (apply oq_fn; exact rfl; first | exact trivial | (refine ⟨?_, ?_⟩ <;> omega) | (refine ⟨?_, ?_, ?_⟩ <;> omega) | omega | skip) | ((with_reducible apply oq_load); exact rfl; exact rfl) | ((with_reducible apply oq_call (k := 63) (hc := Try.call63)); exact rfl; exact rfl; exact fun D w1 hw1 => fromOne hw0 hw1 (by (repeat (first | exact P0 | apply P1)))) | ((with_reducible apply oq_call (k := 101) (hc := Try.call101)); exact rfl; exact rfl; exact fun D w1 hw1 => HQ2 w1) | ((with_reducible apply oq_buildA); exact rfl; exact rfl; exact rfl; exact rfl)) | ((with_reducible apply tl_id); first | ((with_reducible apply tl_nil)) | ((with_reducible apply u_q); exact rfl; exact rfl; exact rfl; exact rfl) | ((with_reducible apply u_s0); exact rfl; exact rfl) | ((with_reducible apply u_s); exact rfl; exact rfl; exact rfl)) | ((with_reducible apply gx_id); first | ((with_reducible apply v_nil)) | ((with_reducible apply v_q); exact rfl; exact rfl; exact rfl) | ((with_reducible apply v_skip); exact rfl; exact rfl; exact rfl) | ((with_reducible apply v_splitD); exact rfl; exact rfl; all_goals first | (intro hp; try (exfalso; omega)) | skip)) | ((with_reducible apply os_id); first | ((with_reducible apply os_x); exact rfl) | ((with_reducible apply os_storeAgg); exact rfl; exact rfl; exact rfl; exact rfl; exact rfl)) | ((with_reducible apply ox_id); first | ((with_reducible apply ox_alloc); exact rfl; intro _) | ((with_reducible apply ox_boxAgg); exact rfl; intro _) | ((with_reducible apply ox_buildSlice1); exact rfl; exact rfl; exact rfl; exact rfl; exact rfl; exact rfl; intro _)) | ((with_reducible apply ai_id); first | ((with_reducible apply ai_q); exact rfl; exact rfl; exact rfl; exact rfl; exact rfl) | ((with_reducible apply ai_x); exact rfl; exact rfl; exact rfl; exact rfl; exact rfl)) | ((with_reducible apply rd_id); first | (apply Rd.own; (repeat (first | exact P0 | apply P1)); exact rfl; done) | (apply Rd.old; (first | (with_reducible assumption) | exact c0 | exact c1 | exact c2 | exact c3 | exact c4 | exact c5 | exact c6 | exact c7 | exact c8 | exact d0 | exact d1 | exact d2 | exact d3 | exact d4 | exact d5); first | exact List.not_mem_nil | exact m0 | exact m1 | exact m2 | exact m3 | exact m4 | exact m5 | exact m6 | exact m7 | exact m8 | exact m9)) | ((with_reducible apply t_id); first | (apply t_mix (id := 1) [0, 1, 2, 3, 4, 5, 6, 7, 8] 3 #[false, false, false, false, false, false, false, false, false, false, false, false]; kernel_rfl; kernel_rfl; exact rfl) | ((with_reducible apply t_seq)) | (apply t_region; kernel_rfl) | (apply t_drawn; kernel_rfl; decide +kernel; try simp only [List.append_eq, List.cons_append, List.nil_append]) | ((with_reducible apply t_condF); exact rfl) | ((with_reducible apply t_condD); exact rfl; all_goals first | (intro hp; try (exfalso; omega)) | skip) | ((with_reducible apply t_ret)) | ((with_reducible apply t_skip))) | with_reducible apply q_thenN | exact P0 | ((with_reducible apply Norm.nil); exact rfl) | ((with_reducible apply Norm.cons); exact rfl) | ((with_reducible apply end_ret)) | exact rvs_nil | ((with_reducible apply rvs_cons)) | ((with_reducible apply rv_tmp); exact rfl) | ((with_reducible apply al_id); first | (apply al_done; decide +kernel) | (apply al_one 9; decide +kernel) | (apply al_one 10; decide +kernel) | (apply al_one 11; decide +kernel)) | exact Nat.le_of_ble_eq_true rfl)
          all_goals rfl
        | true =>
          rw [hQ] at HQ2 key2
          have hfit : fitB d.state s = true := by rw [hg]; exact key2
          rw [hfit, Bool.true_and]
          by_cases hk : k = 0
          · rw [decide_eq_true hk]
            refine enterQ (c := cx w 52) Try.func95 rfl rfl rfl rfl ?_
            repeat' (first | ((with_reducible apply oq_id); first | (focus ((with_reducible apply oq_indexAddrN); exact rfl; exact rfl; exact rfl; exact rfl; omega)) | (focus ((with_reducible apply oq_indexAddrAU); exact rfl; exact rfl; exact rfl; exact rfl; omega; omega)) | (apply oq_fn; exact rfl; first | exact trivial | (refine ⟨?_, ?_⟩ <;> omega) | (refine ⟨?_, ?_, ?_⟩ <;> omega) | omega | skip) | ((with_reducible apply oq_load); exact rfl; exact rfl) | ((with_reducible apply oq_call (k := 63) (hc := Try.call63)); exact rfl; exact rfl; exact fun D w1 hw1 => fromOne hw0 hw1 (by (repeat (first | exact P0 | apply P1)))) | ((with_reducible apply oq_call (k := 101) (hc := Try.call101)); exact rfl; exact rfl; exact fun D w1 hw1 => HQ2 w1) | ((with_reducible apply oq_buildA); exact rfl; exact rfl; exact rfl; exact rfl)) | ((with_reducible apply tl_id); first | ((with_reducible apply tl_nil)) | ((with_reducible apply u_q); exact rfl; exact rfl; exact rfl; exact rfl) | ((with_reducible apply u_s0); exact rfl; exact rfl) | ((with_reducible apply u_s); exact rfl; exact rfl; exact rfl)) | ((with_reducible apply gx_id); first | ((with_reducible apply v_nil)) | ((with_reducible apply v_q); exact rfl; exact rfl; exact rfl) | ((with_reducible apply v_splitD); exact rfl; exact rfl; all_goals first | (intro hp; try (exfalso; omega)) | skip)) | ((with_reducible apply os_id); first | ((with_reducible apply os_x); exact rfl) | ((with_reducible apply os_storeAgg); exact rfl; exact rfl; exact rfl; exact rfl; exact rfl)) | ((with_reducible apply ox_id); first | ((with_reducible apply ox_alloc); exact rfl; intro _) | ((with_reducible apply ox_boxAgg); exact rfl; intro _) | ((with_reducible apply ox_buildSlice1); exact rfl; exact rfl; exact rfl; exact rfl; exact rfl; exact rfl; intro _)) | ((with_reducible apply ai_id); first | ((with_reducible apply ai_q); exact rfl; exact rfl; exact rfl; exact rfl; exact rfl) | ((with_reducible apply ai_x); exact rfl; exact rfl; exact rfl; exact rfl; exact rfl)) | ((with_reducible apply rd_id); first | (apply Rd.own; (repeat (first | exact P0 | apply P1)); exact rfl; done) | (apply Rd.old; (first | (with_reducible assumption) | exact c0 | exact c1 | exact c2 | exact c3 | exact c4 | exact c5 | exact c6 | exact c7 | exact c8 | exact d0 | exact d1 | exact d2 | exact d3 | exact d4 | exact d5); first | exact List.not_mem_nil | exact m0 | exact m1 | exact m2 | exact m3 | exact m4 | exact m5 | exact m6 | exact m7 | exact m8 | exact m9)) | ((with_reducible apply t_id); first | (apply t_mix (id := 1) [0, 1, 2, 3, 4, 5, 6, 7, 8] 3 #[false, false, false, false, false, false, false, false, false, false, false, false]; kernel_rfl; kernel_rfl; exact rfl) | ((with_reducible apply t_seq)) | (apply t_region; kernel_rfl) | (apply t_drawn; kernel_rfl; decide +kernel; try simp only [List.append_eq, List.cons_append, List.nil_append]) | ((with_reducible apply t_condF); exact rfl) | ((with_reducible apply t_condD); exact rfl; all_goals first | (intro hp; try (exfalso; omega)) | skip) | ((with_reducible apply t_ret)) | ((with_reducible apply t_skip))) | with_reducible apply q_thenN | exact P0 | ((with_reducible apply Norm.nil); exact rfl) | ((with_reducible apply Norm.cons); exact rfl) | ((with_reducible apply end_ret)) | exact rvs_nil | ((with_reducible apply rvs_cons)) | ((with_reducible apply rv_tmp); exact rfl) | ((with_reducible apply al_id); first | (apply al_done; decide +kernel) | (apply al_one 9; decide +kernel) | (apply al_one 10; decide +kernel) | (apply al_one 11; decide +kernel)) | exact Nat.le_of_ble_eq_true rfl)
            all_goals rfl
          · rw [decide_eq_false hk]
            refine enterQ (c := cx w 52) Try.func95 rfl rfl rfl rfl ?_
            repeat' (first | ((with_reducible apply oq_id); first | (apply oq_fn; exact rfl; first | exact trivial | (refine ⟨?_, ?_⟩ <;> omega) | (refine ⟨?_, ?_, ?_⟩ <;> omega) | omega | skip) | ((with_reducible apply oq_load); exact rfl; exact rfl) | ((with_reducible apply oq_call (k := 63) (hc := Try.call63)); exact rfl; exact rfl; exact fun D w1 hw1 => fromOne hw0 hw1 (by (repeat (first | exact P0 | apply P1)))) | ((with_reducible apply oq_buildA); exact rfl; exact rfl; exact rfl; exact rfl)) | ((with_reducible apply tl_id); first | ((with_reducible apply tl_nil)) | ((with_reducible apply u_q); exact rfl; exact rfl; exact rfl; exact rfl) | ((with_reducible apply u_s0); exact rfl; exact rfl) | ((with_reducible apply u_s); exact rfl; exact rfl; exact rfl)) | ((with_reducible apply gx_id); first | ((with_reducible apply v_nil)) | ((with_reducible apply v_q); exact rfl; exact rfl; exact rfl) | ((with_reducible apply v_skip); exact rfl; exact rfl; exact rfl) | ((with_reducible apply v_splitD); exact rfl; exact rfl; all_goals first | (intro hp; try (exfalso; omega)) | skip)) | ((with_reducible apply os_id); first | ((with_reducible apply os_x); exact rfl) | ((with_reducible apply os_storeAgg); exact rfl; exact rfl; exact rfl; exact rfl; exact rfl)) | ((with_reducible apply ox_id); first | ((with_reducible apply ox_alloc); exact rfl; intro _) | ((with_reducible apply ox_boxAgg); exact rfl; intro _) | ((with_reducible apply ox_buildSlice1); exact rfl; exact rfl; exact rfl; exact rfl; exact rfl; exact rfl; intro _)) | ((with_reducible apply ai_id); first | ((with_reducible apply ai_q); exact rfl; exact rfl; exact rfl; exact rfl; exact rfl) | ((with_reducible apply ai_x); exact rfl; exact rfl; exact rfl; exact rfl; exact rfl)) | ((with_reducible apply rd_id); first | (apply Rd.own; (repeat (first | exact P0 | apply P1)); exact rfl; done) | (apply Rd.old; (first | (with_reducible assumption) | exact c0 | exact c1 | exact c2 | exact c3 | exact c4 | exact c5 | exact c6 | exact c7 | exact c8 | exact d0 | exact d1 | exact d2 | exact d3 | exact d4 | exact d5); first | exact List.not_mem_nil | exact m0 | exact m1 | exact m2 | exact m3 | exact m4 | exact m5 | exact m6 | exact m7 | exact m8 | exact m9)) | ((with_reducible apply t_id); first | (apply t_mix (id := 1) [0, 1, 2, 3, 4, 5, 6, 7, 8] 3 #[false, false, false, false, false, false, false, false, false, false, false, false]; kernel_rfl; kernel_rfl; exact rfl) | ((with_reducible apply t_seq)) | (apply t_region; kernel_rfl) | (apply t_drawn; kernel_rfl; decide +kernel; try simp only [List.append_eq, List.cons_append, List.nil_append]) | ((with_reducible apply t_condF); exact rfl) | ((with_reducible apply t_condD); exact rfl; all_goals first | (intro hp; try (exfalso; omega)) | skip) | ((with_reducible apply t_ret)) | ((with_reducible apply t_skip))) | with_reducible apply q_thenN | exact P0 | ((with_reducible apply Norm.nil); exact rfl) | ((with_reducible apply Norm.cons); exact rfl) | ((with_reducible apply end_ret)) | exact rvs_nil | ((with_reducible apply rvs_cons)) | ((with_reducible apply rv_tmp); exact rfl) | ((with_reducible apply al_id); first | (apply al_done; decide +kernel) | (apply al_one 9; decide +kernel) | (apply al_one 10; decide +kernel) | (apply al_one 11; decide +kernel)) | exact Nat.le_of_ble_eq_true rfl)
            all_goals rfl
  · have hval : bookedB o.fl o.fee ⟨f, s, k⟩ = false := by unfold bookedB; simp only; rw [if_neg hin]
    rw [hval]
    have hw0 := allFrom_f (lo := 0) (hi := (o.fl.length : Int) - 1) (z := f) (by omega)
    refine enterQ (c := cx w 52) Try.func95 rfl rfl rfl rfl ?_
    repeat' (first | ((with_reducible apply oq_id); first | (apply oq_fn; exact rfl; first | exact trivial | (refine ⟨?_, ?_⟩ <;> omega) | (refine ⟨?_, ?_, ?_⟩ <;> omega) | omega | skip) | ((with_reducible apply oq_load); exact rfl; exact rfl) | ((with_reducible apply oq_call (k := 63) (hc := Try.call63)); exact rfl; exact rfl; exact fun D w1 hw1 => fromOne hw0 hw1 (by (repeat (first | exact P0 | apply P1))))) | ((with_reducible apply tl_id); first | ((with_reducible apply tl_nil)) | ((with_reducible apply u_q); exact rfl; exact rfl; exact rfl; exact rfl) | ((with_reducible apply u_s); exact rfl; exact rfl; exact rfl)) | ((with_reducible apply gx_id); first | ((with_reducible apply v_nil)) | ((with_reducible apply v_q); exact rfl; exact rfl; exact rfl)) | ((with_reducible apply os_id); first | ((with_reducible apply os_x); exact rfl)) | ((with_reducible apply ox_id); first | ((with_reducible apply ox_boxAgg); exact rfl; intro _) | ((with_reducible apply ox_buildSlice1); exact rfl; exact rfl; exact rfl; exact rfl; exact rfl; exact rfl; intro _)) | ((with_reducible apply ai_id); first | ((with_reducible apply ai_q); exact rfl; exact rfl; exact rfl; exact rfl; exact rfl) | ((with_reducible apply ai_x); exact rfl; exact rfl; exact rfl; exact rfl; exact rfl)) | ((with_reducible apply rd_id); first | (apply Rd.own; (repeat (first | exact P0 | apply P1)); exact rfl; done) | (apply Rd.old; (first | (with_reducible assumption) | exact c0 | exact c1 | exact c2 | exact c3 | exact c4 | exact c5 | exact c6 | exact c7 | exact c8 | exact d0 | exact d1 | exact d2 | exact d3 | exact d4 | exact d5); first | exact List.not_mem_nil | exact m0 | exact m1 | exact m2 | exact m3 | exact m4 | exact m5 | exact m6 | exact m7 | exact m8 | exact m9)) | ((with_reducible apply t_id); first | (apply t_mix (id := 1) [0, 1, 2, 3, 4, 5, 6, 7, 8] 3 #[false, false, false, false, false, false, false, false, false, false, false, false]; kernel_rfl; kernel_rfl; exact rfl) | ((with_reducible apply t_seq)) | (apply t_region; kernel_rfl) | ((with_reducible apply t_condT); exact rfl) | ((with_reducible apply t_ret))) | with_reducible apply q_thenN | with_reducible apply q_thenR | ((with_reducible apply end_ret)) | exact rvs_nil | ((with_reducible apply rvs_cons)) | ((with_reducible apply rv_tmp); exact rfl) | ((with_reducible apply al_id); first | (apply al_done; decide +kernel) | (apply al_one 9; decide +kernel) | (apply al_one 10; decide +kernel) | (apply al_one 11; decide +kernel)))
    all_goals rfl

end Go.Proofs.Ytmlmgipngbndgaa
/- The iterator over the bookings of a departure that are in some state. -/
namespace Go.Proofs.Ytmlmgipngbndgaa
open Go.RowKit
attribute [local irreducible] OQ OS OX Rd T TL GX GL AL AI RV wpG SAny Calls
set_option maxRecDepth 100000
set_option maxHeartbeats 2000000
set_option linter.unusedVariables false
set_option linter.unusedSimpArgs false

theorem cell_putX {w : World} {p : Addr} {u : Value} {l : Nat} {o o' : Obj} (h : w.cell? p = some u) (ho : w.heap[l]? = some o) (hc : o.isCells = false) : (w.putObj l o').cell? p = some u := by
  by_cases e : p.block = l
  · subst e
    exfalso
    unfold World.cell? at h
    rw [ho] at h
    cases o <;> simp_all [Obj.isCells]
  · unfold World.cell? at h ⊢
    rw [World.putObj_heap_other e]
    exact h
theorem RdS.putX {w : World} {k : Nat} {A : Option Addr} {n : Nat} {xs : List (List Value)} {l : Nat} {o o' : Obj} (h : RdS w k A n xs) (ho : w.heap[l]? = some o) (hc : o.isCells = false) : RdS (w.putObj l o') k A n xs :=
  ⟨h.len, fun hn => by
    obtain ⟨b, o, rfl, hb, hx⟩ := h.at_ hn
    exact ⟨b, o, rfl, by simpa using hb, fun i x hi => ⟨(hx i x hi).1, fun j u hu => cell_putX ((hx i x hi).2 j u hu) ho hc⟩⟩⟩
/-- Two readings of a slice agree. -/
theorem RdS.inj {w : World} {k : Nat} {A : Option Addr} {n : Nat} {xs ys : List (List Value)} (h : RdS w k A n xs) (h' : RdS w k A n ys) : xs = ys := by
  have l1 := h.len
  have l2 := h'.len
  refine List.ext_getElem (by omega) fun i hi hi' => ?_
  obtain ⟨b, o, hA, _, hx⟩ := h.at_ (by omega)
  obtain ⟨b', o', hA', _, hx'⟩ := h'.at_ (by omega)
  rw [hA] at hA'
  obtain ⟨rfl, rfl⟩ : b = b' ∧ o = o' := by simpa using hA'
  have a1 := hx i _ (List.getElem?_eq_getElem hi)
  have a2 := hx' i _ (List.getElem?_eq_getElem hi')
  refine List.ext_getElem (by omega) fun j hj hj' => ?_
  have e1 := a1.2 j _ (List.getElem?_eq_getElem hj)
  have e2 := a2.2 j _ (List.getElem?_eq_getElem hj')
  rw [e1] at e2
  exact Option.some.inj e2
theorem bk_inj {l l' : List Bk} (h : l.map bkCells = l'.map bkCells) : l = l' := by
  have hl : l.length = l'.length := by simpa using congrArg List.length h
  refine List.ext_getElem hl fun i hi hi' => ?_
  have := congrArg (fun m : List (List Value) => m[i]?) h
  simp [hi, hi', bkCells] at this
  obtain ⟨h1, h2, h3⟩ := this
  cases hx : l[i]; cases hy : l'[i]
  simp_all
/-- Is a booking of a departure, and in one of some states? -/
def mtB (f : Int) (sts : List Int) (x : Bk) : Bool := decide (x.flight = f) && sts.any fun s => decide (x.state = s)
/-- What the iterator reads. -/
structure OfAt (b0 b1 b2 bd : Nat) (B : Option Addr) (nb cb : Nat) (f : Int) (S : Option Addr) (ns cs : Nat) (sts : List Int) (W : World) : Prop where
  x0 : W.cell? ⟨b0, 0, none⟩ = some (.pointer (some ⟨bd, 0, none⟩))
  x1 : W.cell? ⟨b1, 0, none⟩ = some (.int .i64 f)
  x2 : W.cell? ⟨b2, 0, none⟩ = some (.slice S ns cs)
  st : RdS W 1 S ns (sts.map u8Cells)
  bks : W.cell? ⟨bd, 4, none⟩ = some (.slice B nb cb)
  bk : ∃ bk : List Bk, RdS W 3 B nb (bk.map bkCells)
/-- A place in a list of n. -/
def Ix (n : Nat) : Type := { i : Nat // i < n }
def behind {n : Nat} (pre : List (Ix n)) (j : Nat) : Prop := ∀ p ∈ pre, p.1 < j
/-- What it tells at a yield. -/
def OfG (B : Option Addr) (nb : Nat) (f : Int) (sts : List Int) (pre : List (Ix nb)) (x : Ix nb) (W : World) : Prop :=
  behind pre x.1 ∧ ∃ bk : List Bk, RdS W 3 B nb (bk.map bkCells) ∧ (∀ y, bk[x.1]? = some y → mtB f sts y = true) ∧ ∀ j y, behind pre j → j < x.1 → bk[j]? = some y → mtB f sts y = false
/-- What it tells at its end. -/
def OfE (B : Option Addr) (nb : Nat) (f : Int) (sts : List Int) (xs : List (Ix nb)) (W : World) : Prop :=
  ∃ bk : List Bk, RdS W 3 B nb (bk.map bkCells) ∧ ∀ j y, behind xs j → bk[j]? = some y → mtB f sts y = false
theorem OfG.abide (B : Option Addr) (nb : Nat) (f : Int) (sts : List Int) (n0 : Nat) (x : Ix nb) : Abide n0 (fun pre W => OfG B nb f sts pre x W) :=
  ⟨fun pre A C ⟨h1, bk, h2, h3⟩ e => ⟨h1, bk, h2.ext e, h3⟩, fun pre A l o o' ⟨h1, bk, h2, h3⟩ _ ho hc => ⟨h1, bk, h2.putX ho hc, h3⟩⟩
theorem OfE.abide (B : Option Addr) (nb : Nat) (f : Int) (sts : List Int) (n0 : Nat) : Abide n0 (OfE B nb f sts) :=
  ⟨fun pre A C ⟨bk, h2, h3⟩ e => ⟨bk, h2.ext e, h3⟩, fun pre A l o o' ⟨bk, h2, h3⟩ _ ho hc => ⟨bk, h2.putX ho hc, h3⟩⟩
/-- Nothing is left out in front of k. -/
def OfN (B : Option Addr) (nb : Nat) (f : Int) (sts : List Int) (pre : List (Ix nb)) (k : Nat) (W : World) : Prop :=
  ∃ bk : List Bk, RdS W 3 B nb (bk.map bkCells) ∧ ∀ j y, behind pre j → j < k → bk[j]? = some y → mtB f sts y = false
theorem then_exit {K : Act → World → Prop} {Q : Exit → Act → World → Prop} {id : Nat} {a : Act} {w : World} (h : Q (.exit id) a w) : Exit.then K Q (.exit id) a w := h
theorem then_ret {K : Act → World → Prop} {Q : Exit → Act → World → Prop} {a : Act} {w : World} (h : Q .ret a w) : Exit.then K Q .ret a w := h
theorem inBlock_exit {Q : Exit → Act → World → Prop} {id : Nat} {a : Act} {w : World} (h : Q .normal a w) : Exit.inBlock id Q (.exit id) a w := by simpa [Exit.inBlock] using h
theorem inBlock_ret {Q : Exit → Act → World → Prop} {id : Nat} {a : Act} {w : World} (h : Q .ret a w) : Exit.inBlock id Q .ret a w := h
def slot13 (a : Act) : Nat := match a.tmps[13]? with | some (Value.int _ z) => z.toNat | _ => 0

set_option maxRecDepth 100000 in
theorem of1_seqV (n : Nat) (b0 b1 b2 bd gB oB : Nat) (B : Option Addr) (nb cb : Nat) (f : Int) (S : Option Addr) (ns cs : Nat) (sts : List Int) (hB : 0 < nb → B = some ⟨gB, oB, none⟩) (hnb : nb ≤ 1000000) (hns : ns ≤ 1000000) :
    SeqV n Try.prog 100 #[.pointer (some ⟨b0, 0, none⟩), .pointer (some ⟨b1, 0, none⟩), .pointer (some ⟨b2, 0, none⟩)] (fun x : Ix nb => #[.pointer (some ⟨gB, oB + x.1 * 3, none⟩)])
      (fun _ W => OfAt b0 b1 b2 bd B nb cb f S ns cs sts W) (OfG B nb f sts) (OfE B nb f sts) := by
  intro l J Jx W hJe hXe hJR hY h0
  have HY := Lib.hid hY
  clear hY
  refine callsIn_of_wp Try.func100 rfl trivial ?_ rfl
  have hf0 : Frm [] 44 (frOf 0 [.func (.yield l) #[] #[], .pointer (some ⟨b0, 0, none⟩), .pointer (some ⟨b1, 0, none⟩), .pointer (some ⟨b2, 0, none⟩)]) { tmps := #[.func (.yield l) #[] #[]] ++ #[.pointer (some ⟨b0, 0, none⟩), .pointer (some ⟨b1, 0, none⟩), .pointer (some ⟨b2, 0, none⟩)] ++ Array.replicate (44 - 4) undef, defers := [] } :=
    ⟨by simp, rfl, fun d v hv => by
      have := (look_frOf _ 0 d v hv).2
      have hlt := (List.getElem?_eq_some_iff.1 this).1
      rw [Array.getElem?_append_left (by simpa using hlt)]
      simpa using this⟩
  refine (?_ : ∀ a : Act, Frm [] 44 (frOf 0 [.func (.yield l) #[] #[], .pointer (some ⟨b0, 0, none⟩), .pointer (some ⟨b1, 0, none⟩), .pointer (some ⟨b2, 0, none⟩)]) a → Code.wpIn Fence.wide n Try.prog _ _ a W) _ hf0
  clear hf0
  intro a hf0
  obtain ⟨c0, c1, c2, hst, c3, bk0, hbk0⟩ := hJR _ _ h0
  refine wpIn_seq ?_
  refine g_region (c := cx W 44) (R := fun F' => FrSub F' [(0, .func (.yield l) #[] #[]), (1, .pointer (some ⟨b0, 0, none⟩)), (2, .pointer (some ⟨b1, 0, none⟩)), (3, .pointer (some ⟨b2, 0, none⟩)), (12, .int .i64 (nb : Int)), (13, .int .i64 (0 : Int))]) hf0 (Has.start W) ?_ ?_
  · all_goals (try with_reducible apply gx_id)
    repeat' (first | ((with_reducible apply oq_id); first | (apply oq_fn; exact rfl; first | exact trivial | (refine ⟨?_, ?_⟩ <;> omega) | (refine ⟨?_, ?_, ?_⟩ <;> omega) | omega | skip) | ((with_reducible apply oq_load); exact rfl; exact rfl)) | ((with_reducible apply gx_id); first | ((with_reducible apply v_nil)) | ((with_reducible apply v_q); exact rfl; exact rfl; exact rfl)) | ((with_reducible apply rd_id); first | (apply Rd.old; (first | (with_reducible assumption) | exact c0 | exact c1 | exact c2 | exact c3 | exact c4 | exact c5 | exact c6 | exact c7 | exact c8 | exact d0 | exact d1 | exact d2 | exact d3 | exact d4 | exact d5); first | exact List.not_mem_nil | exact m0 | exact m1 | exact m2 | exact m3 | exact m4 | exact m5 | exact m6 | exact m7 | exact m8 | exact m9)))
    all_goals (repeat (first | exact FrSub.nil | (apply FrSub.cons; exact rfl)))
  intro F1 a1 w1 hF1 hf1 hw1
  show Code.wpIn _ _ _ _ _ _ _
  refine wpIn_block ?_
  refine wpIn_loop (fun a w => ∃ k pre, k ≤ nb ∧ Frm [] 44 [(0, .func (.yield l) #[] #[]), (1, .pointer (some ⟨b0, 0, none⟩)), (2, .pointer (some ⟨b1, 0, none⟩)), (3, .pointer (some ⟨b2, 0, none⟩)), (12, .int .i64 (nb : Int)), (13, .int .i64 (k : Int))] a ∧ J pre w ∧ behind pre k ∧ OfN B nb f sts pre k w) (fun a _ => nb - slot13 a) ?_ ?_
  · exact ⟨0, [], Nat.zero_le _, hf1.sub hF1, hJe _ _ _ h0 hw1.ext.ext, fun p hp => (List.not_mem_nil hp).elim, bk0, hbk0.ext hw1.ext.ext, fun j y _ hj => absurd hj (Nat.not_lt_zero _)⟩
  clear hf0 c0 c1 c2 c3 hst hbk0 hF1 hf1 hw1
  rintro a2 w2 ⟨k, pre, hk, hf2, hJ2, hb2, hn2⟩
  have hs2 : slot13 a2 = k := by
    have := hf2.at_ 13 (.int .i64 (k : Int)) rfl
    unfold slot13
    rw [this]
    simp
  refine wpIn_seq ?_
  refine g_region (c := cx w2 44) (R := fun F' => FrSub F' [(0, .func (.yield l) #[] #[]), (1, .pointer (some ⟨b0, 0, none⟩)), (2, .pointer (some ⟨b1, 0, none⟩)), (3, .pointer (some ⟨b2, 0, none⟩)), (12, .int .i64 (nb : Int)), (13, .int .i64 (k : Int)), (14, .bool (decide ((k : Int) < (nb : Int))))]) hf2 (Has.start w2) ?_ ?_
  · all_goals (try with_reducible apply gx_id)
    repeat' (first | ((with_reducible apply oq_id); first | (apply oq_fn; exact rfl; first | exact trivial | (refine ⟨?_, ?_⟩ <;> omega) | (refine ⟨?_, ?_, ?_⟩ <;> omega) | omega | skip)) | ((with_reducible apply gx_id); first | ((with_reducible apply v_nil)) | ((with_reducible apply v_q); exact rfl; exact rfl; exact rfl)))
    all_goals (repeat (first | exact FrSub.nil | (apply FrSub.cons; exact rfl)))
  intro F3 a3 w3 hF3 hf3 hw3
  show Code.wpIn _ _ _ _ _ _ _
  have hf3' := hf3.sub hF3
  clear hf3 hF3
  have e3 := hw3.ext.ext
  have hJ3 := hJe _ _ _ hJ2 e3
  obtain ⟨bk, hbk2, hno⟩ := hn2
  have hbk := hbk2.ext e3
  clear hw3 e3 hJ2 hf2 hbk2
  refine wpIn_seq ?_
  by_cases hlt : k < nb
  · refine wpIn_cond_true (by have := hf3'.at_ 14 _ rfl; simpa [Act.eval, Array.getD_eq_getD_getElem?, this] using hlt) ?_
    refine wpIn_skip ?_
    show Code.wpIn _ _ _ _ _ _ _
    refine wpIn_seq ?_
    refine wpIn_block ?_
    obtain ⟨c0, c1, c2, hst, c3, _⟩ := hJR _ _ hJ3
    obtain ⟨gB', oB', x, hBe, hgB, hx, c4, c5, c6⟩ := bk_read hbk hlt
    obtain ⟨rfl, rfl⟩ : gB' = gB ∧ oB' = oB := by rw [hB (by omega)] at hBe; simpa [eq_comm] using hBe
    subst hBe
    refine wpIn_seq ?_
    refine g_region (c := cx w3 44) (R := fun F' => FrSub F' [(0, .func (.yield l) #[] #[]), (1, .pointer (some ⟨b0, 0, none⟩)), (2, .pointer (some ⟨b1, 0, none⟩)), (3, .pointer (some ⟨b2, 0, none⟩)), (12, .int .i64 (nb : Int)), (13, .int .i64 (k : Int)), (5, .int .i64 (k : Int))]) hf3' (Has.start w3) ?_ ?_
    · all_goals (try with_reducible apply gx_id)
      repeat' (first | ((with_reducible apply oq_id); first | (apply oq_fn; exact rfl; first | exact trivial | (refine ⟨?_, ?_⟩ <;> omega) | (refine ⟨?_, ?_, ?_⟩ <;> omega) | omega | skip)) | ((with_reducible apply gx_id); first | ((with_reducible apply v_nil)) | ((with_reducible apply v_q); exact rfl; exact rfl; exact rfl)))
      all_goals (repeat (first | exact FrSub.nil | (apply FrSub.cons; exact rfl)))
    intro F4 a4 w4 hF4 hf4 hw4
    show Code.wpIn _ _ _ _ _ _ _
    refine wpIn_seq ?_
    refine g_region (c := cx w3 44) (R := fun F' => FrSub F' [(0, .func (.yield l) #[] #[]), (1, .pointer (some ⟨b0, 0, none⟩)), (2, .pointer (some ⟨b1, 0, none⟩)), (3, .pointer (some ⟨b2, 0, none⟩)), (12, .int .i64 (nb : Int)), (13, .int .i64 (k : Int)), (6, .pointer (some ⟨gB', oB' + k * 3, none⟩))]) (hf4.sub hF4) hw4 ?_ ?_
    · clear c4 c5 c6
      all_goals (try with_reducible apply gx_id)
      repeat' (first | ((with_reducible apply oq_id); first | (focus ((with_reducible apply oq_indexAddrN); exact rfl; exact rfl; exact rfl; exact rfl; omega)) | (apply oq_fn; exact rfl; first | exact trivial | (refine ⟨?_, ?_⟩ <;> omega) | (refine ⟨?_, ?_, ?_⟩ <;> omega) | omega | skip) | ((with_reducible apply oq_load); exact rfl; exact rfl)) | ((with_reducible apply gx_id); first | ((with_reducible apply v_nil)) | ((with_reducible apply v_q); exact rfl; exact rfl; exact rfl)) | ((with_reducible apply rd_id); first | (apply Rd.old; (first | (with_reducible assumption) | exact c0 | exact c1 | exact c2 | exact c3 | exact c4 | exact c5 | exact c6 | exact c7 | exact c8 | exact d0 | exact d1 | exact d2 | exact d3 | exact d4 | exact d5); first | exact List.not_mem_nil | exact m0 | exact m1 | exact m2 | exact m3 | exact m4 | exact m5 | exact m6 | exact m7 | exact m8 | exact m9)))
      all_goals (repeat (first | exact FrSub.nil | (apply FrSub.cons; exact rfl)))
    clear hF4 hf4 hw4
    intro F5 a5 w5 hF5 hf5 hw5
    show Code.wpIn _ _ _ _ _ _ _
    have hf5' := hf5.sub hF5
    clear hf5 hF5
    have hbkx := hbk
    refine wpIn_seq ?_
    -- the end of a round
    have fin : ∀ (Z : Exit → Act → World → Prop) (F7 : Fr) (a7 : Act) (w7 : World) (pre' : List (Ix nb)), FrSub F7 [(0, .func (.yield l) #[] #[]), (1, .pointer (some ⟨b0, 0, none⟩)), (2, .pointer (some ⟨b1, 0, none⟩)), (3, .pointer (some ⟨b2, 0, none⟩)), (12, .int .i64 (nb : Int)), (13, .int .i64 (k : Int))] → Frm [] 44 F7 a7 → J pre' w7 → behind pre' (k + 1) → OfN (some ⟨gB', oB', none⟩) nb f sts pre' (k + 1) w7 →
        (∀ a8 w8, ((∃ k pre, k ≤ nb ∧ Frm [] 44 [(0, .func (.yield l) #[] #[]), (1, .pointer (some ⟨b0, 0, none⟩)), (2, .pointer (some ⟨b1, 0, none⟩)), (3, .pointer (some ⟨b2, 0, none⟩)), (12, .int .i64 (nb : Int)), (13, .int .i64 (k : Int))] a8 ∧ J pre w8 ∧ behind pre k ∧ OfN (some ⟨gB', oB', none⟩) nb f sts pre k w8) ∧ nb - slot13 a8 < nb - slot13 a2) → Z .normal a8 w8) →
        Code.wpIn Fence.wide n Try.prog (Code.region 5 #[⟨some 43, .binOp .add 3 (.tmp 13) (.const (.int .i64 1)) 3, 3, "office.go:16", #[], none⟩, ⟨some 13, .move (.tmp 43), 3, "office.go:16", #[{ on := 0, ground := .data }], none⟩] false) Z a7 w7 := by
      intro Z F7 a7 w7 pre' hF7 hf7 hJ7 hb7 hN7 hZ
      refine g_region (c := cx w7 44) (R := fun F' => FrSub F' [(0, .func (.yield l) #[] #[]), (1, .pointer (some ⟨b0, 0, none⟩)), (2, .pointer (some ⟨b1, 0, none⟩)), (3, .pointer (some ⟨b2, 0, none⟩)), (12, .int .i64 (nb : Int)), (13, .int .i64 ((k : Int) + 1))]) (hf7.sub hF7) (Has.start w7) ?_ ?_
      · all_goals (try with_reducible apply gx_id)
        repeat' (first | ((with_reducible apply oq_id); first | (apply oq_fn; exact rfl; first | exact trivial | (refine ⟨?_, ?_⟩ <;> omega) | (refine ⟨?_, ?_, ?_⟩ <;> omega) | omega | skip)) | ((with_reducible apply gx_id); first | ((with_reducible apply v_nil)) | ((with_reducible apply v_q); exact rfl; exact rfl; exact rfl)))
        all_goals (repeat (first | exact FrSub.nil | (apply FrSub.cons; exact rfl)))
      intro F8 a8 w8 hF8 hf8 hw8
      have hf8' := hf8.sub hF8
      have hs8 : slot13 a8 = k + 1 := by
        have := hf8'.at_ 13 (.int .i64 ((k : Int) + 1)) rfl
        unfold slot13
        rw [this]
        simp only
        omega
      obtain ⟨bk7, hr7, hn7⟩ := hN7
      exact hZ a8 w8 ⟨⟨k + 1, pre', by omega, hf8', hJe _ _ _ hJ7 hw8.ext.ext, hb7, bk7, hr7.ext hw8.ext.ext, hn7⟩, by rw [hs8, hs2]; omega⟩
    -- behind a booking that is none of these
    have none_ : mtB f sts x = false → ∀ (w7 : World), Ext w3 w7 → J pre w7 ∧ behind pre (k + 1) ∧ OfN (some ⟨gB', oB', none⟩) nb f sts pre (k + 1) w7 := fun hm w7 e7 =>
      ⟨hJe _ _ _ hJ3 e7, fun p hp => Nat.lt_succ_of_lt (hb2 p hp), bk, hbk.ext e7, fun j y hj hjk hy => by
        by_cases hjk' : j < k
        · exact hno j y hj hjk' hy
        · obtain rfl : j = k := by omega
          rw [hx] at hy
          rw [← Option.some.inj hy]
          exact hm⟩
    by_cases h1 : x.flight = f
    · subst h1
      have HC := fun w1 h => containsU8_calls x.state S ns cs sts w1 h hns
      cases hq : sts.any fun s => decide (x.state = s) with
      | false =>
        rw [hq] at HC
        have hm : mtB x.flight sts x = false := by unfold mtB; rw [hq]; simp
        refine g_mixIn (c := cx w3 44) (id := 4) (R := fun F' => FrSub F' [(0, .func (.yield l) #[] #[]), (1, .pointer (some ⟨b0, 0, none⟩)), (2, .pointer (some ⟨b1, 0, none⟩)), (3, .pointer (some ⟨b2, 0, none⟩)), (12, .int .i64 (nb : Int)), (13, .int .i64 (k : Int)), (37, .bool false)]) [0, 1, 2, 3, 4, 5, 6, 7, 8, 9, 10, 11, 12, 13, 14, 15, 16] 3 #[false, false, false, false, false, false, false, false, false, false, false, false, false, false, false, false, false, true, true, true] (by kernel_rfl) (by kernel_rfl) rfl hf5' hw5 ?_ ?_
        · all_goals (try with_reducible apply gx_id)
          repeat' (first | ((with_reducible apply oq_id); first | (apply oq_fn; exact rfl; first | exact trivial | (refine ⟨?_, ?_⟩ <;> omega) | (refine ⟨?_, ?_, ?_⟩ <;> omega) | omega | skip) | ((with_reducible apply oq_load); exact rfl; exact rfl) | ((with_reducible apply oq_call (k := 101) (hc := Try.call101)); exact rfl; exact rfl; exact fun D w1 hw1 => HC w1 (hst.ext hw1.ext.ext))) | ((with_reducible apply gx_id); first | ((with_reducible apply v_nil)) | ((with_reducible apply v_q); exact rfl; exact rfl; exact rfl) | ((with_reducible apply v_skip); exact rfl; exact rfl; exact rfl) | ((with_reducible apply v_splitD); exact rfl; exact rfl; all_goals first | (intro hp; try (exfalso; omega)) | skip)) | ((with_reducible apply rd_id); first | (apply Rd.old; (first | (with_reducible assumption) | exact c0 | exact c1 | exact c2 | exact c3 | exact c4 | exact c5 | exact c6 | exact c7 | exact c8 | exact d0 | exact d1 | exact d2 | exact d3 | exact d4 | exact d5); first | exact List.not_mem_nil | exact m0 | exact m1 | exact m2 | exact m3 | exact m4 | exact m5 | exact m6 | exact m7 | exact m8 | exact m9)))
          all_goals (repeat (first | exact FrSub.nil | (apply FrSub.cons; exact rfl)))
        intro F6 a6 w6 hF6 hf6 hw6
        have hf6' := hf6.sub hF6
        refine SInI_one (i := 17) (by decide +kernel) rfl ?_
        refine wpOpIn_off rfl (runs_spec hf6' rfl) ?_
        have hf7 := hf6'.put (d := 40) rfl undef
        refine wpAnyIn_one (i := 18) (by decide +kernel) ?_
        refine wpOpIn_off rfl (runs_spec hf7 rfl) ?_
        have hf8 := hf7.put (d := 41) rfl undef
        refine wpAnyIn_one (i := 19) (by decide +kernel) ?_
        refine wpOpIn_on rfl (runs_spec hf8 rfl) ?_
        refine wpIn_oq (c := cx w3 44) (v := .bool false) hf8 hw6 rfl rfl (by apply oq_fn; exact rfl; exact trivial) ?_
        intro a9 w9 hf9 hw9
        refine wpAnyIn_done (by decide +kernel) ?_ _
        show Code.wpIn _ _ _ _ _ _ _
        refine wpIn_cond_false (by have := hf9.at_ 42 _ rfl; simp [Act.eval, Array.getD_eq_getD_getElem?, this]) ?_
        refine wpIn_skip ?_
        show Code.wpIn _ _ _ _ _ _ _
        obtain ⟨g1, g2, g3⟩ := none_ hm w9 hw9.ext.ext
        refine fin _ _ _ _ pre ?_ hf9 g1 g2 g3 fun a8 w8 h => h
        (repeat (first | exact FrSub.nil | (apply FrSub.cons; exact rfl)))
      | true =>
        rw [hq] at HC
        have hm : mtB x.flight sts x = true := by unfold mtB; rw [hq]; simp
        refine g_mixIn (c := cx w3 44) (id := 4) (R := fun F' => FrSub F' [(0, .func (.yield l) #[] #[]), (1, .pointer (some ⟨b0, 0, none⟩)), (2, .pointer (some ⟨b1, 0, none⟩)), (3, .pointer (some ⟨b2, 0, none⟩)), (12, .int .i64 (nb : Int)), (13, .int .i64 (k : Int)), (6, .pointer (some ⟨gB', oB' + k * 3, none⟩)), (37, .bool true), (38, .func (.yield l) #[] #[]), (39, .pointer (some ⟨gB', oB' + k * 3, none⟩))]) [0, 1, 2, 3, 4, 5, 6, 7, 8, 9, 10, 11, 12, 13, 14, 15, 16] 3 #[false, false, false, false, false, false, false, false, false, false, false, false, false, false, false, false, false, true, true, true] (by kernel_rfl) (by kernel_rfl) rfl hf5' hw5 ?_ ?_
        · all_goals (try with_reducible apply gx_id)
          repeat' (first | ((with_reducible apply oq_id); first | (apply oq_fn; exact rfl; first | exact trivial | (refine ⟨?_, ?_⟩ <;> omega) | (refine ⟨?_, ?_, ?_⟩ <;> omega) | omega | skip) | ((with_reducible apply oq_load); exact rfl; exact rfl) | ((with_reducible apply oq_call (k := 101) (hc := Try.call101)); exact rfl; exact rfl; exact fun D w1 hw1 => HC w1 (hst.ext hw1.ext.ext))) | ((with_reducible apply gx_id); first | ((with_reducible apply v_nil)) | ((with_reducible apply v_q); exact rfl; exact rfl; exact rfl) | ((with_reducible apply v_splitD); exact rfl; exact rfl; all_goals first | (intro hp; try (exfalso; omega)) | skip)) | ((with_reducible apply rd_id); first | (apply Rd.old; (first | (with_reducible assumption) | exact c0 | exact c1 | exact c2 | exact c3 | exact c4 | exact c5 | exact c6 | exact c7 | exact c8 | exact d0 | exact d1 | exact d2 | exact d3 | exact d4 | exact d5); first | exact List.not_mem_nil | exact m0 | exact m1 | exact m2 | exact m3 | exact m4 | exact m5 | exact m6 | exact m7 | exact m8 | exact m9)))
          all_goals (repeat (first | exact FrSub.nil | (apply FrSub.cons; exact rfl)))
        intro F6 a6 w6 hF6 hf6 hw6
        have hf6' := hf6.sub hF6
        have e6 := hw6.ext.ext
        refine SInI_one (i := 17) (by decide +kernel) rfl ?_
        refine wpOpIn_on rfl (runs_spec hf6' rfl) ?_
        have e38 := hf6'.at_ 38 _ rfl
        have e39 := hf6'.at_ 39 _ rfl
        refine wpIn_yield (l := l) (args := #[.pointer (some ⟨gB', oB' + k * 3, none⟩)]) ?_ (HY.out pre ⟨k, hlt⟩ w6 (hJe _ _ _ hJ3 e6) ⟨hb2, bk, hbk.ext e6, fun y hy => by rw [hx] at hy; rw [← Option.some.inj hy]; exact hm, hno⟩) ?_
        · simp [execOp, resolve, invoke, go_sem, Act.eval, Array.getD_eq_getD_getElem?, e38, e39]
        rintro e w7 (⟨rfl, hJ7⟩ | ⟨rfl, hJ7⟩)
        · refine ⟨_, rfl, ?_⟩
          have hf7 := hf6'.put (d := 40) rfl (.bool true)
          refine wpAnyIn_one (i := 18) (by decide +kernel) ?_
          refine wpOpIn_on rfl (runs_spec hf7 rfl) ?_
          refine wpIn_oq (c := cx w7 44) (H := []) (D := []) (v := .bool false) hf7 (Has.start w7) rfl rfl (by apply oq_fn; exact rfl; exact trivial) ?_
          intro a8 w8 hf8 hw8
          refine wpAnyIn_one (i := 19) (by decide +kernel) ?_
          refine wpOpIn_on rfl (runs_spec hf8 rfl) ?_
          refine wpIn_oq (c := cx w7 44) (v := .bool false) hf8 hw8 rfl rfl (by apply oq_fn; exact rfl; exact trivial) ?_
          intro a9 w9 hf9 hw9
          refine wpAnyIn_done (by decide +kernel) ?_ _
          show Code.wpIn _ _ _ _ _ _ _
          refine wpIn_cond_false (by have := hf9.at_ 42 _ rfl; simp [Act.eval, Array.getD_eq_getD_getElem?, this]) ?_
          refine wpIn_skip ?_
          show Code.wpIn _ _ _ _ _ _ _
          obtain ⟨_, _, _, _, _, bk7, hbk7⟩ := hJR _ _ hJ7
          refine fin _ _ _ _ (pre ++ [⟨k, hlt⟩]) ?_ hf9 (hJe _ _ _ hJ7 hw9.ext.ext) ?_ ⟨bk7, hbk7.ext hw9.ext.ext, ?_⟩ fun a8 w8 h => h
          · (repeat (first | exact FrSub.nil | (apply FrSub.cons; exact rfl)))
          · intro p hp
            rcases List.mem_append.1 hp with h | h
            · exact Nat.lt_succ_of_lt (hb2 p h)
            · rw [List.mem_singleton.1 h]; exact Nat.lt_succ_self k
          · intro j y hj hjk
            have := hj ⟨k, hlt⟩ (List.mem_append_right _ (List.mem_singleton.2 rfl))
            simp only at this
            omega
        · refine ⟨_, rfl, ?_⟩
          have hf7 := hf6'.put (d := 40) rfl (.bool false)
          refine wpAnyIn_one (i := 18) (by decide +kernel) ?_
          refine wpOpIn_on rfl (runs_spec hf7 rfl) ?_
          refine wpIn_oq (c := cx w7 44) (H := []) (D := []) (v := .bool true) hf7 (Has.start w7) rfl rfl (by apply oq_fn; exact rfl; exact trivial) ?_
          intro a8 w8 hf8 hw8
          refine wpAnyIn_one (i := 19) (by decide +kernel) ?_
          refine wpOpIn_on rfl (runs_spec hf8 rfl) ?_
          refine wpIn_oq (c := cx w7 44) (v := .bool true) hf8 hw8 rfl rfl (by apply oq_fn; exact rfl; exact trivial) ?_
          intro a9 w9 hf9 hw9
          refine wpAnyIn_done (by decide +kernel) ?_ _
          show Code.wpIn _ _ _ _ _ _ _
          refine wpIn_cond_true (by have := hf9.at_ 42 _ rfl; simp [Act.eval, Array.getD_eq_getD_getElem?, this]) ?_
          refine wpIn_ret ?_
          repeat (first | refine then_ret ?_ | refine inBlock_ret ?_)
          exact bodyPost_ret (results_none rfl _ _ _) (by rw [hf9.defers]; rfl) ⟨⟨_, rfl⟩, .inr ⟨_, hXe _ _ _ hJ7 hw9.ext.ext⟩⟩
    · have hm : mtB f sts x = false := by unfold mtB; rw [decide_eq_false h1]; rfl
      refine g_mixIn (c := cx w3 44) (id := 4) (R := fun F' => FrSub F' [(0, .func (.yield l) #[] #[]), (1, .pointer (some ⟨b0, 0, none⟩)), (2, .pointer (some ⟨b1, 0, none⟩)), (3, .pointer (some ⟨b2, 0, none⟩)), (12, .int .i64 (nb : Int)), (13, .int .i64 (k : Int)), (37, .bool false)]) [0, 1, 2, 3, 4, 5, 6, 7, 8, 9, 10, 11, 12, 13, 14, 15, 16] 3 #[false, false, false, false, false, false, false, false, false, false, false, false, false, false, false, false, false, true, true, true] (by kernel_rfl) (by kernel_rfl) rfl hf5' hw5 ?_ ?_
      · all_goals (try with_reducible apply gx_id)
        repeat' (first | ((with_reducible apply oq_id); first | (apply oq_fn; exact rfl; first | exact trivial | (refine ⟨?_, ?_⟩ <;> omega) | (refine ⟨?_, ?_, ?_⟩ <;> omega) | omega | skip) | ((with_reducible apply oq_load); exact rfl; exact rfl)) | ((with_reducible apply gx_id); first | ((with_reducible apply v_nil)) | ((with_reducible apply v_q); exact rfl; exact rfl; exact rfl) | ((with_reducible apply v_skip); exact rfl; exact rfl; exact rfl) | ((with_reducible apply v_splitD); exact rfl; exact rfl; all_goals first | (intro hp; try (exfalso; omega)) | skip)) | ((with_reducible apply rd_id); first | (apply Rd.old; (first | (with_reducible assumption) | exact c0 | exact c1 | exact c2 | exact c3 | exact c4 | exact c5 | exact c6 | exact c7 | exact c8 | exact d0 | exact d1 | exact d2 | exact d3 | exact d4 | exact d5); first | exact List.not_mem_nil | exact m0 | exact m1 | exact m2 | exact m3 | exact m4 | exact m5 | exact m6 | exact m7 | exact m8 | exact m9)))
        all_goals (repeat (first | exact FrSub.nil | (apply FrSub.cons; exact rfl)))
      intro F6 a6 w6 hF6 hf6 hw6
      have hf6' := hf6.sub hF6
      refine SInI_one (i := 17) (by decide +kernel) rfl ?_
      refine wpOpIn_off rfl (runs_spec hf6' rfl) ?_
      have hf7 := hf6'.put (d := 40) rfl undef
      refine wpAnyIn_one (i := 18) (by decide +kernel) ?_
      refine wpOpIn_off rfl (runs_spec hf7 rfl) ?_
      have hf8 := hf7.put (d := 41) rfl undef
      refine wpAnyIn_one (i := 19) (by decide +kernel) ?_
      refine wpOpIn_on rfl (runs_spec hf8 rfl) ?_
      refine wpIn_oq (c := cx w3 44) (v := .bool false) hf8 hw6 rfl rfl (by apply oq_fn; exact rfl; exact trivial) ?_
      intro a9 w9 hf9 hw9
      refine wpAnyIn_done (by decide +kernel) ?_ _
      show Code.wpIn _ _ _ _ _ _ _
      refine wpIn_cond_false (by have := hf9.at_ 42 _ rfl; simp [Act.eval, Array.getD_eq_getD_getElem?, this]) ?_
      refine wpIn_skip ?_
      show Code.wpIn _ _ _ _ _ _ _
      obtain ⟨g1, g2, g3⟩ := none_ hm w9 hw9.ext.ext
      refine fin _ _ _ _ pre ?_ hf9 g1 g2 g3 fun a8 w8 h => h
      (repeat (first | exact FrSub.nil | (apply FrSub.cons; exact rfl)))
  · obtain rfl : k = nb := by omega
    refine wpIn_cond_false (by have := hf3'.at_ 14 _ rfl; simp [Act.eval, Array.getD_eq_getD_getElem?, this]) ?_
    refine wpIn_exit ?_
    refine then_exit (then_exit (inBlock_exit ?_))
    refine bodyPost_end (results_none rfl _ _ _) (by rw [hf3'.defers]; rfl) ?_
    refine ⟨⟨_, rfl⟩, .inl ⟨pre, ⟨bk, hbk, fun j y hj hy => ?_⟩, hJ3⟩⟩
    have hjl := (List.getElem?_eq_some_iff.1 hy).1
    have hl := hbk.len
    simp only [List.length_map] at hl
    exact hno j y hj (by omega) hy

end Go.Proofs.Ytmlmgipngbndgaa
/- How many bookings of a departure are in some state. -/
namespace Go.Proofs.Ytmlmgipngbndgaa
open Go.RowKit
attribute [local irreducible] OQ OS OX Rd T TL GX GL AL AI RV wpG SAny Calls
set_option maxRecDepth 100000
set_option maxHeartbeats 2000000
set_option linter.unusedVariables false
set_option linter.unusedSimpArgs false

def bnd {n : Nat} (pre : List (Ix n)) : Nat := pre.foldr (fun p m => max (p.1 + 1) m) 0
theorem behind_iff {n : Nat} {pre : List (Ix n)} {j : Nat} : behind pre j ↔ bnd pre ≤ j := by
  unfold behind bnd
  induction pre with
  | nil => simp
  | cons p pre ih =>
    simp only [List.foldr_cons, List.forall_mem_cons, ih]
    omega
theorem bnd_nil {n : Nat} : bnd ([] : List (Ix n)) = 0 := rfl
theorem bnd_snoc {n : Nat} {pre : List (Ix n)} {x : Ix n} (h : behind pre x.1) : bnd (pre ++ [x]) = x.1 + 1 := by
  have h1 : ∀ j, bnd (pre ++ [x]) ≤ j ↔ x.1 + 1 ≤ j := fun j => by
    rw [← behind_iff]
    constructor
    · intro hh; exact hh x (List.mem_append_right _ (List.mem_singleton.2 rfl))
    · intro hj p hp
      rcases List.mem_append.1 hp with hp | hp
      · have := h p hp; omega
      · rw [List.mem_singleton.1 hp]; exact hj
  exact Nat.le_antisymm ((h1 _).2 (Nat.le_refl _)) ((h1 _).1 (Nat.le_refl _))
def cntTo (p : Bk → Bool) (bk : List Bk) (k : Nat) : Nat := ((bk.take k).filter p).length
def cntV (p : Bk → Bool) (bk : List Bk) : Nat := (bk.filter p).length
theorem cnt_hit {p : Bk → Bool} {bk : List Bk} {k : Nat} {y : Bk} (h : bk[k]? = some y) (hp : p y = true) : cntTo p bk (k + 1) = cntTo p bk k + 1 := by
  unfold cntTo
  rw [List.take_add_one, h, List.filter_append]
  simp [hp]
theorem cnt_gap {p : Bk → Bool} {bk : List Bk} {a : Nat} : ∀ {b : Nat}, a ≤ b → (∀ j y, a ≤ j → j < b → bk[j]? = some y → p y = false) → cntTo p bk b = cntTo p bk a := by
  intro b hab h
  induction b with
  | zero => obtain rfl : a = 0 := by omega
            rfl
  | succ b ih =>
    by_cases e : a = b + 1
    · rw [e]
    · rw [← ih (by omega) (fun j y h1 h2 h3 => h j y h1 (by omega) h3)]
      unfold cntTo
      rw [List.take_add_one, List.filter_append, List.length_append]
      cases hy : bk[b]? with
      | none => simp
      | some y => simp [h b y (by omega) (by omega) hy]
theorem cnt_all {p : Bk → Bool} {bk : List Bk} {a : Nat} (h : ∀ j y, a ≤ j → bk[j]? = some y → p y = false) : cntTo p bk a = cntV p bk := by
  by_cases hab : a ≤ bk.length
  · rw [← cnt_gap (b := bk.length) hab (fun j y h1 _ h3 => h j y h1 h3)]
    unfold cntTo cntV
    rw [List.take_length]
  · unfold cntTo cntV
    rw [List.take_of_length_le (by omega)]
theorem cnt_le (p : Bk → Bool) (bk : List Bk) (k : Nat) : cntTo p bk k ≤ bk.length := Nat.le_trans (List.length_filter_le _ _) (by rw [List.length_take]; omega)
theorem cntV_le (p : Bk → Bool) (bk : List Bk) : cntV p bk ≤ bk.length := List.length_filter_le _ _
/-- What 'of' hands out: an iterator. -/
def OfV (bd : Nat) (f : Int) (S : Option Addr) (ns cs : Nat) (v : Value) (H : Hp) : Prop :=
  ∃ b0 b1 b2, v = .func (.func 100) #[] #[.pointer (some ⟨b0, 0, none⟩), .pointer (some ⟨b1, 0, none⟩), .pointer (some ⟨b2, 0, none⟩)] ∧
    H = [(b2, [.slice S ns cs], some (109, 1, 1)), (b1, [.int .i64 f], some (3, 1, 1)), (b0, [.pointer (some ⟨bd, 0, none⟩)], some (121, 1, 1))]
theorem of_T (bd : Nat) (f : Int) (S : Option Addr) (ns cs : Nat) (w : World) : Calls Try.prog 70 #[.pointer (some ⟨bd, 0, none⟩), .int .i64 f, .slice S ns cs] w fun e w' => ∃ v H', e = .returned v ∧ OfV bd f S ns cs v H' ∧ Has w ⟨[], []⟩ H' w' := by
  refine enter (c := cx w 8) (H := []) (F := frOf 0 _) Try.func70 rfl rfl rfl (fun d v hv => (look_frOf _ 0 d v hv).2) (Has.start _) ?_
  repeat' (first | ((with_reducible apply oq_id); first | (apply oq_fn; exact rfl; first | exact trivial | (refine ⟨?_, ?_⟩ <;> omega) | (refine ⟨?_, ?_, ?_⟩ <;> omega) | omega | skip)) | ((with_reducible apply tl_id); first | ((with_reducible apply tl_nil)) | ((with_reducible apply u_q); exact rfl; exact rfl; exact rfl; exact rfl) | ((with_reducible apply u_s); exact rfl; exact rfl; exact rfl)) | ((with_reducible apply os_id); first | ((with_reducible apply os_x); exact rfl)) | ((with_reducible apply ox_id); first | ((with_reducible apply ox_box); exact rfl; exact rfl; intro _)) | ((with_reducible apply t_id); first | ((with_reducible apply t_seq)) | (apply t_region; kernel_rfl) | ((with_reducible apply t_ret))) | with_reducible apply q_thenN | ((with_reducible apply end_ret)) | exact rvs_nil | ((with_reducible apply rvs_cons)) | ((with_reducible apply rv_tmp); exact rfl))
  exact ⟨_, _, _, rfl, rfl⟩

/-- Where a slice that is read lies. -/
theorem RdS.place {w : World} {k : Nat} {A : Option Addr} {n : Nat} {xs : List (List Value)} (h : RdS w k A n xs) : ∃ g o, (0 < n → A = some ⟨g, o, none⟩ ∧ g < w.heap.size) := by
  by_cases hn : 0 < n
  · obtain ⟨b, o, h1, h2, _⟩ := h.at_ hn
    exact ⟨b, o, fun _ => ⟨h1, h2⟩⟩
  · exact ⟨0, 0, fun h => absurd h hn⟩
theorem count_calls (bd : Nat) (o : Off) (A : Option Addr) (cf : Nat) (B : Option Addr) (cb : Nat) (w : World) (hD : Desk w bd o A cf B cb) (hn : o.bk.length ≤ 1000000) (f : Int) (S : Option Addr) (ns cs : Nat) (sts : List Int) (hS : RdS w 1 S ns (sts.map u8Cells)) (hns : ns ≤ 1000000) :
    Calls Try.prog 64 #[.pointer (some ⟨bd, 0, none⟩), .int .i64 f, .slice S ns cs] w fun e w' => e = .returned (.int .i64 (cntV (mtB f sts) o.bk : Nat)) ∧ Ext w w' := by
  have hlen := hD.bk.len
  simp only [List.length_map] at hlen
  obtain ⟨gB, oB, hpl⟩ := hD.bk.place
  refine enterQ (c := cx w 16) Try.func64 rfl rfl rfl rfl ?_
  repeat' (first | ((with_reducible apply oq_id); first | (apply oq_fn; exact rfl; first | exact trivial | (refine ⟨?_, ?_⟩ <;> omega) | (refine ⟨?_, ?_, ?_⟩ <;> omega) | omega | skip)) | ((with_reducible apply tl_id); first | ((with_reducible apply tl_nil)) | ((with_reducible apply u_s); exact rfl; exact rfl; exact rfl; (with_reducible apply os_callF (PV := OfV bd f S ns cs) (k := 70) (hc := Try.call70)); exact rfl; exact rfl; exact fun D w1 hw1 => of_T _ _ _ _ _ w1; rintro v H' ⟨b0, b1, b2, rfl, rfl⟩; simp only [List.cons_append, List.nil_append]) | ((with_reducible apply u_q); exact rfl; exact rfl; exact rfl; exact rfl) | ((with_reducible apply u_s0); exact rfl; exact rfl) | ((with_reducible apply u_s); exact rfl; exact rfl; exact rfl)) | ((with_reducible apply os_id); first | ((with_reducible apply os_x); exact rfl) | ((with_reducible apply os_store); exact rfl; exact rfl; exact rfl; exact rfl)) | ((with_reducible apply ox_id); first | ((with_reducible apply ox_alloc); exact rfl; intro _)) | ((with_reducible apply t_id); first | ((with_reducible apply t_seq)) | (apply t_region; kernel_rfl) | ((with_reducible apply t_block))) | with_reducible apply q_thenN | exact P0 | ((with_reducible apply Norm.nil); exact rfl) | ((with_reducible apply Norm.cons); exact rfl) | exact Nat.le_of_ble_eq_true rfl)
  rename_i bn
  refine t_rangeV (m := 1) (α := Ix o.bk.length) (β := Unit) (κ := Unit) (ι := Nat) (encs := fun x => [.pointer (some ⟨gB, oB + x.1 * 3, none⟩)]) (Rq := fun _ W => OfAt b0 b1 b2 bd B o.bk.length cb f S ns cs sts W) (G := OfG B o.bk.length f sts) (E := OfE B o.bk.length f sts)
    (hk := [(b2, [.slice S ns cs], some (109, 1, 1)), (b1, [.int .i64 f], some (3, 1, 1)), (b0, [.pointer (some ⟨bd, 0, none⟩)], some (121, 1, 1))]) (fun i => [(bn, [.int .i64 (i : Nat)], some (3, 1, 1))]) (fun pre i => i = cntTo (mtB f sts) o.bk (bnd pre)) (fun _ _ => []) (fun _ _ => [(7, .pointer (some ⟨bn, 0, none⟩))]) (fun _ => []) (fun _ _ _ => False) 0 rfl Try.call100
    (of1_seqV 2 b0 b1 b2 bd gB oB B o.bk.length cb f S ns cs sts (fun h => (hpl h).1) hn hns) (fun n0 x => OfG.abide _ _ _ _ n0 x) (fun n0 => OfE.abide _ _ _ _ n0) ?rq ?h0 ?sub ?ok ?done (fun _ _ _ h => h.elim)
  case rq =>
    intro pre i D W _ hw
    simp only [List.cons_append, List.nil_append] at hw
    have hx : Ext w W := hw.ext.ext
    exact ⟨hw.cellAt (by (repeat (first | exact P0 | apply P1))) rfl, hw.cellAt (by (repeat (first | exact P0 | apply P1))) rfl, hw.cellAt (by (repeat (first | exact P0 | apply P1))) rfl, hS.ext hx, hx.cell hD.bks, _, hD.bk.ext hx⟩
  case h0 => rfl
  case sub =>
    simp only [List.cons_append, List.nil_append]
    (repeat (first | exact HpSub.refl _ | (apply HpSub.consE; (repeat (first | exact P0 | apply P1)); exact rfl) | exact HpSub.nil))
  case ok =>
    refine ⟨fun _ => rfl, rfl, fun x W => .inl ⟨rfl, (), ?_, ?_⟩, fun x b i n W D hb hw _ y hy => (List.not_mem_nil hy).elim, fun l' pre x i b W D hi hw hG hl' => ?_⟩
    · (repeat (first | exact FrSub.nil | (apply FrSub.cons; exact rfl)))
    · (repeat (first | exact HpSub.refl _ | (apply HpSub.consE; (repeat (first | exact P0 | apply P1)); exact rfl) | exact HpSub.nil))
    · obtain ⟨hbe, bk', hr', hm, hno⟩ := hG
      simp only [List.cons_append, List.nil_append] at hw ⊢
      have hx : Ext w W := hw.ext.ext
      obtain rfl : bk' = o.bk := bk_inj (hr'.inj (hD.bk.ext hx))
      have hxl : x.1 < o.bk.length := x.2
      have hgx := List.getElem?_eq_getElem hxl
      have hs : cntTo (mtB f sts) o.bk (bnd (pre ++ [x])) = i + 1 := by
        rw [bnd_snoc hbe, cnt_hit hgx (hm _ hgx), cnt_gap (behind_iff.1 hbe) (fun j y h1 h2 h3 => hno j y (behind_iff.2 h1) h2 h3), ← hi]
      have hle := cnt_le (mtB f sts) o.bk (bnd (pre ++ [x]))
      have c0 : W.cell? ⟨bn, 0, none⟩ = some (.int .i64 (i : Nat)) := hw.cellAt (by (repeat (first | exact P0 | apply P1))) rfl
      repeat' (first | ((with_reducible apply oq_id); first | (apply oq_fn; exact rfl; first | exact trivial | (refine ⟨?_, ?_⟩ <;> omega) | (refine ⟨?_, ?_, ?_⟩ <;> omega) | omega | skip) | ((with_reducible apply oq_load); exact rfl; exact rfl)) | ((with_reducible apply tl_id); first | ((with_reducible apply tl_nil)) | ((with_reducible apply u_q); exact rfl; exact rfl; exact rfl; exact rfl) | ((with_reducible apply u_s0); exact rfl; exact rfl)) | ((with_reducible apply os_id); first | ((with_reducible apply os_store); exact rfl; exact rfl; exact rfl; exact rfl)) | ((with_reducible apply rd_id); first | (apply Rd.own; (repeat (first | exact P0 | apply P1)); exact rfl; done)) | ((with_reducible apply t_id); first | (apply t_region; kernel_rfl) | ((with_reducible apply t_block))) | with_reducible apply q_blockN | exact P0 | ((with_reducible apply Norm.nil); exact rfl) | ((with_reducible apply Norm.cons); exact rfl) | exact Nat.le_of_ble_eq_true rfl)
      refine ⟨i + 1, hs.symm, ?_⟩
      (repeat (first | exact HpSub.refl _ | (apply HpSub.consE; (repeat (first | exact P0 | apply P1)); first | exact rfl | (simp only [Int.natCast_add, Int.natCast_one])) | exact HpSub.nil))
  case done =>
    rintro D xs i W ⟨bk', hr', hno⟩ hi hw
    simp only [List.cons_append, List.nil_append] at hw ⊢
    have hx : Ext w W := hw.ext.ext
    obtain rfl : bk' = o.bk := bk_inj (hr'.inj (hD.bk.ext hx))
    have hv : i = cntV (mtB f sts) o.bk := by rw [hi, cnt_all (fun j y h1 h2 => hno j y (behind_iff.2 h1) h2)]
    subst hv
    repeat' (first | ((with_reducible apply oq_id); first | (apply oq_fn; exact rfl; first | exact trivial | (refine ⟨?_, ?_⟩ <;> omega) | (refine ⟨?_, ?_, ?_⟩ <;> omega) | omega | skip) | ((with_reducible apply oq_load); exact rfl; exact rfl)) | ((with_reducible apply tl_id); first | ((with_reducible apply tl_nil)) | ((with_reducible apply u_q); exact rfl; exact rfl; exact rfl; exact rfl)) | ((with_reducible apply rd_id); first | (apply Rd.own; (repeat (first | exact P0 | apply P1)); exact rfl; done)) | ((with_reducible apply t_id); first | ((with_reducible apply t_seq)) | (apply t_region; kernel_rfl) | ((with_reducible apply t_ret))) | with_reducible apply q_thenN | with_reducible apply q_blockN | ((with_reducible apply end_ret)) | exact rvs_nil | ((with_reducible apply rvs_cons)) | ((with_reducible apply rv_tmp); exact rfl))
    rfl

end Go.Proofs.Ytmlmgipngbndgaa
/- Copies of the departures and of the bookings. -/
namespace Go.Proofs.Ytmlmgipngbndgaa
open Go.RowKit
attribute [local irreducible] OQ OS OX Rd T TL GX GL AL AI RV wpG SAny Calls
set_option maxRecDepth 100000
set_option maxHeartbeats 2000000
set_option linter.unusedVariables false
set_option linter.unusedSimpArgs false

/-- A slice that is nil. -/
theorem oq_eqNilT {c : Cx} {F : Fr} {H : Hp} {d : Option Tmp} {ty t t' : TypeId} {pos : String} {af : Array Edge} {g : Option (Nat × Bool)} {x y : Operand} {e s0 : Nat} {a0 : Bool} {z0 : List Value} (ht : tyAt c.tys t = some ⟨a0, s0, z0, .slice e⟩)
    (hx : ev F x = some (.slice none 0 0)) (hy : ev F y = some (.slice none 0 0)) : OQ c ⟨d, .binOp .eql t x y t', ty, pos, af, g⟩ F H (.bool true) := .of fun D a w ha _ => by
  have hk := (c.ty ht).kind w
  have e0 : (Op.equalIn 10000 t (.slice none 0 0) (.slice none 0 0)).run c.P w = .ok true w := by
    have key : ∀ d : Nat, (Op.equalIn (d + 1) t (.slice none 0 0) (.slice none 0 0)).run c.P w = .ok true w := fun d => by
      simp only [Op.equalIn, Sem.run_bind, hk, Result.andThen, Sem.run_pure, Option.isNone]
    exact key 9999
  have e : (binOp .eql t (.slice none 0 0) (.slice none 0 0)).run c.P w = .ok (.bool true) w := by
    simp only [binOp, Op.equal, Op.maxDepth, Sem.run_bind, e0, Result.andThen, Sem.run_pure]
  have e1 : (eqGuard .eql t x y (.slice none 0 0) (.slice none 0 0)).run c.P w = .ok () w := by simp [eqGuard, go_sem]
  simp only [execOp, ha.ev hx, ha.ev hy, Sem.run_bind, e, e1, Result.andThen, Sem.run_pure]
def clA : Option (Nat × Nat) → Option Addr
  | none => none
  | some (g, _) => some ⟨g, 0, none⟩
def clC : Option (Nat × Nat) → Nat
  | none => 0
  | some (_, c) => c
def clH (e s : Nat) (C : List Value) : Option (Nat × Nat) → Hp
  | none => []
  | some (g, c) => [(g, C, some (e, s, c))]
/-- What a copy hands out: nil, or own memory. -/
def CloneV (e s : Nat) (C : List Value) (n : Nat) (v : Value) (H : Hp) : Prop := ∃ x, (x = none → n = 0) ∧ v = .slice (clA x) n (clC x) ∧ H = clH e s C x
theorem dep_len (l : List Dep) : ∀ r ∈ l.map depCells, r.length = 4 := by simp only [List.mem_map]; rintro r ⟨x, _, rfl⟩; rfl
theorem bk_len (l : List Bk) : ∀ r ∈ l.map bkCells, r.length = 3 := by simp only [List.mem_map]; rintro r ⟨x, _, rfl⟩; rfl
theorem dep_one (l : List Dep) : ∀ r ∈ l.map depCells, ∀ u ∈ r, u.oneCell' = true := by
  simp only [List.mem_map]; rintro r ⟨x, _, rfl⟩ u hu
  simp only [depCells, List.mem_cons, List.not_mem_nil, or_false] at hu
  rcases hu with rfl | rfl | rfl | rfl <;> rfl
theorem bk_one (l : List Bk) : ∀ r ∈ l.map bkCells, ∀ u ∈ r, u.oneCell' = true := by
  simp only [List.mem_map]; rintro r ⟨x, _, rfl⟩ u hu
  simp only [bkCells, List.mem_cons, List.not_mem_nil, or_false] at hu
  rcases hu with rfl | rfl | rfl <;> rfl

theorem cloneF_T (A : Option Addr) (n c : Nat) (l : List Dep) (w : World) (hr : RdS w 4 A n (l.map depCells)) (hnil : A = none → n = 0 ∧ c = 0) (hn : n ≤ 1000000) :
    Calls Try.prog 92 #[.slice A n c] w fun e w' => ∃ v H', e = .returned v ∧ CloneV 106 4 (l.map depCells).flatten n v H' ∧ Has w ⟨[], []⟩ H' w' := by
  cases A with
  | none =>
    obtain ⟨rfl, rfl⟩ := hnil rfl
    refine enterF (c := cx w 8) Try.func92 rfl rfl rfl rfl ?_
    repeat' (first | ((with_reducible apply oq_id); first | ((with_reducible apply oq_eqNilT); exact rfl; exact rfl; exact rfl) | (apply oq_fn; exact rfl; first | exact trivial | (refine ⟨?_, ?_⟩ <;> omega) | (refine ⟨?_, ?_, ?_⟩ <;> omega) | omega | skip)) | ((with_reducible apply tl_id); first | ((with_reducible apply tl_nil)) | ((with_reducible apply u_q); exact rfl; exact rfl; exact rfl; exact rfl)) | ((with_reducible apply t_id); first | ((with_reducible apply t_seq)) | (apply t_region; kernel_rfl) | ((with_reducible apply t_condT); exact rfl) | ((with_reducible apply t_ret))) | with_reducible apply q_thenN | with_reducible apply q_thenR | ((with_reducible apply end_ret)) | exact rvs_nil | ((with_reducible apply rvs_cons)) | ((with_reducible apply rv_tmp); exact rfl))
    exact ⟨_, ⟨none, fun _ => rfl, rfl, rfl⟩, HpSub.nil⟩
  | some p =>
    refine enterF (c := cx w 8) Try.func92 rfl rfl rfl rfl ?_
    repeat' (first | ((with_reducible apply oq_id); first | ((with_reducible apply oq_eqNil); exact rfl; exact rfl; exact rfl) | (apply oq_fn; exact rfl; first | exact trivial | (refine ⟨?_, ?_⟩ <;> omega) | (refine ⟨?_, ?_, ?_⟩ <;> omega) | omega | skip)) | ((with_reducible apply tl_id); first | ((with_reducible apply tl_nil)) | ((with_reducible apply u_s); exact rfl; exact rfl; exact rfl; (with_reducible apply os_appendRows (hk := app_ok22) (rows := l.map depCells) (hr := fun D w1 hw1 => hr.ext hw1.ext.ext)); exact rfl; exact rfl; exact P0; exact dep_len l; exact rfl; exact dep_one l; exact Nat.le_refl _; omega; omega; intro b cap'; simp only [Nat.zero_add, List.nil_append]) | ((with_reducible apply u_q); exact rfl; exact rfl; exact rfl; exact rfl) | ((with_reducible apply u_s); exact rfl; exact rfl; exact rfl)) | ((with_reducible apply os_id); first | ((with_reducible apply os_x); exact rfl)) | ((with_reducible apply ox_id); first | ((with_reducible apply ox_buildSlice); exact rfl; exact rfl; exact rfl; exact rfl)) | ((with_reducible apply t_id); first | ((with_reducible apply t_seq)) | (apply t_region; kernel_rfl) | ((with_reducible apply t_condF); exact rfl) | ((with_reducible apply t_ret)) | ((with_reducible apply t_skip))) | with_reducible apply q_thenN | ((with_reducible apply Norm.nil); exact rfl) | ((with_reducible apply end_ret)) | exact rvs_nil | ((with_reducible apply rvs_cons)) | ((with_reducible apply rv_tmp); exact rfl) | exact (rfl : (_ : Bool) = true) | (intro _; with_reducible apply tl_id))
    exact ⟨_, ⟨some (b, cap'), fun h => (by cases h), rfl, rfl⟩, HpSub.refl _⟩

theorem cloneB_T (A : Option Addr) (n c : Nat) (l : List Bk) (w : World) (hr : RdS w 3 A n (l.map bkCells)) (hnil : A = none → n = 0 ∧ c = 0) (hn : n ≤ 1000000) :
    Calls Try.prog 93 #[.slice A n c] w fun e w' => ∃ v H', e = .returned v ∧ CloneV 71 3 (l.map bkCells).flatten n v H' ∧ Has w ⟨[], []⟩ H' w' := by
  cases A with
  | none =>
    obtain ⟨rfl, rfl⟩ := hnil rfl
    refine enterF (c := cx w 8) Try.func93 rfl rfl rfl rfl ?_
    repeat' (first | ((with_reducible apply oq_id); first | ((with_reducible apply oq_eqNilT); exact rfl; exact rfl; exact rfl) | (apply oq_fn; exact rfl; first | exact trivial | (refine ⟨?_, ?_⟩ <;> omega) | (refine ⟨?_, ?_, ?_⟩ <;> omega) | omega | skip)) | ((with_reducible apply tl_id); first | ((with_reducible apply tl_nil)) | ((with_reducible apply u_q); exact rfl; exact rfl; exact rfl; exact rfl)) | ((with_reducible apply t_id); first | ((with_reducible apply t_seq)) | (apply t_region; kernel_rfl) | ((with_reducible apply t_condT); exact rfl) | ((with_reducible apply t_ret))) | with_reducible apply q_thenN | with_reducible apply q_thenR | ((with_reducible apply end_ret)) | exact rvs_nil | ((with_reducible apply rvs_cons)) | ((with_reducible apply rv_tmp); exact rfl))
    exact ⟨_, ⟨none, fun _ => rfl, rfl, rfl⟩, HpSub.nil⟩
  | some p =>
    refine enterF (c := cx w 8) Try.func93 rfl rfl rfl rfl ?_
    repeat' (first | ((with_reducible apply oq_id); first | ((with_reducible apply oq_eqNil); exact rfl; exact rfl; exact rfl) | (apply oq_fn; exact rfl; first | exact trivial | (refine ⟨?_, ?_⟩ <;> omega) | (refine ⟨?_, ?_, ?_⟩ <;> omega) | omega | skip)) | ((with_reducible apply tl_id); first | ((with_reducible apply tl_nil)) | ((with_reducible apply u_s); exact rfl; exact rfl; exact rfl; (with_reducible apply os_appendRows (hk := app_ok23) (rows := l.map bkCells) (hr := fun D w1 hw1 => hr.ext hw1.ext.ext)); exact rfl; exact rfl; exact P0; exact bk_len l; exact rfl; exact bk_one l; exact Nat.le_refl _; omega; omega; intro b cap'; simp only [Nat.zero_add, List.nil_append]) | ((with_reducible apply u_q); exact rfl; exact rfl; exact rfl; exact rfl) | ((with_reducible apply u_s); exact rfl; exact rfl; exact rfl)) | ((with_reducible apply os_id); first | ((with_reducible apply os_x); exact rfl)) | ((with_reducible apply ox_id); first | ((with_reducible apply ox_buildSlice); exact rfl; exact rfl; exact rfl; exact rfl)) | ((with_reducible apply t_id); first | ((with_reducible apply t_seq)) | (apply t_region; kernel_rfl) | ((with_reducible apply t_condF); exact rfl) | ((with_reducible apply t_ret)) | ((with_reducible apply t_skip))) | with_reducible apply q_thenN | ((with_reducible apply Norm.nil); exact rfl) | ((with_reducible apply end_ret)) | exact rvs_nil | ((with_reducible apply rvs_cons)) | ((with_reducible apply rv_tmp); exact rfl) | exact (rfl : (_ : Bool) = true) | (intro _; with_reducible apply tl_id))
    exact ⟨_, ⟨some (b, cap'), fun h => (by cases h), rfl, rfl⟩, HpSub.refl _⟩

end Go.Proofs.Ytmlmgipngbndgaa
/- An office is opened: a desk in new memory, if the office is valid. -/
namespace Go.Proofs.Ytmlmgipngbndgaa
open Go.RowKit
attribute [local irreducible] OQ OS OX Rd T TL GX GL AL AI RV wpG SAny Calls
set_option maxRecDepth 100000
set_option maxHeartbeats 2000000
set_option linter.unusedVariables false
set_option linter.unusedSimpArgs false

theorem PA {b : Nat} {C : List Value} {g : Tg} {H H' : Hp} : ∀ {G : Hp}, Pick H b C g H' → Pick (G ++ H) b C g (G ++ H')
  | [], h => h
  | x :: G, h => .tail (PA h)
theorem HpSub.skipX {x : Nat × List Value × Tg} {H G : Hp} (h : HpSub H G) : HpSub (x :: H) G := by
  induction h with
  | nil => exact .nil
  | cons p _ ih => exact .cons (.tail p) ih
theorem flat_at {α : Type} {f : α → List Value} {s : Nat} (hf : ∀ x, (f x).length = s) : ∀ {l : List α} {i : Nat} {x : α}, l[i]? = some x → ∀ {j : Nat} {v : Value}, (f x)[j]? = some v → ((l.map f).flatten)[i * s + j]? = some v
  | [], i, x, h, _, _, _ => by simp at h
  | y :: l, 0, x, h, j, v, hv => by
    obtain rfl : y = x := by simpa using h
    have hj := (List.getElem?_eq_some_iff.1 hv).1
    rw [List.map_cons, List.flatten_cons, Nat.zero_mul, Nat.zero_add, List.getElem?_append_left hj]
    exact hv
  | y :: l, i + 1, x, h, j, v, hv => by
    have h' : l[i]? = some x := by simpa using h
    have := flat_at hf h' hv
    rw [List.map_cons, List.flatten_cons, List.getElem?_append_right (by rw [hf]; rw [Nat.succ_mul]; omega), hf]
    rw [show (i + 1) * s + j - s = i * s + j by rw [Nat.succ_mul]; omega]
    exact this
theorem dep_at {l : List Dep} {k : Nat} {x : Dep} (h : l[k]? = some x) : ((l.map depCells).flatten)[0 + k * 4]? = some (.int .i64 x.seats) ∧ ((l.map depCells).flatten)[0 + k * 4 + 1]? = some (.int .i64 x.price) ∧ ((l.map depCells).flatten)[0 + k * 4 + 2]? = some (.int .i64 x.leaves) ∧ ((l.map depCells).flatten)[0 + k * 4 + 3]? = some (.int .u8 x.state) := by
  rw [Nat.zero_add]
  exact ⟨flat_at (f := depCells) (s := 4) (fun _ => rfl) h (j := 0) rfl, flat_at (f := depCells) (s := 4) (fun _ => rfl) h (j := 1) rfl, flat_at (f := depCells) (s := 4) (fun _ => rfl) h (j := 2) rfl, flat_at (f := depCells) (s := 4) (fun _ => rfl) h (j := 3) rfl⟩
theorem bk_at {l : List Bk} {k : Nat} {x : Bk} (h : l[k]? = some x) : ((l.map bkCells).flatten)[0 + k * 3]? = some (.int .i64 x.flight) ∧ ((l.map bkCells).flatten)[0 + k * 3 + 1]? = some (.int .u8 x.state) ∧ ((l.map bkCells).flatten)[0 + k * 3 + 2]? = some (.int .i64 x.kept) := by
  rw [Nat.zero_add]
  exact ⟨flat_at (f := bkCells) (s := 3) (fun _ => rfl) h (j := 0) rfl, flat_at (f := bkCells) (s := 3) (fun _ => rfl) h (j := 1) rfl, flat_at (f := bkCells) (s := 3) (fun _ => rfl) h (j := 2) rfl⟩
theorem clA_some (g c : Nat) : clA (some (g, c)) = some ⟨g, 0, none⟩ := rfl
theorem clC_some (g c : Nat) : clC (some (g, c)) = c := rfl
theorem clH_some (e s g c : Nat) (C : List Value) : clH e s C (some (g, c)) = [(g, C, some (e, s, c))] := rfl
abbrev flH (o : Off) (x : Option (Nat × Nat)) : Hp := clH 106 4 (o.fl.map depCells).flatten x
abbrev bkH (o : Off) (y : Option (Nat × Nat)) : Hp := clH 71 3 (o.bk.map bkCells).flatten y
theorem clH_rows {w0 : World} {M : Ms} {w : World} {e s n : Nat} {α : Type} {f : α → List Value} {l : List α} {x : Option (Nat × Nat)} (h : Has w0 M (clH e s (l.map f).flatten x) w) (hf : ∀ y, (f y).length = s) (hl : l.length = n) (hx : x = none → n = 0) : RdS w s (clA x) n (l.map f) := by
  cases x with
  | none =>
    obtain rfl := hx rfl
    obtain rfl := List.eq_nil_of_length_eq_zero hl
    exact RdS.nil _ _ _
  | some p =>
    exact Blk.rows (h.blk _ (List.mem_cons_self ..)).2 (by simpa using hl) (by simp only [List.mem_map]; rintro r ⟨x, _, rfl⟩; exact hf x)
theorem Has.right {w0 : World} {M : Ms} {w : World} {G H : Hp} (h : Has w0 M (G ++ H) w) : Has w0 M H w :=
  ⟨h.ext, fun x hx => h.blk x (List.mem_append_right _ hx), by have := h.nodup; rw [List.map_append, List.nodup_append] at this; exact this.2.1, h.marks⟩
theorem Has.left {w0 : World} {M : Ms} {w : World} {G H : Hp} (h : Has w0 M (G ++ H) w) : Has w0 M G w :=
  ⟨h.ext, fun x hx => h.blk x (List.mem_append_left _ hx), by have := h.nodup; rw [List.map_append, List.nodup_append] at this; exact this.1, h.marks⟩
/-- The blocks of an office at work. -/
def deskH (bd : Nat) (o : Off) (x y : Option (Nat × Nat)) : Hp := (bd, offCells o (clA x) (clC x) (clA y) (clC y), some (135, 7, 1)) :: (flH o x ++ bkH o y)
theorem desk_of {w0 : World} {M : Ms} {w : World} {H : Hp} {bd : Nat} {o : Off} {x y : Option (Nat × Nat)} (h : Has w0 M H w) (p : HpSub H (deskH bd o x y)) (hx : x = none → o.fl.length = 0) (hy : y = none → o.bk.length = 0) : Desk w bd o (clA x) (clC x) (clA y) (clC y) := by
  have h1 := h.sub p
  have hb := (h1.blk _ (List.mem_cons_self ..)).2
  have h2 : Has w0 M (flH o x ++ bkH o y) w := Has.right (G := [_]) h1
  exact ⟨hb.cell rfl, hb.cell rfl, hb.cell rfl, hb.cell rfl, hb.cell rfl, hb.cell rfl, hb.cell rfl, clH_rows h2.left (fun _ => rfl) rfl hx, clH_rows h2.right (fun _ => rfl) rfl hy⟩
/-- What 'open' hands out. -/
def OpenV (o : Off) (v : Value) (H : Hp) : Prop :=
  (officeB o = false ∧ ∃ p, v = .tuple #[.pointer p, .bool false] ∧ H = []) ∨
  (officeB o = true ∧ ∃ bd x y, (x = none → o.fl.length = 0) ∧ (y = none → o.bk.length = 0) ∧ v = .tuple #[.pointer (some ⟨bd, 0, none⟩), .bool true] ∧ H = deskH bd o x y)
theorem booked_st {fl : List Dep} {fee : Int} (hd : DepsOk fl) {x : Bk} (h : bookedB fl fee x = true) : x.state = 1 ∨ x.state = 2 ∨ x.state = 3 ∨ x.state = 4 := by
  unfold bookedB at h
  split at h
  · split at h
    · cases h
    · split at h
      · exact .inr (.inr (.inr ‹_›))
      · simp only [Bool.and_eq_true] at h
        have := h.1
        unfold fitB at this
        simp at this
        omega
  · cases h
theorem fromTwo {w0 : World} {M : Ms} {H H' : Hp} {w : World} {g : Nat} {lo hi z1 z2 : Int} {tg : Tg} {cp : Nat} {q : Bool} (hq : allFrom lo hi [z1, z2] = q) (h : Has w0 M H w) (p : Pick H g [.int .i64 z1, .int .i64 z2] tg H') :
    Calls Try.prog 63 #[.int .i64 lo, .int .i64 hi, .slice (some ⟨g, 0, none⟩) 2 cp] w fun e w' => e = .returned (.bool q) ∧ Ext w w' :=
  hq ▸ from_calls lo hi (some ⟨g, 0, none⟩) 2 cp [z1, z2] w (Blk.rows (h.blk _ p.mem).2 rfl (by simp only [List.mem_map]; rintro r ⟨x, _, rfl⟩; rfl)) (by omega)
theorem two_t {lo hi a b : Int} (h1 : lo ≤ a ∧ a ≤ hi) (h2 : lo ≤ b ∧ b ≤ hi) : allFrom lo hi [a, b] = true := by unfold allFrom; simp [h1.1, h1.2, h2.1, h2.2]
theorem two_f {lo hi a b : Int} (h : ¬ ((lo ≤ a ∧ a ≤ hi) ∧ (lo ≤ b ∧ b ≤ hi))) : allFrom lo hi [a, b] = false := by
  unfold allFrom
  rw [Bool.eq_false_iff]
  intro h2
  simp only [List.all_cons, List.all_nil, Bool.and_true, Bool.and_eq_true, decide_eq_true_eq] at h2
  exact h h2
theorem mt_many (bk : List Bk) (f s : Int) : ((cntV (mtB f [s]) bk : Nat) : Int) = manyV bk f s := by
  unfold cntV manyV
  congr 3
  funext x
  unfold mtB isB
  simp
theorem mt_many2 (bk : List Bk) (f s t : Int) (hst : s ≠ t) : ((cntV (mtB f [s, t]) bk : Nat) : Int) = manyV bk f s + manyV bk f t := by
  unfold cntV manyV
  induction bk with
  | nil => rfl
  | cons x l ih =>
    have e : mtB f [s, t] x = (isB f s x || isB f t x) := by unfold mtB isB; simp [Bool.and_or_distrib_left]
    by_cases h1 : isB f s x = true
    · have h2 : isB f t x = false := by
        unfold isB at h1 ⊢
        simp only [Bool.and_eq_true, decide_eq_true_eq] at h1
        simp [h1.1, h1.2, hst]
      simp only [List.filter_cons, e, h1, h2, Bool.true_or, if_true, List.length_cons, Bool.false_eq_true, if_false]
      omega
    · simp only [Bool.not_eq_true] at h1
      by_cases h2 : isB f t x = true
      · simp only [List.filter_cons, e, h1, h2, Bool.false_or, if_true, List.length_cons, Bool.false_eq_true, if_false]
        omega
      · simp only [Bool.not_eq_true] at h2
        simp only [List.filter_cons, e, h1, h2, Bool.or_self, Bool.false_eq_true, if_false]
        exact ih

theorem open_T (o : Off) (A : Option Addr) (cf : Nat) (B : Option Addr) (cb : Nat) (w : World) (hA : RdS w 4 A o.fl.length (o.fl.map depCells)) (hB : RdS w 3 B o.bk.length (o.bk.map bkCells)) (hnA : A = none → o.fl.length = 0 ∧ cf = 0) (hnB : B = none → o.bk.length = 0 ∧ cb = 0)
    (hu : ∀ d ∈ o.fl, 0 ≤ d.state) (hn : o.fl.length ≤ 1000000) (hn2 : o.bk.length ≤ 1000000) : Calls Try.prog 62 #[.agg ⟨offCells o A cf B cb⟩] w fun e w' => ∃ v H', e = .returned v ∧ OpenV o v H' ∧ Has w ⟨[], []⟩ H' w' := by
  refine enterF (c := cx w 126) Try.func62 rfl rfl rfl rfl ?_
  refine t_cut (ι := Nat) (fun b => [(1, .pointer (some ⟨b, 0, none⟩))]) (fun b => [(b, offCells o A cf B cb, some (25, 7, 1))]) (fun _ => True) ?_ ?_
  · repeat' (first | ((with_reducible apply oq_id); first | (apply oq_fn; exact rfl; first | exact trivial | (refine ⟨?_, ?_⟩ <;> omega) | (refine ⟨?_, ?_, ?_⟩ <;> omega) | omega | skip)) | ((with_reducible apply tl_id); first | ((with_reducible apply tl_nil)) | ((with_reducible apply u_q); exact rfl; exact rfl; exact rfl; exact rfl) | ((with_reducible apply u_s); exact rfl; exact rfl; exact rfl)) | ((with_reducible apply os_id); first | ((with_reducible apply os_x); exact rfl)) | ((with_reducible apply ox_id); first | ((with_reducible apply ox_boxAgg); exact rfl; intro _)) | ((with_reducible apply t_id); first | (apply t_region; kernel_rfl)))
    all_goals exact ⟨rfl, _, trivial, by (repeat (first | exact FrSub.nil | (apply FrSub.cons; exact rfl))), by (repeat (first | exact HpSub.refl _ | (apply HpSub.consE; (repeat (first | exact P0 | apply P1 | apply PA)); exact rfl) | exact HpSub.nil))⟩
  rintro bo -
  refine t_cut (ι := Option (Nat × Nat) × Option (Nat × Nat)) (fun _ => [(1, .pointer (some ⟨bo, 0, none⟩))]) (fun i => (bo, offCells o (clA i.1) (clC i.1) (clA i.2) (clC i.2), some (25, 7, 1)) :: (flH o i.1 ++ bkH o i.2)) (fun i => (i.1 = none → o.fl.length = 0) ∧ (i.2 = none → o.bk.length = 0)) ?_ ?_
  · repeat' (first | ((with_reducible apply oq_id); first | (apply oq_fn; exact rfl; first | exact trivial | (refine ⟨?_, ?_⟩ <;> omega) | (refine ⟨?_, ?_, ?_⟩ <;> omega) | omega | skip) | ((with_reducible apply oq_load); exact rfl; exact rfl)) | ((with_reducible apply gx_id); first | ((with_reducible apply v_nil)) | ((with_reducible apply v_q); exact rfl; exact rfl; exact rfl)) | ((with_reducible apply os_id); first | ((with_reducible apply os_store); exact rfl; exact rfl; exact rfl; exact rfl)) | ((with_reducible apply ai_id); first | ((with_reducible apply ai_n); exact rfl; exact rfl; exact rfl; exact rfl; (with_reducible apply os_callF (PV := CloneV 106 4 (o.fl.map depCells).flatten o.fl.length) (k := 92) (hc := Try.call92)); exact rfl; exact rfl; exact fun D w1 hw1 => cloneF_T A _ cf o.fl w1 (hA.ext hw1.ext.ext) hnA hn; rintro v H' ⟨x, hxn, rfl, rfl⟩; (try simp only [List.cons_append, List.nil_append])) | ((with_reducible apply ai_n); exact rfl; exact rfl; exact rfl; exact rfl; (with_reducible apply os_callF (PV := CloneV 71 3 (o.bk.map bkCells).flatten o.bk.length) (k := 93) (hc := Try.call93)); exact rfl; exact rfl; exact fun D w1 hw1 => cloneB_T B _ cb o.bk w1 (hB.ext hw1.ext.ext) hnB hn2; rintro v H' ⟨y, hyn, rfl, rfl⟩; (try simp only [List.cons_append, List.nil_append])) | ((with_reducible apply ai_q); exact rfl; exact rfl; exact rfl; exact rfl; exact rfl) | ((with_reducible apply ai_s0); exact rfl; exact rfl; exact rfl; exact rfl)) | ((with_reducible apply al_keep); focus (repeat (first | exact HpSub.refl _ | (apply HpSub.cons; (repeat (first | exact P0 | apply P1 | apply PA))) | apply HpSub.skipX | exact HpSub.nil))) | ((with_reducible apply rd_id); first | (apply Rd.own; (repeat (first | exact P0 | apply P1 | apply PA)); exact rfl; done)) | ((with_reducible apply t_id); first | (apply t_mix (id := 1) [0, 1, 3, 4] 6 #[false, false, false, false, false, false, false, true, false, true]; kernel_rfl; kernel_rfl; exact rfl)) | exact P0 | (first | (with_reducible apply P1) | (with_reducible apply PA)) | ((with_reducible apply Norm.nil); exact rfl) | ((with_reducible apply Norm.cons); exact rfl) | ((with_reducible apply al_id); first | (apply al_done; decide +kernel) | (apply al_one 2; decide +kernel) | (apply al_one 5; decide +kernel) | (apply al_one 6; decide +kernel) | (apply al_one 7; decide +kernel) | (apply al_one 8; decide +kernel) | (apply al_one 9; decide +kernel) | (apply al_two 5 6; decide +kernel)) | exact Nat.le_of_ble_eq_true rfl)
    all_goals (refine ⟨by trivial, (x, y), ⟨hxn, hyn⟩, by (repeat (first | exact FrSub.nil | (apply FrSub.cons; exact rfl))), ?_⟩)
    all_goals (rcases x with _ | ⟨g1, c1⟩ <;> rcases y with _ | ⟨g2, c2⟩ <;> simp only [flH, bkH, clH, clA, clC, List.cons_append, List.nil_append, List.append_nil])
    all_goals (repeat (first | exact HpSub.refl _ | (apply HpSub.consE; (repeat (first | exact P0 | apply P1 | apply PA)); exact rfl) | exact HpSub.nil))
  rintro ⟨x, y⟩ ⟨hxn, hyn⟩
  simp only at hxn hyn ⊢
  by_cases hh : headB o = true
  · obtain ⟨a1, a2, b1, b2, f1, f2, nf, nb⟩ := headB_in hh
    have hw2 := two_t (lo := 0) (hi := 1000000) (a := o.now) (b := o.notice) ⟨a1, a2⟩ ⟨b1, b2⟩
    have hw1f := allFrom_t (lo := 0) (hi := 100) (z := o.fee) ⟨f1, f2⟩
    refine t_cut (ι := Nat) (fun bd => [(1, .pointer (some ⟨bo, 0, none⟩)), (4, .pointer (some ⟨bd, 0, none⟩))]) (fun bd => (bd, offCells o (clA x) (clC x) (clA y) (clC y), some (135, 7, 1)) :: (bo, offCells o (clA x) (clC x) (clA y) (clC y), some (25, 7, 1)) :: (flH o x ++ bkH o y)) (fun _ => True) ?_ ?_
    · repeat' (first | ((with_reducible apply oq_id); first | (apply oq_fn; exact rfl; first | exact trivial | (refine ⟨?_, ?_⟩ <;> omega) | (refine ⟨?_, ?_, ?_⟩ <;> omega) | omega | skip) | ((with_reducible apply oq_loadAgg); exact rfl; exact rfl) | ((with_reducible apply oq_build); exact rfl; exact rfl; exact rfl)) | ((with_reducible apply tl_id); first | ((with_reducible apply tl_nil)) | ((with_reducible apply u_q); exact rfl; exact rfl; exact rfl; exact rfl) | ((with_reducible apply u_s); exact rfl; exact rfl; exact rfl)) | ((with_reducible apply os_id); first | ((with_reducible apply os_x); exact rfl)) | ((with_reducible apply ox_id); first | ((with_reducible apply ox_boxAgg); exact rfl; intro _)) | ((with_reducible apply rd_id); first | (apply Rd.own; (repeat (first | exact P0 | apply P1 | apply PA)); exact rfl; done)) | ((with_reducible apply t_id); first | (apply t_region; kernel_rfl)) | exact Rdn.zero | apply Rdn.succ | ((with_reducible apply Norm.nil); exact rfl) | ((with_reducible apply Norm.cons); exact rfl))
      all_goals exact ⟨rfl, _, trivial, by (repeat (first | exact FrSub.nil | (apply FrSub.cons; exact rfl))), by (repeat (first | exact HpSub.refl _ | (apply HpSub.consE; (repeat (first | exact P0 | apply P1 | apply PA)); exact rfl) | apply HpSub.skipX | exact HpSub.nil))⟩
    rintro bd -
    refine t_cut (ι := Unit) (fun _ => [(1, .pointer (some ⟨bo, 0, none⟩)), (4, .pointer (some ⟨bd, 0, none⟩))]) (fun _ => (bd, offCells o (clA x) (clC x) (clA y) (clC y), some (135, 7, 1)) :: (bo, offCells o (clA x) (clC x) (clA y) (clC y), some (25, 7, 1)) :: (flH o x ++ bkH o y)) (fun _ => True) ?_ ?_
    · repeat' (first | ((with_reducible apply oq_id); first | (apply oq_fn; exact rfl; first | exact trivial | (refine ⟨?_, ?_⟩ <;> omega) | (refine ⟨?_, ?_, ?_⟩ <;> omega) | omega | skip) | ((with_reducible apply oq_load); exact rfl; exact rfl) | ((with_reducible apply oq_call (k := 63) (hc := Try.call63)); exact rfl; exact rfl; exact fun D w1 hw1 => fromTwo hw2 hw1 (by (repeat (first | exact P0 | apply P1 | apply PA)))) | ((with_reducible apply oq_call (k := 63) (hc := Try.call63)); exact rfl; exact rfl; exact fun D w1 hw1 => fromOne hw1f hw1 (by (repeat (first | exact P0 | apply P1 | apply PA))))) | ((with_reducible apply tl_id); first | ((with_reducible apply tl_nil)) | ((with_reducible apply u_q); exact rfl; exact rfl; exact rfl; exact rfl) | ((with_reducible apply u_s); exact rfl; exact rfl; exact rfl) | ((with_reducible apply u_splitD); exact rfl; exact rfl; all_goals first | (intro hp; try (exfalso; omega)) | skip)) | ((with_reducible apply os_id); first | ((with_reducible apply os_x); exact rfl)) | ((with_reducible apply ox_id); first | ((with_reducible apply ox_buildSlice1); exact rfl; exact rfl; exact rfl; exact rfl; exact rfl; exact rfl; intro _)) | ((with_reducible apply rd_id); first | (apply Rd.own; (repeat (first | exact P0 | apply P1 | apply PA)); exact rfl; done)) | ((with_reducible apply t_id); first | ((with_reducible apply t_seq)) | (apply t_region; kernel_rfl) | ((with_reducible apply t_condD); exact rfl; all_goals first | (intro hp; try (exfalso; omega)) | skip) | ((with_reducible apply t_skip))) | with_reducible apply q_thenN)
      all_goals exact ⟨by trivial, (), trivial, by (repeat (first | exact FrSub.nil | (apply FrSub.cons; exact rfl))), by (repeat (first | exact HpSub.refl _ | (apply HpSub.consE; (repeat (first | exact P0 | apply P1 | apply PA)); exact rfl) | apply HpSub.skipX | exact HpSub.nil))⟩
    rintro - -
    repeat' (first | ((with_reducible apply oq_id); first | (apply oq_fn; exact rfl; first | exact trivial | (refine ⟨?_, ?_⟩ <;> omega) | (refine ⟨?_, ?_, ?_⟩ <;> omega) | omega | skip) | ((with_reducible apply oq_load); exact rfl; exact rfl)) | ((with_reducible apply tl_id); first | ((with_reducible apply tl_nil)) | ((with_reducible apply u_q); exact rfl; exact rfl; exact rfl; exact rfl)) | ((with_reducible apply rd_id); first | (apply Rd.own; (repeat (first | exact P0 | apply P1 | apply PA)); exact rfl; done)) | ((with_reducible apply t_id); first | ((with_reducible apply t_seq)) | (apply t_region; kernel_rfl) | ((with_reducible apply t_block))) | with_reducible apply q_thenN)
    apply t_loopK (ι := Nat) [1, 4, 8, 9, 10, 11, 12, 51, 52, 61, 62, 63, 64, 65, 66, 67, 68, 69, 70, 71, 72, 73, 74, 75, 76, 77, 78, 79, 80, 81, 82, 83, 84, 85, 86, 87, 88, 89, 90, 91, 92, 93, 94, 95, 96, 97, 98, 99, 100, 101, 102, 103, 104, 105, 106, 107, 108, 109, 110, 111, 112, 113, 114, 115, 116, 117, 118, 119, 120, 121, 122, 123, 124, 125] (fun k => [(53, .int .i64 (k : Nat))]) (fun _ => []) (fun k => k ≤ o.fl.length ∧ ∀ d ∈ o.fl.take k, depOk d = true) (fun k => o.fl.length - k) (0)
    (repeat (first | exact KeepF.nil | (apply KeepF.cons; exact rfl) | apply KeepF.skip))
    (repeat (first | exact FrSub.nil | (apply FrSub.cons; exact rfl)))
    (repeat (first | exact HpSub.refl _ | (apply HpSub.consE; (repeat (first | exact P0 | apply P1 | apply PA)); exact rfl) | apply HpSub.skipX | exact HpSub.nil))
    · exact ⟨Nat.zero_le _, by simp⟩
    rintro k ⟨hk, hkp⟩
    try simp only [List.cons_append, List.nil_append]
    by_cases hlt : k < o.fl.length
    · rcases x with _ | ⟨g1, c1⟩
      · exact absurd (hxn rfl) (by omega)
      obtain ⟨e, hx⟩ : ∃ e, o.fl[k]? = some e := ⟨_, List.getElem?_eq_getElem hlt⟩
      obtain ⟨r0, r1, r2, r3⟩ := dep_at hx
      have HX := fun w1 => fine_calls e.seats e.price e.leaves e.state w1
      try simp only [clA_some, clC_some, flH, bkH, clH_some, List.cons_append, List.nil_append]
      cases hpx : depOk e with
      | false =>
        rw [show depOk ⟨e.seats, e.price, e.leaves, e.state⟩ = false from hpx] at HX
        repeat' (first | ((with_reducible apply oq_id); first | (focus ((with_reducible apply oq_indexAddrN); exact rfl; exact rfl; exact rfl; exact rfl; omega)) | (apply oq_fn; exact rfl; first | exact trivial | (refine ⟨?_, ?_⟩ <;> omega) | (refine ⟨?_, ?_, ?_⟩ <;> omega) | omega | skip) | ((with_reducible apply oq_loadAgg); exact rfl; exact rfl) | ((with_reducible apply oq_call (k := 94) (hc := Try.call94)); exact rfl; exact rfl; exact fun D w1 hw1 => HX w1)) | ((with_reducible apply tl_id); first | ((with_reducible apply tl_nil)) | ((with_reducible apply u_q); exact rfl; exact rfl; exact rfl; exact rfl) | ((with_reducible apply u_s0); exact rfl; exact rfl) | ((with_reducible apply u_s); exact rfl; exact rfl; exact rfl)) | ((with_reducible apply os_id); first | ((with_reducible apply os_x); exact rfl) | ((with_reducible apply os_storeAgg); exact rfl; exact rfl; exact rfl; exact rfl; exact rfl)) | ((with_reducible apply ox_id); first | ((with_reducible apply ox_alloc); exact rfl; intro _)) | ((with_reducible apply rd_id); first | (apply Rd.own; (repeat (first | exact P0 | apply P1 | apply PA)); first | exact r0 | exact r1 | exact r2 | exact r3; done) | (apply Rd.own; (repeat (first | exact P0 | apply P1 | apply PA)); exact rfl; done)) | ((with_reducible apply t_id); first | ((with_reducible apply t_seq)) | (apply t_region; kernel_rfl) | ((with_reducible apply t_condT); exact rfl) | ((with_reducible apply t_condD); exact rfl; all_goals first | (intro hp; try (exfalso; omega)) | skip) | ((with_reducible apply t_ret)) | ((with_reducible apply t_skip)) | ((with_reducible apply t_block))) | with_reducible apply q_thenN | with_reducible apply q_thenR | with_reducible apply q_blockR | exact P0 | exact Rdn.zero | apply Rdn.succ | ((with_reducible apply Norm.nil); exact rfl) | ((with_reducible apply Norm.cons); exact rfl) | ((with_reducible apply end_ret)) | exact rvs_nil | ((with_reducible apply rvs_cons)) | ((with_reducible apply rv_tmp); exact rfl) | exact Nat.le_of_ble_eq_true rfl)
        all_goals exact ⟨_, .inl ⟨by unfold officeB; rw [all_no hx hpx]; simp, _, rfl, rfl⟩, HpSub.nil⟩
      | true =>
        rw [show depOk ⟨e.seats, e.price, e.leaves, e.state⟩ = true from hpx] at HX
        repeat' (first | ((with_reducible apply oq_id); first | (focus ((with_reducible apply oq_indexAddrN); exact rfl; exact rfl; exact rfl; exact rfl; omega)) | (apply oq_fn; exact rfl; first | exact trivial | (refine ⟨?_, ?_⟩ <;> omega) | (refine ⟨?_, ?_, ?_⟩ <;> omega) | omega | skip) | ((with_reducible apply oq_loadAgg); exact rfl; exact rfl) | ((with_reducible apply oq_call (k := 94) (hc := Try.call94)); exact rfl; exact rfl; exact fun D w1 hw1 => HX w1)) | ((with_reducible apply tl_id); first | ((with_reducible apply tl_nil)) | ((with_reducible apply u_q); exact rfl; exact rfl; exact rfl; exact rfl) | ((with_reducible apply u_s0); exact rfl; exact rfl) | ((with_reducible apply u_s); exact rfl; exact rfl; exact rfl)) | ((with_reducible apply os_id); first | ((with_reducible apply os_x); exact rfl) | ((with_reducible apply os_storeAgg); exact rfl; exact rfl; exact rfl; exact rfl; exact rfl)) | ((with_reducible apply ox_id); first | ((with_reducible apply ox_alloc); exact rfl; intro _)) | ((with_reducible apply rd_id); first | (apply Rd.own; (repeat (first | exact P0 | apply P1 | apply PA)); first | exact r0 | exact r1 | exact r2 | exact r3; done) | (apply Rd.own; (repeat (first | exact P0 | apply P1 | apply PA)); exact rfl; done)) | ((with_reducible apply t_id); first | ((with_reducible apply t_seq)) | (apply t_region; kernel_rfl) | ((with_reducible apply t_condF); exact rfl) | ((with_reducible apply t_condD); exact rfl; all_goals first | (intro hp; try (exfalso; omega)) | skip) | ((with_reducible apply t_skip)) | ((with_reducible apply t_block))) | with_reducible apply q_thenN | with_reducible apply q_blockN | exact P0 | exact Rdn.zero | apply Rdn.succ | ((with_reducible apply Norm.nil); exact rfl) | ((with_reducible apply Norm.cons); exact rfl) | exact Nat.le_of_ble_eq_true rfl)
        all_goals (refine ⟨k + 1, ⟨by omega, fun y hy => ?_⟩, by omega, ?_, ?_⟩)
        · rw [List.take_add_one, hx, List.mem_append] at hy
          rcases hy with hy | hy
          · exact hkp y hy
          · obtain rfl : y = e := by simpa using hy
            exact hpx
        · try simp only [List.cons_append, List.nil_append]
          (repeat (first | exact FrSub.nil | (apply FrSub.cons; exact rfl)))
        · try simp only [List.cons_append, List.nil_append]
          (repeat (first | exact HpSub.refl _ | (apply HpSub.consE; (repeat (first | exact P0 | apply P1 | apply PA)); exact rfl) | apply HpSub.skipX | exact HpSub.nil))
    · have hda : o.fl.all depOk = true := all_yes (by omega) hkp
      have hd : DepsOk o.fl := fun d hdm => ⟨List.all_eq_true.1 hda d hdm, hu d hdm⟩
      clear hkp hw2 hw1f
      repeat' (first | ((with_reducible apply oq_id); first | (apply oq_fn; exact rfl; first | exact trivial | (refine ⟨?_, ?_⟩ <;> omega) | (refine ⟨?_, ?_, ?_⟩ <;> omega) | omega | skip) | ((with_reducible apply oq_load); exact rfl; exact rfl)) | ((with_reducible apply tl_id); first | ((with_reducible apply tl_nil)) | ((with_reducible apply u_q); exact rfl; exact rfl; exact rfl; exact rfl)) | ((with_reducible apply rd_id); first | (apply Rd.own; (repeat (first | exact P0 | apply P1 | apply PA)); exact rfl; done)) | ((with_reducible apply t_id); first | ((with_reducible apply t_seq)) | (apply t_region; kernel_rfl) | ((with_reducible apply t_condD); exact rfl; all_goals first | (intro hp; try (exfalso; omega)) | skip) | ((with_reducible apply t_exit)) | ((with_reducible apply t_block))) | with_reducible apply q_thenN | with_reducible apply q_thenE | ((with_reducible apply q_blockE); exact rfl))
      apply t_loopK (ι := Nat) [1, 4, 9, 10, 11, 12, 62, 63, 73, 74, 75, 76, 77, 78, 79, 80, 81, 82, 83, 84, 85, 86, 87, 88, 89, 90, 91, 92, 93, 94, 95, 96, 97, 98, 99, 100, 101, 102, 103, 104, 105, 106, 107, 108, 109, 110, 111, 112, 113, 114, 115, 116, 117, 118, 119, 120, 121, 122, 123, 124, 125] (fun k => [(64, .int .i64 (k : Nat))]) (fun _ => []) (fun k => k ≤ o.bk.length ∧ ∀ x ∈ o.bk.take k, bookedB o.fl o.fee x = true) (fun k => o.bk.length - k) (0)
      (repeat (first | exact KeepF.nil | (apply KeepF.cons; exact rfl) | apply KeepF.skip))
      (repeat (first | exact FrSub.nil | (apply FrSub.cons; exact rfl)))
      (repeat (first | exact HpSub.refl _ | (apply HpSub.consE; (repeat (first | exact P0 | apply P1 | apply PA)); exact rfl) | apply HpSub.skipX | exact HpSub.nil))
      · exact ⟨Nat.zero_le _, by simp⟩
      rintro k ⟨hk, hkp⟩
      try simp only [List.cons_append, List.nil_append]
      by_cases hlt : k < o.bk.length
      · rcases y with _ | ⟨g2, c2⟩
        · exact absurd (hyn rfl) (by omega)
        obtain ⟨e, hx⟩ : ∃ e, o.bk[k]? = some e := ⟨_, List.getElem?_eq_getElem hlt⟩
        obtain ⟨r0, r1, r2⟩ := bk_at hx
        have HX := fun w1 hD1 => sold_calls bd o (clA x) (clC x) (clA (some (g2, c2))) (clC (some (g2, c2))) w1 hD1 hd ⟨f1, f2⟩ (by omega) e.flight e.state e.kept
        try simp only [clA_some, clC_some, flH, bkH, clH_some, List.cons_append, List.nil_append]
        cases hpx : bookedB o.fl o.fee e with
        | false =>
          rw [show bookedB o.fl o.fee ⟨e.flight, e.state, e.kept⟩ = false from hpx] at HX
          repeat' (first | ((with_reducible apply oq_id); first | (focus ((with_reducible apply oq_indexAddrN); exact rfl; exact rfl; exact rfl; exact rfl; omega)) | (apply oq_fn; exact rfl; first | exact trivial | (refine ⟨?_, ?_⟩ <;> omega) | (refine ⟨?_, ?_, ?_⟩ <;> omega) | omega | skip) | ((with_reducible apply oq_loadAgg); exact rfl; exact rfl) | ((with_reducible apply oq_call (k := 95) (hc := Try.call95)); exact rfl; exact rfl; exact fun D w1 hw1 => HX w1 (desk_of hw1 (by (repeat (first | exact HpSub.refl _ | (apply HpSub.consE; (repeat (first | exact P0 | apply P1 | apply PA)); exact rfl) | apply HpSub.skipX | apply HpSub.skipX | exact HpSub.nil))) hxn hyn))) | ((with_reducible apply tl_id); first | ((with_reducible apply tl_nil)) | ((with_reducible apply u_q); exact rfl; exact rfl; exact rfl; exact rfl) | ((with_reducible apply u_s0); exact rfl; exact rfl) | ((with_reducible apply u_s); exact rfl; exact rfl; exact rfl)) | ((with_reducible apply os_id); first | ((with_reducible apply os_x); exact rfl) | ((with_reducible apply os_storeAgg); exact rfl; exact rfl; exact rfl; exact rfl; exact rfl)) | ((with_reducible apply ox_id); first | ((with_reducible apply ox_alloc); exact rfl; intro _)) | ((with_reducible apply rd_id); first | (apply Rd.own; (repeat (first | exact P0 | apply P1 | apply PA)); first | exact r0 | exact r1 | exact r2 | exact r3; done) | (apply Rd.own; (repeat (first | exact P0 | apply P1 | apply PA)); exact rfl; done)) | ((with_reducible apply t_id); first | ((with_reducible apply t_seq)) | (apply t_region; kernel_rfl) | ((with_reducible apply t_condT); exact rfl) | ((with_reducible apply t_condD); exact rfl; all_goals first | (intro hp; try (exfalso; omega)) | skip) | ((with_reducible apply t_ret)) | ((with_reducible apply t_skip)) | ((with_reducible apply t_block))) | with_reducible apply q_thenN | with_reducible apply q_thenR | with_reducible apply q_blockR | exact P0 | exact Rdn.zero | apply Rdn.succ | ((with_reducible apply Norm.nil); exact rfl) | ((with_reducible apply Norm.cons); exact rfl) | ((with_reducible apply end_ret)) | exact rvs_nil | ((with_reducible apply rvs_cons)) | ((with_reducible apply rv_tmp); exact rfl) | exact Nat.le_of_ble_eq_true rfl)
          all_goals exact ⟨_, .inl ⟨by unfold officeB; rw [all_no hx hpx]; simp, _, rfl, rfl⟩, HpSub.nil⟩
        | true =>
          rw [show bookedB o.fl o.fee ⟨e.flight, e.state, e.kept⟩ = true from hpx] at HX
          repeat' (first | ((with_reducible apply oq_id); first | (focus ((with_reducible apply oq_indexAddrN); exact rfl; exact rfl; exact rfl; exact rfl; omega)) | (apply oq_fn; exact rfl; first | exact trivial | (refine ⟨?_, ?_⟩ <;> omega) | (refine ⟨?_, ?_, ?_⟩ <;> omega) | omega | skip) | ((with_reducible apply oq_loadAgg); exact rfl; exact rfl) | ((with_reducible apply oq_call (k := 95) (hc := Try.call95)); exact rfl; exact rfl; exact fun D w1 hw1 => HX w1 (desk_of hw1 (by (repeat (first | exact HpSub.refl _ | (apply HpSub.consE; (repeat (first | exact P0 | apply P1 | apply PA)); exact rfl) | apply HpSub.skipX | apply HpSub.skipX | exact HpSub.nil))) hxn hyn))) | ((with_reducible apply tl_id); first | ((with_reducible apply tl_nil)) | ((with_reducible apply u_q); exact rfl; exact rfl; exact rfl; exact rfl) | ((with_reducible apply u_s0); exact rfl; exact rfl) | ((with_reducible apply u_s); exact rfl; exact rfl; exact rfl)) | ((with_reducible apply os_id); first | ((with_reducible apply os_x); exact rfl) | ((with_reducible apply os_storeAgg); exact rfl; exact rfl; exact rfl; exact rfl; exact rfl)) | ((with_reducible apply ox_id); first | ((with_reducible apply ox_alloc); exact rfl; intro _)) | ((with_reducible apply rd_id); first | (apply Rd.own; (repeat (first | exact P0 | apply P1 | apply PA)); first | exact r0 | exact r1 | exact r2 | exact r3; done) | (apply Rd.own; (repeat (first | exact P0 | apply P1 | apply PA)); exact rfl; done)) | ((with_reducible apply t_id); first | ((with_reducible apply t_seq)) | (apply t_region; kernel_rfl) | ((with_reducible apply t_condF); exact rfl) | ((with_reducible apply t_condD); exact rfl; all_goals first | (intro hp; try (exfalso; omega)) | skip) | ((with_reducible apply t_skip)) | ((with_reducible apply t_block))) | with_reducible apply q_thenN | with_reducible apply q_blockN | exact P0 | exact Rdn.zero | apply Rdn.succ | ((with_reducible apply Norm.nil); exact rfl) | ((with_reducible apply Norm.cons); exact rfl) | exact Nat.le_of_ble_eq_true rfl)
          all_goals (refine ⟨k + 1, ⟨by omega, fun y hy => ?_⟩, by omega, ?_, ?_⟩)
          · rw [List.take_add_one, hx, List.mem_append] at hy
            rcases hy with hy | hy
            · exact hkp y hy
            · obtain rfl : y = e := by simpa using hy
              exact hpx
          · try simp only [List.cons_append, List.nil_append]
            (repeat (first | exact FrSub.nil | (apply FrSub.cons; exact rfl)))
          · try simp only [List.cons_append, List.nil_append]
            (repeat (first | exact HpSub.refl _ | (apply HpSub.consE; (repeat (first | exact P0 | apply P1 | apply PA)); exact rfl) | apply HpSub.skipX | exact HpSub.nil))
      · have hba : o.bk.all (bookedB o.fl o.fee) = true := all_yes (by omega) hkp
        have hb : BksOk o.fl o.bk := fun x hxm => bookedB_ok hd ⟨f1, f2⟩ (List.all_eq_true.1 hba x hxm)
        have hb2 := fun x hxm => booked_st hd (List.all_eq_true.1 hba x hxm)
        clear hkp
        repeat' (first | ((with_reducible apply oq_id); first | (apply oq_fn; exact rfl; first | exact trivial | (refine ⟨?_, ?_⟩ <;> omega) | (refine ⟨?_, ?_, ?_⟩ <;> omega) | omega | skip) | ((with_reducible apply oq_load); exact rfl; exact rfl)) | ((with_reducible apply tl_id); first | ((with_reducible apply tl_nil)) | ((with_reducible apply u_q); exact rfl; exact rfl; exact rfl; exact rfl)) | ((with_reducible apply rd_id); first | (apply Rd.own; (repeat (first | exact P0 | apply P1 | apply PA)); exact rfl; done)) | ((with_reducible apply t_id); first | ((with_reducible apply t_seq)) | (apply t_region; kernel_rfl) | ((with_reducible apply t_condD); exact rfl; all_goals first | (intro hp; try (exfalso; omega)) | skip) | ((with_reducible apply t_exit)) | ((with_reducible apply t_block))) | with_reducible apply q_thenN | with_reducible apply q_thenE | ((with_reducible apply q_blockE); exact rfl))
        apply t_loopK (ι := Nat) [1, 4, 12, 74, 75, 102, 103, 104, 105, 106, 107, 108, 109, 110, 111, 112, 113, 114, 115, 116, 117, 118, 119, 120, 121, 122, 123, 124, 125] (fun k => [(76, .int .i64 (k : Nat))]) (fun _ => []) (fun k => k ≤ o.fl.length ∧ ∀ j, j < k → seatB o.fl o.bk j = true) (fun k => o.fl.length - k) (0)
        (repeat (first | exact KeepF.nil | (apply KeepF.cons; exact rfl) | apply KeepF.skip))
        (repeat (first | exact FrSub.nil | (apply FrSub.cons; exact rfl)))
        (repeat (first | exact HpSub.refl _ | (apply HpSub.consE; (repeat (first | exact P0 | apply P1 | apply PA)); exact rfl) | apply HpSub.skipX | exact HpSub.nil))
        · exact ⟨Nat.zero_le _, fun j hj => by omega⟩
        rintro k ⟨hk, hkp⟩
        try simp only [List.cons_append, List.nil_append]
        by_cases hlt : k < o.fl.length
        · rcases x with _ | ⟨g1, c1⟩
          · exact absurd (hxn rfl) (by omega)
          obtain ⟨e, hx⟩ : ∃ e, o.fl[k]? = some e := ⟨_, List.getElem?_eq_getElem hlt⟩
          obtain ⟨r0, r1, r2, r3⟩ := dep_at hx
          have HM1 := fun g cp w1 hD1 hS => count_calls bd o (clA (some (g1, c1))) (clC (some (g1, c1))) (clA y) (clC y) w1 hD1 hn2 (k : Int) (some ⟨g, 0, none⟩) 2 cp [1, 3] hS (by omega)
          have HM2 := fun g cp w1 hD1 hS => count_calls bd o (clA (some (g1, c1))) (clC (some (g1, c1))) (clA y) (clC y) w1 hD1 hn2 (k : Int) (some ⟨g, 0, none⟩) 1 cp [2] hS (by omega)
          have hm1 := many_in o.bk (k : Int) 1 o.bk.length
          have hm2 := many_in o.bk (k : Int) 2 o.bk.length
          have hm3 := many_in o.bk (k : Int) 3 o.bk.length
          rw [many_all (Nat.le_refl _)] at hm1 hm2 hm3
          rw [mt_many2 _ _ _ _ (by decide)] at HM1
          rw [mt_many] at HM2
          have hsv : seatB o.fl o.bk k = (decide (manyV o.bk k 1 + manyV o.bk k 3 ≤ e.seats) && (decide (manyV o.bk k 1 + manyV o.bk k 3 = e.seats) || decide (manyV o.bk k 2 ≤ 0))) := by unfold seatB; rw [hx]
          have hei := depOk_in (hd e (List.mem_of_getElem? hx)).1
          obtain ⟨m1, e1⟩ : ∃ q, manyV o.bk (k : Int) 1 = q := ⟨_, rfl⟩
          obtain ⟨m2, e2⟩ : ∃ q, manyV o.bk (k : Int) 2 = q := ⟨_, rfl⟩
          obtain ⟨m3, e3⟩ : ∃ q, manyV o.bk (k : Int) 3 = q := ⟨_, rfl⟩
          rw [e1, e3] at HM1
          rw [e2] at HM2
          rw [e1] at hm1
          rw [e2] at hm2
          rw [e3] at hm3
          rw [e1, e2, e3] at hsv
          try simp only [clA_some, clC_some, flH, bkH, clH_some, List.cons_append, List.nil_append]
          cases hpx : seatB o.fl o.bk k with
          | false =>
            have hv : e.seats < m1 + m3 ∨ (m1 + m3 < e.seats ∧ 0 < m2) := by
              refine Decidable.by_contra fun hc => ?_
              rw [hpx] at hsv
              have : (decide (m1 + m3 ≤ e.seats) && (decide (m1 + m3 = e.seats) || decide (m2 ≤ 0))) = true := by
                simp only [Bool.and_eq_true, Bool.or_eq_true, decide_eq_true_eq]; omega
              rw [this] at hsv; cases hsv
            repeat' (first | ((with_reducible apply oq_id); first | (focus ((with_reducible apply oq_indexAddrN); exact rfl; exact rfl; exact rfl; exact rfl; omega)) | (apply oq_fn; exact rfl; first | exact trivial | (refine ⟨?_, ?_⟩ <;> omega) | (refine ⟨?_, ?_, ?_⟩ <;> omega) | omega | skip) | ((with_reducible apply oq_load); exact rfl; exact rfl) | ((with_reducible apply oq_loadAgg); exact rfl; exact rfl) | ((with_reducible apply oq_call (k := 64) (hc := Try.call64)); exact rfl; exact rfl; exact fun D w1 hw1 => HM1 _ _ w1 (desk_of hw1 (by (repeat (first | exact HpSub.refl _ | (apply HpSub.consE; (repeat (first | exact P0 | apply P1 | apply PA)); exact rfl) | apply HpSub.skipX | apply HpSub.skipX | exact HpSub.nil))) hxn hyn) (two8 hw1 (by (repeat (first | exact P0 | apply P1 | apply PA))))) | ((with_reducible apply oq_call (k := 64) (hc := Try.call64)); exact rfl; exact rfl; exact fun D w1 hw1 => HM2 _ _ w1 (desk_of hw1 (by (repeat (first | exact HpSub.refl _ | (apply HpSub.consE; (repeat (first | exact P0 | apply P1 | apply PA)); exact rfl) | apply HpSub.skipX | apply HpSub.skipX | exact HpSub.nil))) hxn hyn) (one8 hw1 (by (repeat (first | exact P0 | apply P1 | apply PA)))))) | ((with_reducible apply tl_id); first | ((with_reducible apply tl_nil)) | ((with_reducible apply u_q); exact rfl; exact rfl; exact rfl; exact rfl) | ((with_reducible apply u_s0); exact rfl; exact rfl) | ((with_reducible apply u_s); exact rfl; exact rfl; exact rfl) | ((with_reducible apply u_skip); exact rfl; exact rfl; exact rfl) | ((with_reducible apply u_splitD); exact rfl; exact rfl; all_goals first | (intro hp; try (exfalso; omega)) | skip)) | ((with_reducible apply gx_id); first | ((with_reducible apply v_nil)) | ((with_reducible apply v_q); exact rfl; exact rfl; exact rfl)) | ((with_reducible apply os_id); first | ((with_reducible apply os_x); exact rfl) | ((with_reducible apply os_storeAgg); exact rfl; exact rfl; exact rfl; exact rfl; exact rfl)) | ((with_reducible apply ox_id); first | ((with_reducible apply ox_alloc); exact rfl; intro _) | ((with_reducible apply ox_buildSlice1); exact rfl; exact rfl; exact rfl; exact rfl; exact rfl; exact rfl; intro _)) | ((with_reducible apply ai_id); first | ((with_reducible apply ai_q); exact rfl; exact rfl; exact rfl; exact rfl; exact rfl) | ((with_reducible apply ai_x); exact rfl; exact rfl; exact rfl; exact rfl; exact rfl)) | ((with_reducible apply rd_id); first | (apply Rd.own; (repeat (first | exact P0 | apply P1 | apply PA)); first | exact r0 | exact r1 | exact r2 | exact r3; done) | (apply Rd.own; (repeat (first | exact P0 | apply P1 | apply PA)); exact rfl; done)) | ((with_reducible apply t_id); first | (apply t_mix (id := 20) [0, 1, 2, 3] 4 #[false, false, false, false, false, false, false, false]; kernel_rfl; kernel_rfl; exact rfl) | ((with_reducible apply t_seq)) | (apply t_region; kernel_rfl) | ((with_reducible apply t_condT); exact rfl) | ((with_reducible apply t_condD); exact rfl; all_goals first | (intro hp; try (exfalso; omega)) | skip) | ((with_reducible apply t_ret)) | ((with_reducible apply t_skip)) | ((with_reducible apply t_block))) | with_reducible apply q_thenN | with_reducible apply q_thenR | with_reducible apply q_blockR | exact P0 | exact Rdn.zero | apply Rdn.succ | ((with_reducible apply Norm.nil); exact rfl) | ((with_reducible apply Norm.cons); exact rfl) | ((with_reducible apply end_ret)) | exact rvs_nil | ((with_reducible apply rvs_cons)) | ((with_reducible apply rv_tmp); exact rfl) | ((with_reducible apply al_id); first | (apply al_done; decide +kernel) | (apply al_one 4; decide +kernel) | (apply al_one 5; decide +kernel) | (apply al_one 6; decide +kernel) | (apply al_one 7; decide +kernel)) | exact Nat.le_of_ble_eq_true rfl)
            all_goals exact ⟨_, .inl ⟨by unfold officeB; rw [all_no (l := List.range o.fl.length) (k := k) (x := k) (by simp [hlt]) hpx]; simp, _, rfl, rfl⟩, HpSub.nil⟩
          | true =>
            have hv : m1 + m3 ≤ e.seats ∧ (m1 + m3 = e.seats ∨ m2 ≤ 0) := by
              rw [hpx] at hsv
              have h2 := hsv.symm
              simp only [Bool.and_eq_true, Bool.or_eq_true, decide_eq_true_eq] at h2
              exact h2
            have hkp2 : ∀ y, y < k + 1 → seatB o.fl o.bk y = true := fun y hy => by
              rcases (by omega : y < k ∨ y = k) with h | rfl
              · exact hkp y h
              · exact hpx
            repeat' (first | ((with_reducible apply oq_id); first | (focus ((with_reducible apply oq_indexAddrN); exact rfl; exact rfl; exact rfl; exact rfl; omega)) | (apply oq_fn; exact rfl; first | exact trivial | (refine ⟨?_, ?_⟩ <;> omega) | (refine ⟨?_, ?_, ?_⟩ <;> omega) | omega | skip) | ((with_reducible apply oq_load); exact rfl; exact rfl) | ((with_reducible apply oq_loadAgg); exact rfl; exact rfl) | ((with_reducible apply oq_call (k := 64) (hc := Try.call64)); exact rfl; exact rfl; exact fun D w1 hw1 => HM1 _ _ w1 (desk_of hw1 (by (repeat (first | exact HpSub.refl _ | (apply HpSub.consE; (repeat (first | exact P0 | apply P1 | apply PA)); exact rfl) | apply HpSub.skipX | apply HpSub.skipX | exact HpSub.nil))) hxn hyn) (two8 hw1 (by (repeat (first | exact P0 | apply P1 | apply PA))))) | ((with_reducible apply oq_call (k := 64) (hc := Try.call64)); exact rfl; exact rfl; exact fun D w1 hw1 => HM2 _ _ w1 (desk_of hw1 (by (repeat (first | exact HpSub.refl _ | (apply HpSub.consE; (repeat (first | exact P0 | apply P1 | apply PA)); exact rfl) | apply HpSub.skipX | apply HpSub.skipX | exact HpSub.nil))) hxn hyn) (one8 hw1 (by (repeat (first | exact P0 | apply P1 | apply PA)))))) | ((with_reducible apply tl_id); first | ((with_reducible apply tl_nil)) | ((with_reducible apply u_q); exact rfl; exact rfl; exact rfl; exact rfl) | ((with_reducible apply u_s0); exact rfl; exact rfl) | ((with_reducible apply u_s); exact rfl; exact rfl; exact rfl) | ((with_reducible apply u_skip); exact rfl; exact rfl; exact rfl) | ((with_reducible apply u_splitD); exact rfl; exact rfl; all_goals first | (intro hp; try (exfalso; omega)) | skip)) | ((with_reducible apply gx_id); first | ((with_reducible apply v_nil)) | ((with_reducible apply v_q); exact rfl; exact rfl; exact rfl)) | ((with_reducible apply os_id); first | ((with_reducible apply os_x); exact rfl) | ((with_reducible apply os_storeAgg); exact rfl; exact rfl; exact rfl; exact rfl; exact rfl)) | ((with_reducible apply ox_id); first | ((with_reducible apply ox_alloc); exact rfl; intro _) | ((with_reducible apply ox_buildSlice1); exact rfl; exact rfl; exact rfl; exact rfl; exact rfl; exact rfl; intro _)) | ((with_reducible apply ai_id); first | ((with_reducible apply ai_q); exact rfl; exact rfl; exact rfl; exact rfl; exact rfl) | ((with_reducible apply ai_x); exact rfl; exact rfl; exact rfl; exact rfl; exact rfl)) | ((with_reducible apply rd_id); first | (apply Rd.own; (repeat (first | exact P0 | apply P1 | apply PA)); first | exact r0 | exact r1 | exact r2 | exact r3; done) | (apply Rd.own; (repeat (first | exact P0 | apply P1 | apply PA)); exact rfl; done)) | ((with_reducible apply t_id); first | (apply t_mix (id := 20) [0, 1, 2, 3] 4 #[false, false, false, false, false, false, false, false]; kernel_rfl; kernel_rfl; exact rfl) | ((with_reducible apply t_seq)) | (apply t_region; kernel_rfl) | ((with_reducible apply t_condF); exact rfl) | ((with_reducible apply t_condD); exact rfl; all_goals first | (intro hp; try (exfalso; omega)) | skip) | ((with_reducible apply t_skip)) | ((with_reducible apply t_block))) | with_reducible apply q_thenN | with_reducible apply q_blockN | exact P0 | exact Rdn.zero | apply Rdn.succ | ((with_reducible apply Norm.nil); exact rfl) | ((with_reducible apply Norm.cons); exact rfl) | ((with_reducible apply al_id); first | (apply al_done; decide +kernel) | (apply al_one 4; decide +kernel) | (apply al_one 5; decide +kernel) | (apply al_one 6; decide +kernel) | (apply al_one 7; decide +kernel)) | exact Nat.le_of_ble_eq_true rfl)
            all_goals (refine ⟨k + 1, ⟨by omega, hkp2⟩, by omega, ?_, ?_⟩)
            all_goals ((try simp only [List.cons_append, List.nil_append]); (repeat' (first | exact FrSub.nil | (apply FrSub.cons; exact rfl) | exact HpSub.refl _ | (apply HpSub.consE; (repeat (first | exact P0 | apply P1 | apply PA)); exact rfl) | apply HpSub.skipX)))
        · have hsa : (List.range o.fl.length).all (seatB o.fl o.bk) = true := by
            rw [List.all_eq_true]
            exact fun j hj => hkp j (by have := List.mem_range.1 hj; omega)
          have HS := fun w1 hD1 => purse_calls bd o (clA x) (clC x) (clA y) (clC y) w1 hD1 hd hb hb2 (by omega)
          have hin := sums_in hd hb (Nat.le_refl o.bk.length)
          rw [sums_all (Nat.le_refl _)] at hin
          have hof : officeB o = moneyB o := by unfold officeB; rw [hh, hda, hba, hsa]; rfl
          unfold OpenV
          rw [hof]
          unfold moneyB
          obtain ⟨⟨s1, s2, s3, s4⟩, hSS⟩ : ∃ q, sumsV o.fl o.bk = q := ⟨_, rfl⟩
          rw [hSS] at HS ⊢ hin
          unfold Small at hin
          simp only at HS hin ⊢
          by_cases q1 : o.inn = s1 + s2 + s3 + s4
          · by_cases q2 : o.out = s4
            · repeat' (first | ((with_reducible apply oq_id); first | (apply oq_fn; exact rfl; first | exact trivial | (refine ⟨?_, ?_⟩ <;> omega) | (refine ⟨?_, ?_, ?_⟩ <;> omega) | omega | skip) | ((with_reducible apply oq_load); exact rfl; exact rfl) | ((with_reducible apply oq_call (k := 68) (hc := Try.call68)); exact rfl; exact rfl; exact fun D w1 hw1 => HS w1 (desk_of hw1 (by (repeat (first | exact HpSub.refl _ | (apply HpSub.consE; (repeat (first | exact P0 | apply P1 | apply PA)); exact rfl) | apply HpSub.skipX | apply HpSub.skipX | exact HpSub.nil))) hxn hyn))) | ((with_reducible apply tl_id); first | ((with_reducible apply tl_nil)) | ((with_reducible apply u_q); exact rfl; exact rfl; exact rfl; exact rfl) | ((with_reducible apply u_s0); exact rfl; exact rfl) | ((with_reducible apply u_s); exact rfl; exact rfl; exact rfl)) | ((with_reducible apply gx_id); first | ((with_reducible apply v_nil)) | ((with_reducible apply v_q); exact rfl; exact rfl; exact rfl) | ((with_reducible apply v_splitD); exact rfl; exact rfl; all_goals first | (intro hp; try (exfalso; omega)) | skip)) | ((with_reducible apply os_id); first | ((with_reducible apply os_x); exact rfl) | ((with_reducible apply os_storeAgg); exact rfl; exact rfl; exact rfl; exact rfl; exact rfl)) | ((with_reducible apply ox_id); first | ((with_reducible apply ox_alloc); exact rfl; intro _)) | ((with_reducible apply rd_id); first | (apply Rd.own; (repeat (first | exact P0 | apply P1 | apply PA)); exact rfl; done)) | ((with_reducible apply t_id); first | ((with_reducible apply t_seq)) | (apply t_region; kernel_rfl) | (apply t_drawn; kernel_rfl; decide +kernel; try simp only [List.append_eq, List.cons_append, List.nil_append]) | ((with_reducible apply t_condD); exact rfl; all_goals first | (intro hp; try (exfalso; omega)) | skip) | ((with_reducible apply t_ret)) | ((with_reducible apply t_exit))) | with_reducible apply q_thenN | with_reducible apply q_thenE | ((with_reducible apply q_blockE); exact rfl) | exact P0 | ((with_reducible apply Norm.nil); exact rfl) | ((with_reducible apply Norm.cons); exact rfl) | ((with_reducible apply end_ret)) | exact rvs_nil | ((with_reducible apply rvs_cons)) | ((with_reducible apply rv_tmp); exact rfl) | exact Nat.le_of_ble_eq_true rfl)
              all_goals exact ⟨_, .inr ⟨by simp [q1, q2], bd, x, y, hxn, hyn, (by first | rfl | (rw [decide_eq_true q2]; rfl)), rfl⟩, by (repeat (first | exact HpSub.refl _ | (apply HpSub.consE; (repeat (first | exact P0 | apply P1 | apply PA)); exact rfl) | apply HpSub.skipX | exact HpSub.nil))⟩
            · repeat' (first | ((with_reducible apply oq_id); first | (apply oq_fn; exact rfl; first | exact trivial | (refine ⟨?_, ?_⟩ <;> omega) | (refine ⟨?_, ?_, ?_⟩ <;> omega) | omega | skip) | ((with_reducible apply oq_load); exact rfl; exact rfl) | ((with_reducible apply oq_call (k := 68) (hc := Try.call68)); exact rfl; exact rfl; exact fun D w1 hw1 => HS w1 (desk_of hw1 (by (repeat (first | exact HpSub.refl _ | (apply HpSub.consE; (repeat (first | exact P0 | apply P1 | apply PA)); exact rfl) | apply HpSub.skipX | apply HpSub.skipX | exact HpSub.nil))) hxn hyn))) | ((with_reducible apply tl_id); first | ((with_reducible apply tl_nil)) | ((with_reducible apply u_q); exact rfl; exact rfl; exact rfl; exact rfl) | ((with_reducible apply u_s0); exact rfl; exact rfl) | ((with_reducible apply u_s); exact rfl; exact rfl; exact rfl)) | ((with_reducible apply gx_id); first | ((with_reducible apply v_nil)) | ((with_reducible apply v_q); exact rfl; exact rfl; exact rfl) | ((with_reducible apply v_splitD); exact rfl; exact rfl; all_goals first | (intro hp; try (exfalso; omega)) | skip)) | ((with_reducible apply os_id); first | ((with_reducible apply os_x); exact rfl) | ((with_reducible apply os_storeAgg); exact rfl; exact rfl; exact rfl; exact rfl; exact rfl)) | ((with_reducible apply ox_id); first | ((with_reducible apply ox_alloc); exact rfl; intro _)) | ((with_reducible apply rd_id); first | (apply Rd.own; (repeat (first | exact P0 | apply P1 | apply PA)); exact rfl; done)) | ((with_reducible apply t_id); first | ((with_reducible apply t_seq)) | (apply t_region; kernel_rfl) | (apply t_drawn; kernel_rfl; decide +kernel; try simp only [List.append_eq, List.cons_append, List.nil_append]) | ((with_reducible apply t_condD); exact rfl; all_goals first | (intro hp; try (exfalso; omega)) | skip) | ((with_reducible apply t_ret)) | ((with_reducible apply t_exit))) | with_reducible apply q_thenN | with_reducible apply q_thenE | ((with_reducible apply q_blockE); exact rfl) | exact P0 | ((with_reducible apply Norm.nil); exact rfl) | ((with_reducible apply Norm.cons); exact rfl) | ((with_reducible apply end_ret)) | exact rvs_nil | ((with_reducible apply rvs_cons)) | ((with_reducible apply rv_tmp); exact rfl) | exact Nat.le_of_ble_eq_true rfl)
              all_goals exact ⟨_, .inl ⟨by simp [q2], some ⟨bd, 0, none⟩, (by first | rfl | (rw [decide_eq_false q2]; rfl)), rfl⟩, HpSub.nil⟩
          · repeat' (first | ((with_reducible apply oq_id); first | (apply oq_fn; exact rfl; first | exact trivial | (refine ⟨?_, ?_⟩ <;> omega) | (refine ⟨?_, ?_, ?_⟩ <;> omega) | omega | skip) | ((with_reducible apply oq_load); exact rfl; exact rfl) | ((with_reducible apply oq_call (k := 68) (hc := Try.call68)); exact rfl; exact rfl; exact fun D w1 hw1 => HS w1 (desk_of hw1 (by (repeat (first | exact HpSub.refl _ | (apply HpSub.consE; (repeat (first | exact P0 | apply P1 | apply PA)); exact rfl) | apply HpSub.skipX | apply HpSub.skipX | exact HpSub.nil))) hxn hyn))) | ((with_reducible apply tl_id); first | ((with_reducible apply tl_nil)) | ((with_reducible apply u_q); exact rfl; exact rfl; exact rfl; exact rfl) | ((with_reducible apply u_s0); exact rfl; exact rfl) | ((with_reducible apply u_s); exact rfl; exact rfl; exact rfl)) | ((with_reducible apply gx_id); first | ((with_reducible apply v_nil)) | ((with_reducible apply v_q); exact rfl; exact rfl; exact rfl) | ((with_reducible apply v_skip); exact rfl; exact rfl; exact rfl) | ((with_reducible apply v_splitD); exact rfl; exact rfl; all_goals first | (intro hp; try (exfalso; omega)) | skip)) | ((with_reducible apply os_id); first | ((with_reducible apply os_x); exact rfl) | ((with_reducible apply os_storeAgg); exact rfl; exact rfl; exact rfl; exact rfl; exact rfl)) | ((with_reducible apply ox_id); first | ((with_reducible apply ox_alloc); exact rfl; intro _)) | ((with_reducible apply rd_id); first | (apply Rd.own; (repeat (first | exact P0 | apply P1 | apply PA)); exact rfl; done)) | ((with_reducible apply t_id); first | ((with_reducible apply t_seq)) | (apply t_region; kernel_rfl) | (apply t_drawn; kernel_rfl; decide +kernel; try simp only [List.append_eq, List.cons_append, List.nil_append]) | ((with_reducible apply t_condD); exact rfl; all_goals first | (intro hp; try (exfalso; omega)) | skip) | ((with_reducible apply t_ret)) | ((with_reducible apply t_exit))) | with_reducible apply q_thenN | with_reducible apply q_thenE | ((with_reducible apply q_blockE); exact rfl) | exact P0 | ((with_reducible apply Norm.nil); exact rfl) | ((with_reducible apply Norm.cons); exact rfl) | ((with_reducible apply end_ret)) | exact rvs_nil | ((with_reducible apply rvs_cons)) | ((with_reducible apply rv_tmp); exact rfl) | exact Nat.le_of_ble_eq_true rfl)
            all_goals exact ⟨_, .inl ⟨by simp [q1], _, rfl, rfl⟩, HpSub.nil⟩
  · have hof : officeB o = false := by
      unfold officeB
      rw [show headB o = false by simpa using hh]
      rfl
    have hno : ¬ (0 ≤ o.now ∧ o.now ≤ 1000000 ∧ 0 ≤ o.notice ∧ o.notice ≤ 1000000 ∧ 0 ≤ o.fee ∧ o.fee ≤ 100 ∧ o.fl.length ≤ 10 ∧ o.bk.length ≤ 120) := fun h => hh (by unfold headB; simpa using h)
    by_cases h1 : (0 ≤ o.now ∧ o.now ≤ 1000000) ∧ (0 ≤ o.notice ∧ o.notice ≤ 1000000)
    · have hw2 := two_t h1.1 h1.2
      by_cases h3 : 0 ≤ o.fee ∧ o.fee ≤ 100
      · have hw1f := allFrom_t (lo := 0) (hi := 100) (z := o.fee) h3
        repeat' (first | ((with_reducible apply oq_id); first | (apply oq_fn; exact rfl; first | exact trivial | (refine ⟨?_, ?_⟩ <;> omega) | (refine ⟨?_, ?_, ?_⟩ <;> omega) | omega | skip) | ((with_reducible apply oq_load); exact rfl; exact rfl) | ((with_reducible apply oq_loadAgg); exact rfl; exact rfl) | ((with_reducible apply oq_call (k := 63) (hc := Try.call63)); exact rfl; exact rfl; exact fun D w1 hw1 => fromTwo hw2 hw1 (by (repeat (first | exact P0 | apply P1 | apply PA)))) | ((with_reducible apply oq_call (k := 63) (hc := Try.call63)); exact rfl; exact rfl; exact fun D w1 hw1 => fromOne hw1f hw1 (by (repeat (first | exact P0 | apply P1 | apply PA)))) | ((with_reducible apply oq_build); exact rfl; exact rfl; exact rfl)) | ((with_reducible apply tl_id); first | ((with_reducible apply tl_nil)) | ((with_reducible apply u_q); exact rfl; exact rfl; exact rfl; exact rfl) | ((with_reducible apply u_s); exact rfl; exact rfl; exact rfl) | ((with_reducible apply u_skip); exact rfl; exact rfl; exact rfl) | ((with_reducible apply u_splitD); exact rfl; exact rfl; all_goals first | (intro hp; try (exfalso; omega)) | skip)) | ((with_reducible apply os_id); first | ((with_reducible apply os_x); exact rfl)) | ((with_reducible apply ox_id); first | ((with_reducible apply ox_boxAgg); exact rfl; intro _) | ((with_reducible apply ox_buildSlice1); exact rfl; exact rfl; exact rfl; exact rfl; exact rfl; exact rfl; intro _)) | ((with_reducible apply rd_id); first | (apply Rd.own; (repeat (first | exact P0 | apply P1 | apply PA)); exact rfl; done)) | ((with_reducible apply t_id); first | ((with_reducible apply t_seq)) | (apply t_region; kernel_rfl) | ((with_reducible apply t_condT); exact rfl) | ((with_reducible apply t_condD); exact rfl; all_goals first | (intro hp; try (exfalso; omega)) | skip) | ((with_reducible apply t_ret))) | with_reducible apply q_thenN | with_reducible apply q_thenR | exact Rdn.zero | apply Rdn.succ | ((with_reducible apply Norm.nil); exact rfl) | ((with_reducible apply Norm.cons); exact rfl) | ((with_reducible apply end_ret)) | exact rvs_nil | ((with_reducible apply rvs_cons)) | ((with_reducible apply rv_tmp); exact rfl))
        all_goals exact ⟨_, .inl ⟨hof, _, rfl, rfl⟩, HpSub.nil⟩
      · have hw1f := allFrom_f (lo := 0) (hi := 100) (z := o.fee) h3
        repeat' (first | ((with_reducible apply oq_id); first | (apply oq_fn; exact rfl; first | exact trivial | (refine ⟨?_, ?_⟩ <;> omega) | (refine ⟨?_, ?_, ?_⟩ <;> omega) | omega | skip) | ((with_reducible apply oq_load); exact rfl; exact rfl) | ((with_reducible apply oq_loadAgg); exact rfl; exact rfl) | ((with_reducible apply oq_call (k := 63) (hc := Try.call63)); exact rfl; exact rfl; exact fun D w1 hw1 => fromTwo hw2 hw1 (by (repeat (first | exact P0 | apply P1 | apply PA)))) | ((with_reducible apply oq_call (k := 63) (hc := Try.call63)); exact rfl; exact rfl; exact fun D w1 hw1 => fromOne hw1f hw1 (by (repeat (first | exact P0 | apply P1 | apply PA)))) | ((with_reducible apply oq_build); exact rfl; exact rfl; exact rfl)) | ((with_reducible apply tl_id); first | ((with_reducible apply tl_nil)) | ((with_reducible apply u_q); exact rfl; exact rfl; exact rfl; exact rfl) | ((with_reducible apply u_s); exact rfl; exact rfl; exact rfl) | ((with_reducible apply u_skip); exact rfl; exact rfl; exact rfl)) | ((with_reducible apply os_id); first | ((with_reducible apply os_x); exact rfl)) | ((with_reducible apply ox_id); first | ((with_reducible apply ox_boxAgg); exact rfl; intro _) | ((with_reducible apply ox_buildSlice1); exact rfl; exact rfl; exact rfl; exact rfl; exact rfl; exact rfl; intro _)) | ((with_reducible apply rd_id); first | (apply Rd.own; (repeat (first | exact P0 | apply P1 | apply PA)); exact rfl; done)) | ((with_reducible apply t_id); first | ((with_reducible apply t_seq)) | (apply t_region; kernel_rfl) | ((with_reducible apply t_condT); exact rfl) | ((with_reducible apply t_ret))) | with_reducible apply q_thenN | with_reducible apply q_thenR | exact Rdn.zero | apply Rdn.succ | ((with_reducible apply Norm.nil); exact rfl) | ((with_reducible apply Norm.cons); exact rfl) | ((with_reducible apply end_ret)) | exact rvs_nil | ((with_reducible apply rvs_cons)) | ((with_reducible apply rv_tmp); exact rfl))
        all_goals exact ⟨_, .inl ⟨hof, _, rfl, rfl⟩, HpSub.nil⟩
    · have hw2 := two_f h1
      repeat' (first | ((with_reducible apply oq_id); first | (apply oq_fn; exact rfl; first | exact trivial | (refine ⟨?_, ?_⟩ <;> omega) | (refine ⟨?_, ?_, ?_⟩ <;> omega) | omega | skip) | ((with_reducible apply oq_load); exact rfl; exact rfl) | ((with_reducible apply oq_loadAgg); exact rfl; exact rfl) | ((with_reducible apply oq_call (k := 63) (hc := Try.call63)); exact rfl; exact rfl; exact fun D w1 hw1 => fromTwo hw2 hw1 (by (repeat (first | exact P0 | apply P1 | apply PA)))) | ((with_reducible apply oq_build); exact rfl; exact rfl; exact rfl)) | ((with_reducible apply tl_id); first | ((with_reducible apply tl_nil)) | ((with_reducible apply u_q); exact rfl; exact rfl; exact rfl; exact rfl) | ((with_reducible apply u_s); exact rfl; exact rfl; exact rfl) | ((with_reducible apply u_skip); exact rfl; exact rfl; exact rfl)) | ((with_reducible apply os_id); first | ((with_reducible apply os_x); exact rfl)) | ((with_reducible apply ox_id); first | ((with_reducible apply ox_boxAgg); exact rfl; intro _) | ((with_reducible apply ox_buildSlice1); exact rfl; exact rfl; exact rfl; exact rfl; exact rfl; exact rfl; intro _)) | ((with_reducible apply rd_id); first | (apply Rd.own; (repeat (first | exact P0 | apply P1 | apply PA)); exact rfl; done)) | ((with_reducible apply t_id); first | ((with_reducible apply t_seq)) | (apply t_region; kernel_rfl) | ((with_reducible apply t_condT); exact rfl) | ((with_reducible apply t_ret))) | with_reducible apply q_thenN | with_reducible apply q_thenR | exact Rdn.zero | apply Rdn.succ | ((with_reducible apply Norm.nil); exact rfl) | ((with_reducible apply Norm.cons); exact rfl) | ((with_reducible apply end_ret)) | exact rvs_nil | ((with_reducible apply rvs_cons)) | ((with_reducible apply rv_tmp); exact rfl))
      all_goals exact ⟨_, .inl ⟨hof, _, rfl, rfl⟩, HpSub.nil⟩

end Go.Proofs.Ytmlmgipngbndgaa
