/- Small functions over ints; the office, plainly; the reference's office. -/
import Derived.Test.YtmlmgipngbndgaaPkB
/- Lists of numbers: searching, bounds; care and flights. -/
namespace Go.Proofs.Ytmlmgipngbndgaa
open Go.RowKit
attribute [local irreducible] OQ OS OX Rd T TL GX GL AL AI RV wpG SAny Calls
set_option maxRecDepth 100000
set_option maxHeartbeats 2000000
set_option linter.unusedVariables false
set_option linter.unusedSimpArgs false


def inCells (z : Int) : List Value := [.int .i64 z]
theorem in_read {w : World} {A : Option Addr} {n : Nat} {l : List Int} (h : RdS w 1 A n (l.map inCells)) {i : Nat} (hi : i < n) :
    ∃ b o x, A = some ⟨b, o, none⟩ ∧ b < w.heap.size ∧ l[i]? = some x ∧ w.cell? ⟨b, o + i * 1, none⟩ = some (.int .i64 x) := by
  obtain ⟨b, o, cs, hA, hb, hx, _, hc⟩ := h.row hi
  simp only [List.getElem?_map, Option.map_eq_some_iff] at hx
  obtain ⟨x, hx, rfl⟩ := hx
  exact ⟨b, o, x, hA, hb, hx, hc 0 _ rfl⟩
def idxV {α : Type} (p : α → Bool) (l : List α) : Int := match l.findIdx? p with | some i => (i : Int) | none => -1
theorem idxV_some {α : Type} {p : α → Bool} {l : List α} {k : Nat} {x : α} (h : l[k]? = some x) (hp : p x = true) (hb : ∀ y ∈ l.take k, p y = false) : idxV p l = (k : Int) := by
  have : l.findIdx? p = some k := by
    rw [List.findIdx?_eq_some_iff_getElem]
    obtain ⟨hk, rfl⟩ := List.getElem?_eq_some_iff.1 h
    refine ⟨hk, hp, fun j hj => ?_⟩
    have := hb l[j] (List.mem_iff_getElem.2 ⟨j, by simp; omega, by simp⟩)
    simp [this]
  unfold idxV; rw [this]
theorem idxV_none {α : Type} {p : α → Bool} {l : List α} (hb : ∀ y ∈ l, p y = false) : idxV p l = -1 := by
  have : l.findIdx? p = none := List.findIdx?_eq_none_iff.2 hb
  unfold idxV; rw [this]
theorem idxV_any {α : Type} {p : α → Bool} {l : List α} : decide (0 ≤ idxV p l) = l.any p := by
  unfold idxV
  cases h : l.findIdx? p with
  | some i =>
    obtain ⟨hi, hp, _⟩ := List.findIdx?_eq_some_iff_getElem.1 h
    have h2 : l.any p = true := List.any_eq_true.2 ⟨l[i], List.getElem_mem hi, hp⟩
    rw [h2]
    simp
  | none =>
    have := List.findIdx?_eq_none_iff.1 h
    have h2 : l.any p = false := by
      rw [Bool.eq_false_iff, Ne, List.any_eq_true]
      rintro ⟨x, hx, hp⟩
      rw [this x hx] at hp; cases hp
    rw [h2]
    rfl

theorem indexInt_calls (f : Nat) (caps : List Value) (p : Int → Bool) (A : Option Addr) (n c : Nat) (l : List Int) (w : World) (hr : RdS w 1 A n (l.map inCells)) (hn : n ≤ 1000000) (hc : ∀ (a : Array Value) (w : World), (callFunc f a).run Try.prog w = .ok (.enter f a) w)
    (hf : ∀ x ∈ l, ∀ w1, Ext w w1 → Calls Try.prog f ⟨.int .i64 x :: caps⟩ w1 fun e w' => e = .returned (.bool (p x)) ∧ Ext w1 w') :
    Calls Try.prog 76 #[.slice A n c, .func (.func f) #[] ⟨caps⟩] w fun e w' => e = .returned (.int .i64 (idxV p l)) ∧ Ext w w' := by
  have hl := hr.len
  simp only [List.length_map] at hl
  
  refine enterQ (c := cx w 19) Try.func76 rfl rfl rfl rfl ?_
  repeat' (first | ((with_reducible apply oq_id); first | (apply oq_fn; exact rfl; first | exact trivial | (refine ⟨?_, ?_⟩ <;> omega) | (refine ⟨?_, ?_, ?_⟩ <;> omega) | omega | skip)) | ((with_reducible apply tl_id); first | ((with_reducible apply tl_nil)) | ((with_reducible apply u_q); exact rfl; exact rfl; exact rfl; exact rfl)) | ((with_reducible apply t_id); first | ((with_reducible apply t_seq)) | (apply t_region; kernel_rfl) | ((with_reducible apply t_block))) | with_reducible apply q_thenN)
  apply t_loopK (ι := Nat) [0, 1, 7] (fun k => [(8, .int .i64 (k : Nat))]) (fun _ => []) (fun k => k ≤ n ∧ ∀ x ∈ l.take k, p x = false) (fun k => n - k) (0)
  (repeat (first | exact KeepF.nil | (apply KeepF.cons; exact rfl) | apply KeepF.skip))
  (repeat (first | exact FrSub.nil | (apply FrSub.cons; exact rfl)))
  (repeat (first | exact HpSub.refl _ | (apply HpSub.consE; (repeat (first | exact P0 | apply P1)); exact rfl) | exact HpSub.nil))
  · exact ⟨by omega, by simp⟩
  rintro k ⟨hk, hkp⟩
  try simp only [List.cons_append, List.nil_append]
  by_cases hlt : k < n
  · obtain ⟨b1, o1, x, rfl, _, hx, c0⟩ := in_read hr hlt
    have hfx := hf x (List.mem_of_getElem? hx)
    cases hpx : p x with
    | true =>
      rw [hpx] at hfx
      repeat' (first | ((with_reducible apply oq_id); first | (focus ((with_reducible apply oq_indexAddrN); exact rfl; exact rfl; exact rfl; exact rfl; omega)) | (apply oq_fn; exact rfl; first | exact trivial | (refine ⟨?_, ?_⟩ <;> omega) | (refine ⟨?_, ?_, ?_⟩ <;> omega) | omega | skip) | ((with_reducible apply oq_load); exact rfl; exact rfl) | ((with_reducible apply oq_call (k := f) (hc := hc)); exact rfl; exact rfl; exact fun D w1 hw1 => hfx w1 hw1.ext.ext)) | ((with_reducible apply tl_id); first | ((with_reducible apply tl_nil)) | ((with_reducible apply u_q); exact rfl; exact rfl; exact rfl; exact rfl)) | ((with_reducible apply rd_id); first | (apply Rd.old; (first | (with_reducible assumption) | exact c0 | exact c1 | exact c2 | exact c3 | exact c4 | exact c5 | exact c6 | exact c7 | exact c8 | exact d0 | exact d1 | exact d2 | exact d3 | exact d4 | exact d5); first | exact List.not_mem_nil | exact m0 | exact m1 | exact m2 | exact m3 | exact m4 | exact m5 | exact m6 | exact m7 | exact m8 | exact m9)) | ((with_reducible apply t_id); first | ((with_reducible apply t_seq)) | (apply t_region; kernel_rfl) | ((with_reducible apply t_condT); exact rfl) | ((with_reducible apply t_condD); exact rfl; all_goals first | (intro hp; try (exfalso; omega)) | skip) | ((with_reducible apply t_ret)) | ((with_reducible apply t_skip)) | ((with_reducible apply t_block))) | with_reducible apply q_thenN | with_reducible apply q_thenR | with_reducible apply q_blockR | ((with_reducible apply end_ret)) | exact rvs_nil | ((with_reducible apply rvs_cons)) | ((with_reducible apply rv_tmp); exact rfl))
      rw [idxV_some hx hpx hkp]; rfl
    | false =>
      rw [hpx] at hfx
      repeat' (first | ((with_reducible apply oq_id); first | (focus ((with_reducible apply oq_indexAddrN); exact rfl; exact rfl; exact rfl; exact rfl; omega)) | (apply oq_fn; exact rfl; first | exact trivial | (refine ⟨?_, ?_⟩ <;> omega) | (refine ⟨?_, ?_, ?_⟩ <;> omega) | omega | skip) | ((with_reducible apply oq_load); exact rfl; exact rfl) | ((with_reducible apply oq_call (k := f) (hc := hc)); exact rfl; exact rfl; exact fun D w1 hw1 => hfx w1 hw1.ext.ext)) | ((with_reducible apply tl_id); first | ((with_reducible apply tl_nil)) | ((with_reducible apply u_q); exact rfl; exact rfl; exact rfl; exact rfl)) | ((with_reducible apply rd_id); first | (apply Rd.old; (first | (with_reducible assumption) | exact c0 | exact c1 | exact c2 | exact c3 | exact c4 | exact c5 | exact c6 | exact c7 | exact c8 | exact d0 | exact d1 | exact d2 | exact d3 | exact d4 | exact d5); first | exact List.not_mem_nil | exact m0 | exact m1 | exact m2 | exact m3 | exact m4 | exact m5 | exact m6 | exact m7 | exact m8 | exact m9)) | ((with_reducible apply t_id); first | ((with_reducible apply t_seq)) | (apply t_region; kernel_rfl) | ((with_reducible apply t_condF); exact rfl) | ((with_reducible apply t_condD); exact rfl; all_goals first | (intro hp; try (exfalso; omega)) | skip) | ((with_reducible apply t_skip)) | ((with_reducible apply t_block))) | with_reducible apply q_thenN | with_reducible apply q_blockN)
      refine ⟨k + 1, ⟨by omega, fun y hy => ?_⟩, by omega, ?_, ?_⟩
      · rw [List.take_add_one, hx, List.mem_append] at hy
        rcases hy with hy | hy
        · exact hkp y hy
        · obtain rfl : y = x := by simpa using hy
          exact hpx
      · try simp only [List.cons_append, List.nil_append]
        (repeat (first | exact FrSub.nil | (apply FrSub.cons; exact rfl)))
      · try simp only [List.cons_append, List.nil_append]
        (repeat (first | exact HpSub.refl _ | (apply HpSub.consE; (repeat (first | exact P0 | apply P1)); exact rfl) | exact HpSub.nil))
  · repeat' (first | ((with_reducible apply oq_id); first | (apply oq_fn; exact rfl; first | exact trivial | (refine ⟨?_, ?_⟩ <;> omega) | (refine ⟨?_, ?_, ?_⟩ <;> omega) | omega | skip)) | ((with_reducible apply tl_id); first | ((with_reducible apply tl_nil)) | ((with_reducible apply u_q); exact rfl; exact rfl; exact rfl; exact rfl)) | ((with_reducible apply t_id); first | ((with_reducible apply t_seq)) | (apply t_region; kernel_rfl) | ((with_reducible apply t_condD); exact rfl; all_goals first | (intro hp; try (exfalso; omega)) | skip) | ((with_reducible apply t_ret)) | ((with_reducible apply t_exit))) | with_reducible apply q_thenN | with_reducible apply q_thenE | ((with_reducible apply q_blockE); exact rfl) | ((with_reducible apply end_ret)) | exact rvs_nil | ((with_reducible apply rvs_cons)) | ((with_reducible apply rv_tmp); exact rfl))
    rw [idxV_none (fun y hy => hkp y (by rw [List.take_of_length_le (by omega)]; exact hy))]; rfl

theorem containsInt_calls (f : Nat) (caps : List Value) (p : Int → Bool) (A : Option Addr) (n c : Nat) (l : List Int) (w : World) (hr : RdS w 1 A n (l.map inCells)) (hn : n ≤ 1000000) (hc : ∀ (a : Array Value) (w : World), (callFunc f a).run Try.prog w = .ok (.enter f a) w)
    (hf : ∀ x ∈ l, ∀ w1, Ext w w1 → Calls Try.prog f ⟨.int .i64 x :: caps⟩ w1 fun e w' => e = .returned (.bool (p x)) ∧ Ext w1 w') : Calls Try.prog 96 #[.slice A n c, .func (.func f) #[] ⟨caps⟩] w fun e w' => e = .returned (.bool (l.any p)) ∧ Ext w w' := by
  
  refine enterQ (c := cx w 9) Try.func96 rfl rfl rfl rfl ?_
  repeat' (first | ((with_reducible apply oq_id); first | (apply oq_fn; exact rfl; first | exact trivial | (refine ⟨?_, ?_⟩ <;> omega) | (refine ⟨?_, ?_, ?_⟩ <;> omega) | omega | skip) | ((with_reducible apply oq_call (k := 76) (hc := Try.call76)); exact rfl; exact rfl; exact fun D w1 hw1 => indexInt_calls f caps p A n c l w1 (hr.ext hw1.ext.ext) hn hc (fun x hx w2 h2 => hf x hx w2 (hw1.ext.ext.trans h2)))) | ((with_reducible apply tl_id); first | ((with_reducible apply tl_nil)) | ((with_reducible apply u_q); exact rfl; exact rfl; exact rfl; exact rfl)) | ((with_reducible apply t_id); first | ((with_reducible apply t_seq)) | (apply t_region; kernel_rfl) | ((with_reducible apply t_ret))) | with_reducible apply q_thenN | ((with_reducible apply end_ret)) | exact rvs_nil | ((with_reducible apply rvs_cons)) | ((with_reducible apply rv_tmp); exact rfl))
  all_goals (rw [← idxV_any]; rfl)

theorem indexOf_calls (z : Int) (A : Option Addr) (n c : Nat) (l : List Int) (w : World) (hr : RdS w 1 A n (l.map inCells)) (hn : n ≤ 1000000)  :
    Calls Try.prog 102 #[.slice A n c, .int .i64 z] w fun e w' => e = .returned (.int .i64 (idxV (fun x => decide (z = x)) l)) ∧ Ext w w' := by
  have hl := hr.len
  simp only [List.length_map] at hl
  
  refine enterQ (c := cx w 19) Try.func102 rfl rfl rfl rfl ?_
  repeat' (first | ((with_reducible apply oq_id); first | (apply oq_fn; exact rfl; first | exact trivial | (refine ⟨?_, ?_⟩ <;> omega) | (refine ⟨?_, ?_, ?_⟩ <;> omega) | omega | skip)) | ((with_reducible apply tl_id); first | ((with_reducible apply tl_nil)) | ((with_reducible apply u_q); exact rfl; exact rfl; exact rfl; exact rfl)) | ((with_reducible apply t_id); first | ((with_reducible apply t_seq)) | (apply t_region; kernel_rfl) | ((with_reducible apply t_block))) | with_reducible apply q_thenN)
  apply t_loopK (ι := Nat) [0, 1, 7] (fun k => [(8, .int .i64 (k : Nat))]) (fun _ => []) (fun k => k ≤ n ∧ ∀ x ∈ l.take k, (fun x => decide (z = x)) x = false) (fun k => n - k) (0)
  (repeat (first | exact KeepF.nil | (apply KeepF.cons; exact rfl) | apply KeepF.skip))
  (repeat (first | exact FrSub.nil | (apply FrSub.cons; exact rfl)))
  (repeat (first | exact HpSub.refl _ | (apply HpSub.consE; (repeat (first | exact P0 | apply P1)); exact rfl) | exact HpSub.nil))
  · exact ⟨by omega, by simp⟩
  rintro k ⟨hk, hkp⟩
  try simp only [List.cons_append, List.nil_append]
  by_cases hlt : k < n
  · obtain ⟨b1, o1, x, rfl, _, hx, c0⟩ := in_read hr hlt
    
    cases hpx : (fun x => decide (z = x)) x with
    | true =>
      have hpe := hpx; simp only [decide_eq_true_eq, decide_eq_false_iff_not] at hpe
      repeat' (first | ((with_reducible apply oq_id); first | (focus ((with_reducible apply oq_indexAddrN); exact rfl; exact rfl; exact rfl; exact rfl; omega)) | (apply oq_fn; exact rfl; first | exact trivial | (refine ⟨?_, ?_⟩ <;> omega) | (refine ⟨?_, ?_, ?_⟩ <;> omega) | omega | skip) | ((with_reducible apply oq_load); exact rfl; exact rfl)) | ((with_reducible apply tl_id); first | ((with_reducible apply tl_nil)) | ((with_reducible apply u_q); exact rfl; exact rfl; exact rfl; exact rfl)) | ((with_reducible apply rd_id); first | (apply Rd.old; (first | (with_reducible assumption) | exact c0 | exact c1 | exact c2 | exact c3 | exact c4 | exact c5 | exact c6 | exact c7 | exact c8 | exact d0 | exact d1 | exact d2 | exact d3 | exact d4 | exact d5); first | exact List.not_mem_nil | exact m0 | exact m1 | exact m2 | exact m3 | exact m4 | exact m5 | exact m6 | exact m7 | exact m8 | exact m9)) | ((with_reducible apply t_id); first | ((with_reducible apply t_seq)) | (apply t_region; kernel_rfl) | ((with_reducible apply t_condD); exact rfl; all_goals first | (intro hp; try (exfalso; omega)) | skip) | ((with_reducible apply t_ret)) | ((with_reducible apply t_skip)) | ((with_reducible apply t_block))) | with_reducible apply q_thenN | with_reducible apply q_thenR | with_reducible apply q_blockR | ((with_reducible apply end_ret)) | exact rvs_nil | ((with_reducible apply rvs_cons)) | ((with_reducible apply rv_tmp); exact rfl))
      rw [idxV_some hx hpx hkp]; rfl
    | false =>
      have hpe := hpx; simp only [decide_eq_true_eq, decide_eq_false_iff_not] at hpe
      repeat' (first | ((with_reducible apply oq_id); first | (focus ((with_reducible apply oq_indexAddrN); exact rfl; exact rfl; exact rfl; exact rfl; omega)) | (apply oq_fn; exact rfl; first | exact trivial | (refine ⟨?_, ?_⟩ <;> omega) | (refine ⟨?_, ?_, ?_⟩ <;> omega) | omega | skip) | ((with_reducible apply oq_load); exact rfl; exact rfl)) | ((with_reducible apply tl_id); first | ((with_reducible apply tl_nil)) | ((with_reducible apply u_q); exact rfl; exact rfl; exact rfl; exact rfl)) | ((with_reducible apply rd_id); first | (apply Rd.old; (first | (with_reducible assumption) | exact c0 | exact c1 | exact c2 | exact c3 | exact c4 | exact c5 | exact c6 | exact c7 | exact c8 | exact d0 | exact d1 | exact d2 | exact d3 | exact d4 | exact d5); first | exact List.not_mem_nil | exact m0 | exact m1 | exact m2 | exact m3 | exact m4 | exact m5 | exact m6 | exact m7 | exact m8 | exact m9)) | ((with_reducible apply t_id); first | ((with_reducible apply t_seq)) | (apply t_region; kernel_rfl) | ((with_reducible apply t_condD); exact rfl; all_goals first | (intro hp; try (exfalso; omega)) | skip) | ((with_reducible apply t_skip)) | ((with_reducible apply t_block))) | with_reducible apply q_thenN | with_reducible apply q_blockN)
      refine ⟨k + 1, ⟨by omega, fun y hy => ?_⟩, by omega, ?_, ?_⟩
      · rw [List.take_add_one, hx, List.mem_append] at hy
        rcases hy with hy | hy
        · exact hkp y hy
        · obtain rfl : y = x := by simpa using hy
          exact hpx
      · try simp only [List.cons_append, List.nil_append]
        (repeat (first | exact FrSub.nil | (apply FrSub.cons; exact rfl)))
      · try simp only [List.cons_append, List.nil_append]
        (repeat (first | exact HpSub.refl _ | (apply HpSub.consE; (repeat (first | exact P0 | apply P1)); exact rfl) | exact HpSub.nil))
  · repeat' (first | ((with_reducible apply oq_id); first | (apply oq_fn; exact rfl; first | exact trivial | (refine ⟨?_, ?_⟩ <;> omega) | (refine ⟨?_, ?_, ?_⟩ <;> omega) | omega | skip)) | ((with_reducible apply tl_id); first | ((with_reducible apply tl_nil)) | ((with_reducible apply u_q); exact rfl; exact rfl; exact rfl; exact rfl)) | ((with_reducible apply t_id); first | ((with_reducible apply t_seq)) | (apply t_region; kernel_rfl) | ((with_reducible apply t_condD); exact rfl; all_goals first | (intro hp; try (exfalso; omega)) | skip) | ((with_reducible apply t_ret)) | ((with_reducible apply t_exit))) | with_reducible apply q_thenN | with_reducible apply q_thenE | ((with_reducible apply q_blockE); exact rfl) | ((with_reducible apply end_ret)) | exact rvs_nil | ((with_reducible apply rvs_cons)) | ((with_reducible apply rv_tmp); exact rfl))
    rw [idxV_none (fun y hy => hkp y (by rw [List.take_of_length_le (by omega)]; exact hy))]; rfl

theorem containsOf_calls (z : Int) (A : Option Addr) (n c : Nat) (l : List Int) (w : World) (hr : RdS w 1 A n (l.map inCells)) (hn : n ≤ 1000000) : Calls Try.prog 72 #[.slice A n c, .int .i64 z] w fun e w' => e = .returned (.bool (l.any fun x => decide (z = x))) ∧ Ext w w' := by
  
  refine enterQ (c := cx w 9) Try.func72 rfl rfl rfl rfl ?_
  repeat' (first | ((with_reducible apply oq_id); first | (apply oq_fn; exact rfl; first | exact trivial | (refine ⟨?_, ?_⟩ <;> omega) | (refine ⟨?_, ?_, ?_⟩ <;> omega) | omega | skip) | ((with_reducible apply oq_call (k := 102) (hc := Try.call102)); exact rfl; exact rfl; exact fun D w1 hw1 => indexOf_calls z A n c l w1 (hr.ext hw1.ext.ext) hn)) | ((with_reducible apply tl_id); first | ((with_reducible apply tl_nil)) | ((with_reducible apply u_q); exact rfl; exact rfl; exact rfl; exact rfl)) | ((with_reducible apply t_id); first | ((with_reducible apply t_seq)) | (apply t_region; kernel_rfl) | ((with_reducible apply t_ret))) | with_reducible apply q_thenN | ((with_reducible apply end_ret)) | exact rvs_nil | ((with_reducible apply rvs_cons)) | ((with_reducible apply rv_tmp); exact rfl))
  all_goals (rw [← idxV_any]; rfl)


def allFrom (lo hi : Int) (l : List Int) : Bool := l.all fun z => decide (lo ≤ z) && decide (z ≤ hi)
def outOf (lo hi : Int) (z : Int) : Bool := decide (z < lo) || decide (hi < z)
theorem allFrom_any (lo hi : Int) (l : List Int) : (!(l.any (outOf lo hi))) = allFrom lo hi l := by
  unfold allFrom
  induction l with
  | nil => rfl
  | cons z l ih =>
    simp only [List.any_cons, List.all_cons, Bool.not_or, ih]
    congr 1
    unfold outOf
    by_cases h1 : z < lo <;> by_cases h2 : hi < z <;> simp [h1, h2, Int.not_le.2, Int.not_lt.1] <;> omega

theorem from1_calls (b1 b2 : Nat) (lo hi z : Int) (w : World) (c0 : w.cell? ⟨b1, 0, none⟩ = some (.int .i64 lo)) (c1 : w.cell? ⟨b2, 0, none⟩ = some (.int .i64 hi)) :
    Calls Try.prog 97 #[.int .i64 z, .pointer (some ⟨b1, 0, none⟩), .pointer (some ⟨b2, 0, none⟩)] w fun e w' => e = .returned (.bool (outOf lo hi z)) ∧ Ext w w' := by
  refine enterQ (c := cx w 13) Try.func97 rfl rfl rfl rfl ?_
  repeat' (first | ((with_reducible apply oq_id); first | (apply oq_fn; exact rfl; first | exact trivial | (refine ⟨?_, ?_⟩ <;> omega) | (refine ⟨?_, ?_, ?_⟩ <;> omega) | omega | skip) | ((with_reducible apply oq_load); exact rfl; exact rfl)) | ((with_reducible apply tl_id); first | ((with_reducible apply tl_nil)) | ((with_reducible apply u_q); exact rfl; exact rfl; exact rfl; exact rfl) | ((with_reducible apply u_skip); exact rfl; exact rfl; exact rfl) | ((with_reducible apply u_splitD); exact rfl; exact rfl; all_goals first | (intro hp; try (exfalso; omega)) | skip)) | ((with_reducible apply rd_id); first | (apply Rd.old; (first | (with_reducible assumption) | exact c0 | exact c1 | exact c2 | exact c3 | exact c4 | exact c5 | exact c6 | exact c7 | exact c8 | exact d0 | exact d1 | exact d2 | exact d3 | exact d4 | exact d5); first | exact List.not_mem_nil | exact m0 | exact m1 | exact m2 | exact m3 | exact m4 | exact m5 | exact m6 | exact m7 | exact m8 | exact m9)) | ((with_reducible apply t_id); first | ((with_reducible apply t_seq)) | (apply t_region; kernel_rfl) | ((with_reducible apply t_ret))) | with_reducible apply q_thenN | ((with_reducible apply end_ret)) | exact rvs_nil | ((with_reducible apply rvs_cons)) | ((with_reducible apply rv_tmp); exact rfl))
  all_goals (unfold outOf; first | (rw [decide_eq_true hp]; rfl) | (rw [decide_eq_false hp]; rfl))

theorem from_calls (lo hi : Int) (A : Option Addr) (n c : Nat) (l : List Int) (w : World) (hr : RdS w 1 A n (l.map inCells)) (hn : n ≤ 1000000) :
    Calls Try.prog 63 #[.int .i64 lo, .int .i64 hi, .slice A n c] w fun e w' => e = .returned (.bool (allFrom lo hi l)) ∧ Ext w w' := by
  refine enterQ (c := cx w 11) Try.func63 rfl rfl rfl rfl ?_
  repeat' (first | ((with_reducible apply oq_id); first | (apply oq_fn; exact rfl; first | exact trivial | (refine ⟨?_, ?_⟩ <;> omega) | (refine ⟨?_, ?_, ?_⟩ <;> omega) | omega | skip) | ((with_reducible apply oq_call (k := 96) (hc := Try.call96)); exact rfl; exact rfl; exact fun D w1 hw1 => containsInt_calls 97 [.pointer (some ⟨_, 0, none⟩), .pointer (some ⟨_, 0, none⟩)] (outOf lo hi) A n c l w1 (hr.ext hw1.ext.ext) hn Try.call97 (fun x hx w2 h2 => from1_calls _ _ lo hi x w2 (h2.cell (hw1.cellAt (by (repeat (first | exact P0 | apply P1))) rfl)) (h2.cell (hw1.cellAt (by (repeat (first | exact P0 | apply P1))) rfl))))) | ((with_reducible apply tl_id); first | ((with_reducible apply tl_nil)) | ((with_reducible apply u_q); exact rfl; exact rfl; exact rfl; exact rfl) | ((with_reducible apply u_s); exact rfl; exact rfl; exact rfl)) | ((with_reducible apply os_id); first | ((with_reducible apply os_x); exact rfl)) | ((with_reducible apply ox_id); first | ((with_reducible apply ox_box); exact rfl; exact rfl; intro _)) | ((with_reducible apply t_id); first | ((with_reducible apply t_seq)) | (apply t_region; kernel_rfl) | ((with_reducible apply t_ret))) | with_reducible apply q_thenN | ((with_reducible apply end_ret)) | exact rvs_nil | ((with_reducible apply rvs_cons)) | ((with_reducible apply rv_tmp); exact rfl))
  all_goals (rw [← allFrom_any]; rfl)

end Go.Proofs.Ytmlmgipngbndgaa
/- Care and flights: plain laws. -/
namespace Go.Proofs.Ytmlmgipngbndgaa
set_option linter.unusedVariables false
set_option linter.unusedSimpArgs false
def careOk (ev gr du : Int) : Bool := decide (1 ≤ ev ∧ ev ≤ 100000 ∧ 0 ≤ gr ∧ gr ≤ 100000 ∧ -gr ≤ du ∧ du ≤ 100000)
def careE (ev gr du : Int) : Int := if careOk ev gr du then 0 else 82
theorem careOk_all (ev gr du : Int) : (allFrom 1 100000 [ev] && (allFrom 0 100000 [gr] && allFrom (-gr) 100000 [du])) = careOk ev gr du := by
  unfold careOk allFrom
  rw [Bool.eq_iff_iff]
  simp
  omega
/-- The error of care and flights. -/
def caredE (ev gr du : Int) (fs : List Int) : Int := if careOk ev gr du then (if 60 < fs.length then 4 else if allFrom 1 10000 fs then 0 else 2) else 82
theorem cared_ok {ev gr du : Int} {fs : List Int} (h : caredE ev gr du fs = 0) : 1 ≤ ev ∧ ev ≤ 100000 ∧ 0 ≤ gr ∧ gr ≤ 100000 ∧ -gr ≤ du ∧ du ≤ 100000 ∧ fs.length ≤ 60 ∧ ∀ f ∈ fs, 1 ≤ f ∧ f ≤ 10000 := by
  unfold caredE at h
  by_cases h1 : careOk ev gr du = true
  · rw [if_pos h1] at h
    by_cases h2 : 60 < fs.length
    · rw [if_pos h2] at h; cases h
    · rw [if_neg h2] at h
      by_cases h3 : allFrom 1 10000 fs = true
      · unfold careOk at h1
        simp only [decide_eq_true_eq] at h1
        refine ⟨h1.1, h1.2.1, h1.2.2.1, h1.2.2.2.1, h1.2.2.2.2.1, h1.2.2.2.2.2, by omega, fun f hf => ?_⟩
        unfold allFrom at h3
        have := List.all_eq_true.1 h3 f hf
        simpa using this
      · rw [if_neg h3] at h; cases h
  · rw [if_neg h1] at h; cases h
/-- Is the j-th number of a plan for n flights as it has to be? -/
def plAt (n : Nat) (pl : List Int) (j : Nat) : Bool := match pl[j]? with
  | none => true
  | some x => decide (0 ≤ x) && decide (x < n) && (decide (j = 0) || match pl[j - 1]? with | some y => decide (y < x) | none => true)
def planB (n : Nat) (pl : List Int) : Bool := (List.range pl.length).all (plAt n pl)
theorem planB_no {n : Nat} {pl : List Int} {j : Nat} (hj : j < pl.length) (h : plAt n pl j = false) : planB n pl = false := by
  unfold planB
  rw [Bool.eq_false_iff, Ne, List.all_eq_true]
  intro h2
  rw [h2 j (List.mem_range.2 hj)] at h; cases h
theorem planB_yes {n : Nat} {pl : List Int} (h : ∀ j, j < pl.length → plAt n pl j = true) : planB n pl = true := by
  unfold planB
  rw [List.all_eq_true]
  exact fun j hj => h j (List.mem_range.1 hj)
theorem planB_at {n : Nat} {pl : List Int} (h : planB n pl = true) {j : Nat} (hj : j < pl.length) : plAt n pl j = true := by
  unfold planB at h
  exact List.all_eq_true.1 h j (List.mem_range.2 hj)
theorem planB_incr {n : Nat} {pl : List Int} (h : planB n pl = true) {i : Nat} : ∀ {j : Nat} {x y : Int}, i < j → pl[i]? = some x → pl[j]? = some y → x < y := by
  intro j
  induction j with
  | zero => intro x y hi; omega
  | succ j ih =>
    intro x y hi hx hy
    have hj : j + 1 < pl.length := (List.getElem?_eq_some_iff.1 hy).1
    have hp : pl[j]? = some pl[j] := List.getElem?_eq_getElem (by omega)
    have h1 := planB_at h hj
    unfold plAt at h1
    rw [hy] at h1
    simp only [Nat.add_sub_cancel, hp, Bool.and_eq_true, Bool.or_eq_true, decide_eq_true_eq] at h1
    have h2 : pl[j] < y := by
      rcases h1.2 with h2 | h2
      · omega
      · exact h2
    rcases Nat.lt_or_ge i j with h3 | h3
    · exact Int.lt_trans (ih h3 hx hp) h2
    · obtain rfl : i = j := by omega
      rw [hp] at hx
      obtain rfl := Option.some.inj hx
      exact h2
theorem planB_in {n : Nat} {pl : List Int} (h : planB n pl = true) {j : Nat} {x : Int} (hx : pl[j]? = some x) : 0 ≤ x ∧ x < n := by
  have h1 := planB_at h (List.getElem?_eq_some_iff.1 hx).1
  unfold plAt at h1
  rw [hx] at h1
  simp only [Bool.and_eq_true, decide_eq_true_eq] at h1
  exact h1.1
/-- Is there an inspection before flight i? -/
def inPl (pl : List Int) (i : Nat) : Bool := pl.any fun x => decide ((i : Int) = x)
/-- What is left after a flight. -/
def stp (ev : Int) (ins : Bool) (left f : Int) : Int := (if ins then min left 0 + ev else left) - f
/-- What is left before flight k. -/
def leftK (ev du : Int) (fs pl : List Int) : Nat → Int
  | 0 => du
  | k + 1 => stp ev (inPl pl k) (leftK ev du fs pl k) (fs[k]?.getD 0)
def lateAt (ev gr du : Int) (fs pl : List Int) (k : Nat) : Bool := decide (leftK ev du fs pl (k + 1) < -gr)
/-- What Late returns: what is left, the flight, the error. -/
def lateV (ev gr du : Int) (fs pl : List Int) : Int × Int × Int := match (List.range fs.length).find? (lateAt ev gr du fs pl) with
  | some k => (0, (k : Int), 83)
  | none => (leftK ev du fs pl fs.length, 0, 0)
def lateS (ev gr du : Int) (fs pl : List Int) : Int × Int × Int :=
  if caredE ev gr du fs = 0 then (if planB fs.length pl then lateV ev gr du fs pl else (0, 0, 2)) else (0, 0, caredE ev gr du fs)
theorem lateV_at {ev gr du : Int} {fs pl : List Int} {k : Nat} (hk : k < fs.length) (h : lateAt ev gr du fs pl k = true) (hb : ∀ j, j < k → lateAt ev gr du fs pl j = false) : lateV ev gr du fs pl = (0, (k : Int), 83) := by
  have : (List.range fs.length).find? (lateAt ev gr du fs pl) = some k := by
    rw [List.find?_range_eq_some]
    exact ⟨h, by simpa using hk, fun j hj => by rw [hb j hj]; rfl⟩
  unfold lateV
  rw [this]
theorem lateV_no {ev gr du : Int} {fs pl : List Int} (hb : ∀ j, j < fs.length → lateAt ev gr du fs pl j = false) : lateV ev gr du fs pl = (leftK ev du fs pl fs.length, 0, 0) := by
  have : (List.range fs.length).find? (lateAt ev gr du fs pl) = none := by
    rw [List.find?_eq_none]
    intro j hj
    rw [hb j (List.mem_range.1 hj)]; simp
  unfold lateV
  rw [this]
theorem leftK_in {ev gr du : Int} {fs pl : List Int} (h : caredE ev gr du fs = 0) : ∀ {k : Nat}, k ≤ fs.length → (∀ j, j < k → lateAt ev gr du fs pl j = false) → -100000 ≤ leftK ev du fs pl k ∧ leftK ev du fs pl k ≤ 100000 := by
  obtain ⟨e1, e2, g1, g2, d1, d2, _, hf⟩ := cared_ok h
  intro k
  induction k with
  | zero => intro _ _; unfold leftK; omega
  | succ k ih =>
    intro hk hb
    have h1 := ih (by omega) fun j hj => hb j (by omega)
    have h2 := hb k (by omega)
    unfold lateAt at h2
    simp only [decide_eq_false_iff_not] at h2
    have hx : fs[k]? = some fs[k] := List.getElem?_eq_getElem (by omega)
    have h3 := hf fs[k] (List.getElem_mem (by omega))
    refine ⟨by omega, ?_⟩
    unfold leftK stp
    rw [hx]
    simp only [Option.getD_some]
    split <;> omega
end Go.Proofs.Ytmlmgipngbndgaa
/- Care: small functions. -/
namespace Go.Proofs.Ytmlmgipngbndgaa
open Go.RowKit
attribute [local irreducible] OQ OS OX Rd T TL GX GL AL AI RV wpG SAny Calls
set_option maxRecDepth 100000
set_option maxHeartbeats 2000000
set_option linter.unusedVariables false
set_option linter.unusedSimpArgs false

theorem one_rows {w0 : World} {M : Ms} {H H' : Hp} {w : World} {g : Nat} {z : Int} {tg : Tg} (h : Has w0 M H w) (q : Pick H g [.int .i64 z] tg H') : RdS w 1 (some ⟨g, 0, none⟩) 1 ([z].map inCells) :=
  Blk.rows (h.blk _ q.mem).2 rfl (by simp [inCells])
theorem fromOne {w0 : World} {M : Ms} {H H' : Hp} {w : World} {g : Nat} {lo hi z : Int} {tg : Tg} {cp : Nat} {q : Bool} (hq : allFrom lo hi [z] = q) (h : Has w0 M H w) (p : Pick H g [.int .i64 z] tg H') :
    Calls Try.prog 63 #[.int .i64 lo, .int .i64 hi, .slice (some ⟨g, 0, none⟩) 1 cp] w fun e w' => e = .returned (.bool q) ∧ Ext w w' :=
  hq ▸ from_calls lo hi (some ⟨g, 0, none⟩) 1 cp [z] w (one_rows h p) (by omega)
theorem within_calls (z lo hi : Int) (w : World) : Calls Try.prog 66 #[.int .i64 z, .int .i64 lo, .int .i64 hi] w fun e w' => e = .returned (.bool (decide (lo ≤ z) && decide (z ≤ hi))) ∧ Ext w w' := by
  refine enterQ (c := cx w 15) Try.func66 rfl rfl rfl rfl ?_
  repeat' (first | ((with_reducible apply oq_id); first | (apply oq_fn; exact rfl; first | exact trivial | (refine ⟨?_, ?_⟩ <;> omega) | (refine ⟨?_, ?_, ?_⟩ <;> omega) | omega | skip)) | ((with_reducible apply tl_id); first | ((with_reducible apply tl_nil)) | ((with_reducible apply u_q); exact rfl; exact rfl; exact rfl; exact rfl) | ((with_reducible apply u_skip); exact rfl; exact rfl; exact rfl) | ((with_reducible apply u_splitD); exact rfl; exact rfl; all_goals first | (intro hp; try (exfalso; omega)) | skip)) | ((with_reducible apply t_id); first | ((with_reducible apply t_seq)) | (apply t_region; kernel_rfl) | ((with_reducible apply t_ret))) | with_reducible apply q_thenN | ((with_reducible apply end_ret)) | exact rvs_nil | ((with_reducible apply rvs_cons)) | ((with_reducible apply rv_tmp); exact rfl))
  all_goals (first | (rw [decide_eq_true hp]; rfl) | (rw [decide_eq_false hp]; rfl))

theorem checkCare_calls (ev gr du : Int) (w : World) : Calls Try.prog 30 #[.agg #[.int .i64 ev, .int .i64 gr, .int .i64 du]] w fun e w' => e = .returned (.int .i64 (careE ev gr du)) ∧ Ext w w' := by
  obtain ⟨q1, h1⟩ : ∃ q, allFrom 1 100000 [ev] = q := ⟨_, rfl⟩
  obtain ⟨q2, h2⟩ : ∃ q, allFrom 0 100000 [gr] = q := ⟨_, rfl⟩
  obtain ⟨q3, h3⟩ : ∃ q, allFrom (-gr) 100000 [du] = q := ⟨_, rfl⟩
  have key := careOk_all ev gr du
  rw [h1, h2, h3] at key
  unfold careE
  rw [← key]
  cases q2 with
  | false =>
    refine enterQ (c := cx w 25) Try.func30 rfl rfl rfl rfl ?_
    repeat' (first | ((with_reducible apply oq_id); first | (apply oq_fn; exact rfl; first | exact trivial | (refine ⟨?_, ?_⟩ <;> omega) | (refine ⟨?_, ?_, ?_⟩ <;> omega) | omega | skip) | ((with_reducible apply oq_load); exact rfl; exact rfl) | ((with_reducible apply oq_call (k := 63) (hc := Try.call63)); exact rfl; exact rfl; exact fun D w1 hw1 => fromOne h1 hw1 (by (repeat (first | exact P0 | apply P1)))) | ((with_reducible apply oq_call (k := 63) (hc := Try.call63)); exact rfl; exact rfl; exact fun D w1 hw1 => fromOne h2 hw1 (by (repeat (first | exact P0 | apply P1))))) | ((with_reducible apply tl_id); first | ((with_reducible apply tl_nil)) | ((with_reducible apply u_q); exact rfl; exact rfl; exact rfl; exact rfl) | ((with_reducible apply u_s); exact rfl; exact rfl; exact rfl) | ((with_reducible apply u_skip); exact rfl; exact rfl; exact rfl) | ((with_reducible apply u_split); exact rfl; exact rfl; all_goals first | intro hp | skip)) | ((with_reducible apply os_id); first | ((with_reducible apply os_x); exact rfl)) | ((with_reducible apply ox_id); first | ((with_reducible apply ox_boxAgg); exact rfl; intro _) | ((with_reducible apply ox_buildSlice1); exact rfl; exact rfl; exact rfl; exact rfl; exact rfl; exact rfl; intro _)) | ((with_reducible apply rd_id); first | (apply Rd.own; (repeat (first | exact P0 | apply P1)); exact rfl; done)) | ((with_reducible apply t_id); first | ((with_reducible apply t_seq)) | (apply t_region; kernel_rfl) | ((with_reducible apply t_condT); exact rfl) | ((with_reducible apply t_ret))) | with_reducible apply q_thenN | with_reducible apply q_thenR | ((with_reducible apply end_ret)) | exact rvs_nil | ((with_reducible apply rvs_cons)) | ((with_reducible apply rv_tmp); exact rfl))
    all_goals (cases q1 <;> cases q3 <;> first | rfl | simp_all)
  | true =>
    have hg : 0 ≤ gr ∧ gr ≤ 100000 := by unfold allFrom at h2; simpa using h2
    refine enterQ (c := cx w 25) Try.func30 rfl rfl rfl rfl ?_
    repeat' (first | ((with_reducible apply oq_id); first | (apply oq_fn; exact rfl; first | exact trivial | (refine ⟨?_, ?_⟩ <;> omega) | (refine ⟨?_, ?_, ?_⟩ <;> omega) | omega | skip) | ((with_reducible apply oq_load); exact rfl; exact rfl) | ((with_reducible apply oq_call (k := 63) (hc := Try.call63)); exact rfl; exact rfl; exact fun D w1 hw1 => fromOne h1 hw1 (by (repeat (first | exact P0 | apply P1)))) | ((with_reducible apply oq_call (k := 63) (hc := Try.call63)); exact rfl; exact rfl; exact fun D w1 hw1 => fromOne h2 hw1 (by (repeat (first | exact P0 | apply P1)))) | ((with_reducible apply oq_call (k := 63) (hc := Try.call63)); exact rfl; exact rfl; exact fun D w1 hw1 => fromOne h3 hw1 (by (repeat (first | exact P0 | apply P1))))) | ((with_reducible apply tl_id); first | ((with_reducible apply tl_nil)) | ((with_reducible apply u_q); exact rfl; exact rfl; exact rfl; exact rfl) | ((with_reducible apply u_s); exact rfl; exact rfl; exact rfl) | ((with_reducible apply u_skip); exact rfl; exact rfl; exact rfl) | ((with_reducible apply u_split); exact rfl; exact rfl; all_goals first | intro hp | skip)) | ((with_reducible apply os_id); first | ((with_reducible apply os_x); exact rfl)) | ((with_reducible apply ox_id); first | ((with_reducible apply ox_boxAgg); exact rfl; intro _) | ((with_reducible apply ox_buildSlice1); exact rfl; exact rfl; exact rfl; exact rfl; exact rfl; exact rfl; intro _)) | ((with_reducible apply rd_id); first | (apply Rd.own; (repeat (first | exact P0 | apply P1)); exact rfl; done)) | ((with_reducible apply t_id); first | ((with_reducible apply t_seq)) | (apply t_region; kernel_rfl) | ((with_reducible apply t_condT); exact rfl) | ((with_reducible apply t_cond); exact rfl; all_goals first | intro hp | skip) | ((with_reducible apply t_ret)) | ((with_reducible apply t_skip))) | with_reducible apply q_thenN | with_reducible apply q_thenR | ((with_reducible apply end_ret)) | exact rvs_nil | ((with_reducible apply rvs_cons)) | ((with_reducible apply rv_tmp); exact rfl))
    all_goals (cases q1 <;> cases q3 <;> first | rfl | simp_all)

theorem withinQ {z lo hi : Int} {q : Bool} (hq : allFrom lo hi [z] = q) (w : World) : Calls Try.prog 66 #[.int .i64 z, .int .i64 lo, .int .i64 hi] w fun e w' => e = .returned (.bool q) ∧ Ext w w' := by
  have := within_calls z lo hi w
  have e : (decide (lo ≤ z) && decide (z ≤ hi)) = q := by rw [← hq]; unfold allFrom; simp
  rw [e] at this
  exact this

theorem refCheckCare_calls (ev gr du : Int) (w : World) : Calls Try.prog 31 #[.agg #[.int .i64 ev, .int .i64 gr, .int .i64 du]] w fun e w' => e = .returned (.int .i64 (careE ev gr du)) ∧ Ext w w' := by
  obtain ⟨q1, h1⟩ : ∃ q, allFrom 1 100000 [ev] = q := ⟨_, rfl⟩
  obtain ⟨q2, h2⟩ : ∃ q, allFrom 0 100000 [gr] = q := ⟨_, rfl⟩
  obtain ⟨q3, h3⟩ : ∃ q, allFrom (-gr) 100000 [du] = q := ⟨_, rfl⟩
  have key := careOk_all ev gr du
  rw [h1, h2, h3] at key
  unfold careE
  rw [← key]
  cases q2 with
  | false =>
    refine enterQ (c := cx w 22) Try.func31 rfl rfl rfl rfl ?_
    repeat' (first | ((with_reducible apply oq_id); first | (apply oq_fn; exact rfl; first | exact trivial | (refine ⟨?_, ?_⟩ <;> omega) | (refine ⟨?_, ?_, ?_⟩ <;> omega) | omega | skip) | ((with_reducible apply oq_load); exact rfl; exact rfl) | ((with_reducible apply oq_call (k := 66) (hc := Try.call66)); exact rfl; exact rfl; exact fun D w1 hw1 => withinQ h1 w1) | ((with_reducible apply oq_call (k := 66) (hc := Try.call66)); exact rfl; exact rfl; exact fun D w1 hw1 => withinQ h2 w1)) | ((with_reducible apply tl_id); first | ((with_reducible apply tl_nil)) | ((with_reducible apply u_q); exact rfl; exact rfl; exact rfl; exact rfl) | ((with_reducible apply u_s); exact rfl; exact rfl; exact rfl) | ((with_reducible apply u_skip); exact rfl; exact rfl; exact rfl) | ((with_reducible apply u_split); exact rfl; exact rfl; all_goals first | intro hp | skip)) | ((with_reducible apply os_id); first | ((with_reducible apply os_x); exact rfl)) | ((with_reducible apply ox_id); first | ((with_reducible apply ox_boxAgg); exact rfl; intro _)) | ((with_reducible apply rd_id); first | (apply Rd.own; (repeat (first | exact P0 | apply P1)); exact rfl; done)) | ((with_reducible apply t_id); first | ((with_reducible apply t_seq)) | (apply t_region; kernel_rfl) | ((with_reducible apply t_condT); exact rfl) | ((with_reducible apply t_ret))) | with_reducible apply q_thenN | with_reducible apply q_thenR | ((with_reducible apply end_ret)) | exact rvs_nil | ((with_reducible apply rvs_cons)) | ((with_reducible apply rv_tmp); exact rfl))
    all_goals (cases q1 <;> cases q3 <;> first | rfl | simp_all)
  | true =>
    have hg : 0 ≤ gr ∧ gr ≤ 100000 := by unfold allFrom at h2; simpa using h2
    refine enterQ (c := cx w 22) Try.func31 rfl rfl rfl rfl ?_
    repeat' (first | ((with_reducible apply oq_id); first | (apply oq_fn; exact rfl; first | exact trivial | (refine ⟨?_, ?_⟩ <;> omega) | (refine ⟨?_, ?_, ?_⟩ <;> omega) | omega | skip) | ((with_reducible apply oq_load); exact rfl; exact rfl) | ((with_reducible apply oq_call (k := 66) (hc := Try.call66)); exact rfl; exact rfl; exact fun D w1 hw1 => withinQ h1 w1) | ((with_reducible apply oq_call (k := 66) (hc := Try.call66)); exact rfl; exact rfl; exact fun D w1 hw1 => withinQ h2 w1) | ((with_reducible apply oq_call (k := 66) (hc := Try.call66)); exact rfl; exact rfl; exact fun D w1 hw1 => withinQ h3 w1)) | ((with_reducible apply tl_id); first | ((with_reducible apply tl_nil)) | ((with_reducible apply u_q); exact rfl; exact rfl; exact rfl; exact rfl) | ((with_reducible apply u_s); exact rfl; exact rfl; exact rfl) | ((with_reducible apply u_skip); exact rfl; exact rfl; exact rfl) | ((with_reducible apply u_split); exact rfl; exact rfl; all_goals first | intro hp | skip)) | ((with_reducible apply os_id); first | ((with_reducible apply os_x); exact rfl)) | ((with_reducible apply ox_id); first | ((with_reducible apply ox_boxAgg); exact rfl; intro _)) | ((with_reducible apply rd_id); first | (apply Rd.own; (repeat (first | exact P0 | apply P1)); exact rfl; done)) | ((with_reducible apply t_id); first | ((with_reducible apply t_seq)) | (apply t_region; kernel_rfl) | ((with_reducible apply t_condT); exact rfl) | ((with_reducible apply t_cond); exact rfl; all_goals first | intro hp | skip) | ((with_reducible apply t_ret)) | ((with_reducible apply t_skip))) | with_reducible apply q_thenN | with_reducible apply q_thenR | ((with_reducible apply end_ret)) | exact rvs_nil | ((with_reducible apply rvs_cons)) | ((with_reducible apply rv_tmp); exact rfl))
    all_goals (cases q1 <;> cases q3 <;> first | rfl | simp_all)

theorem checkFlights_calls (ev gr du : Int) (A : Option Addr) (n c : Nat) (fs : List Int) (w : World) (hr : RdS w 1 A n (fs.map inCells)) (hn : n ≤ 1000000) : Calls Try.prog 71 #[.agg #[.int .i64 ev, .int .i64 gr, .int .i64 du], .slice A n c] w fun e w' => e = .returned (.int .i64 (caredE ev gr du fs)) ∧ Ext w w' := by
  have hl := hr.len
  simp only [List.length_map] at hl
  have HC := fun w1 => checkCare_calls ev gr du w1
  have HF := fun w1 (hx : Ext w w1) => from_calls 1 10000 A n c fs w1 (hr.ext hx) hn
  unfold careE at HC
  unfold caredE
  rw [hl]
  cases hq : careOk ev gr du with
  | false =>
    rw [hq] at HC
    simp only [Bool.false_eq_true, if_false] at HC ⊢
    refine enterQ (c := cx w 20) Try.func71 rfl rfl rfl rfl ?_
    repeat' (first | ((with_reducible apply oq_id); first | (apply oq_fn; exact rfl; first | exact trivial | (refine ⟨?_, ?_⟩ <;> omega) | (refine ⟨?_, ?_, ?_⟩ <;> omega) | omega | skip) | ((with_reducible apply oq_loadAgg); exact rfl; exact rfl) | ((with_reducible apply oq_call (k := 30) (hc := Try.call30)); exact rfl; exact rfl; exact fun D w1 hw1 => HC w1)) | ((with_reducible apply tl_id); first | ((with_reducible apply tl_nil)) | ((with_reducible apply u_q); exact rfl; exact rfl; exact rfl; exact rfl) | ((with_reducible apply u_s); exact rfl; exact rfl; exact rfl)) | ((with_reducible apply os_id); first | ((with_reducible apply os_x); exact rfl)) | ((with_reducible apply ox_id); first | ((with_reducible apply ox_boxAgg); exact rfl; intro _)) | ((with_reducible apply rd_id); first | (apply Rd.own; (repeat (first | exact P0 | apply P1)); exact rfl; done)) | ((with_reducible apply t_id); first | ((with_reducible apply t_seq)) | (apply t_region; kernel_rfl) | ((with_reducible apply t_condT); exact rfl) | ((with_reducible apply t_ret)) | ((with_reducible apply t_block))) | with_reducible apply q_thenN | with_reducible apply q_thenR | with_reducible apply q_blockR | exact Rdn.zero | apply Rdn.succ | ((with_reducible apply end_ret)) | exact rvs_nil | ((with_reducible apply rvs_cons)) | ((with_reducible apply rv_tmp); exact rfl))
    all_goals rfl
  | true =>
    rw [hq] at HC
    simp only [if_true] at HC ⊢
    cases ha : allFrom 1 10000 fs with
    | false =>
      rw [ha] at HF
      refine enterQ (c := cx w 20) Try.func71 rfl rfl rfl rfl ?_
      repeat' (first | ((with_reducible apply oq_id); first | (apply oq_fn; exact rfl; first | exact trivial | (refine ⟨?_, ?_⟩ <;> omega) | (refine ⟨?_, ?_, ?_⟩ <;> omega) | omega | skip) | ((with_reducible apply oq_loadAgg); exact rfl; exact rfl) | ((with_reducible apply oq_call (k := 30) (hc := Try.call30)); exact rfl; exact rfl; exact fun D w1 hw1 => HC w1) | ((with_reducible apply oq_call (k := 63) (hc := Try.call63)); exact rfl; exact rfl; exact fun D w1 hw1 => HF w1 hw1.ext.ext)) | ((with_reducible apply tl_id); first | ((with_reducible apply tl_nil)) | ((with_reducible apply u_q); exact rfl; exact rfl; exact rfl; exact rfl) | ((with_reducible apply u_s); exact rfl; exact rfl; exact rfl)) | ((with_reducible apply os_id); first | ((with_reducible apply os_x); exact rfl)) | ((with_reducible apply ox_id); first | ((with_reducible apply ox_boxAgg); exact rfl; intro _)) | ((with_reducible apply rd_id); first | (apply Rd.own; (repeat (first | exact P0 | apply P1)); exact rfl; done)) | ((with_reducible apply t_id); first | ((with_reducible apply t_seq)) | (apply t_region; kernel_rfl) | ((with_reducible apply t_condT); exact rfl) | ((with_reducible apply t_condF); exact rfl) | ((with_reducible apply t_condD); exact rfl; all_goals first | (intro hp; try (exfalso; omega)) | skip) | ((with_reducible apply t_ret)) | ((with_reducible apply t_block))) | with_reducible apply q_thenN | with_reducible apply q_thenR | with_reducible apply q_blockR | exact Rdn.zero | apply Rdn.succ | ((with_reducible apply end_ret)) | exact rvs_nil | ((with_reducible apply rvs_cons)) | ((with_reducible apply rv_tmp); exact rfl))
      all_goals (first | (rw [if_pos (by omega)]; rfl) | (rw [if_neg (by omega)]; rfl))
    | true =>
      rw [ha] at HF
      refine enterQ (c := cx w 20) Try.func71 rfl rfl rfl rfl ?_
      repeat' (first | ((with_reducible apply oq_id); first | (apply oq_fn; exact rfl; first | exact trivial | (refine ⟨?_, ?_⟩ <;> omega) | (refine ⟨?_, ?_, ?_⟩ <;> omega) | omega | skip) | ((with_reducible apply oq_loadAgg); exact rfl; exact rfl) | ((with_reducible apply oq_call (k := 30) (hc := Try.call30)); exact rfl; exact rfl; exact fun D w1 hw1 => HC w1) | ((with_reducible apply oq_call (k := 63) (hc := Try.call63)); exact rfl; exact rfl; exact fun D w1 hw1 => HF w1 hw1.ext.ext)) | ((with_reducible apply tl_id); first | ((with_reducible apply tl_nil)) | ((with_reducible apply u_q); exact rfl; exact rfl; exact rfl; exact rfl) | ((with_reducible apply u_s); exact rfl; exact rfl; exact rfl)) | ((with_reducible apply os_id); first | ((with_reducible apply os_x); exact rfl)) | ((with_reducible apply ox_id); first | ((with_reducible apply ox_boxAgg); exact rfl; intro _)) | ((with_reducible apply rd_id); first | (apply Rd.own; (repeat (first | exact P0 | apply P1)); exact rfl; done)) | ((with_reducible apply t_id); first | ((with_reducible apply t_seq)) | (apply t_region; kernel_rfl) | ((with_reducible apply t_condF); exact rfl) | ((with_reducible apply t_condD); exact rfl; all_goals first | (intro hp; try (exfalso; omega)) | skip) | ((with_reducible apply t_ret)) | ((with_reducible apply t_skip)) | ((with_reducible apply t_block))) | with_reducible apply q_thenN | with_reducible apply q_thenR | with_reducible apply q_blockR | with_reducible apply q_blockN | exact Rdn.zero | apply Rdn.succ | ((with_reducible apply end_ret)) | exact rvs_nil | ((with_reducible apply rvs_cons)) | ((with_reducible apply rv_tmp); exact rfl))
      all_goals (first | (rw [if_pos (by omega)]; rfl) | (rw [if_neg (by omega)]; rfl))

theorem cared_calls (ev gr du : Int) (A : Option Addr) (n c : Nat) (fs : List Int) (w : World) (hr : RdS w 1 A n (fs.map inCells)) (hn : n ≤ 1000000) : Calls Try.prog 73 #[.agg #[.int .i64 ev, .int .i64 gr, .int .i64 du], .slice A n c] w fun e w' => e = .returned (.int .i64 (caredE ev gr du fs)) ∧ Ext w w' := by
  have hl := hr.len
  simp only [List.length_map] at hl
  have HC := fun w1 => refCheckCare_calls ev gr du w1
  unfold careE at HC
  unfold caredE
  rw [hl]
  cases hq : careOk ev gr du with
  | false =>
    rw [hq] at HC
    simp only [Bool.false_eq_true, if_false] at HC ⊢
    refine enterQ (c := cx w 27) Try.func73 rfl rfl rfl rfl ?_
    repeat' (first | ((with_reducible apply oq_id); first | (apply oq_fn; exact rfl; first | exact trivial | (refine ⟨?_, ?_⟩ <;> omega) | (refine ⟨?_, ?_, ?_⟩ <;> omega) | omega | skip) | ((with_reducible apply oq_loadAgg); exact rfl; exact rfl) | ((with_reducible apply oq_call (k := 31) (hc := Try.call31)); exact rfl; exact rfl; exact fun D w1 hw1 => HC w1)) | ((with_reducible apply tl_id); first | ((with_reducible apply tl_nil)) | ((with_reducible apply u_q); exact rfl; exact rfl; exact rfl; exact rfl) | ((with_reducible apply u_s); exact rfl; exact rfl; exact rfl)) | ((with_reducible apply os_id); first | ((with_reducible apply os_x); exact rfl)) | ((with_reducible apply ox_id); first | ((with_reducible apply ox_boxAgg); exact rfl; intro _)) | ((with_reducible apply rd_id); first | (apply Rd.own; (repeat (first | exact P0 | apply P1)); exact rfl; done)) | ((with_reducible apply t_id); first | ((with_reducible apply t_seq)) | (apply t_region; kernel_rfl) | ((with_reducible apply t_condT); exact rfl) | ((with_reducible apply t_ret))) | with_reducible apply q_thenN | with_reducible apply q_thenR | exact Rdn.zero | apply Rdn.succ | ((with_reducible apply end_ret)) | exact rvs_nil | ((with_reducible apply rvs_cons)) | ((with_reducible apply rv_tmp); exact rfl))
    all_goals rfl
  | true =>
    rw [hq] at HC
    simp only [if_true] at HC ⊢
    by_cases hb : 60 < n
    · rw [if_pos hb]
      refine enterQ (c := cx w 27) Try.func73 rfl rfl rfl rfl ?_
      repeat' (first | ((with_reducible apply oq_id); first | (apply oq_fn; exact rfl; first | exact trivial | (refine ⟨?_, ?_⟩ <;> omega) | (refine ⟨?_, ?_, ?_⟩ <;> omega) | omega | skip) | ((with_reducible apply oq_loadAgg); exact rfl; exact rfl) | ((with_reducible apply oq_call (k := 31) (hc := Try.call31)); exact rfl; exact rfl; exact fun D w1 hw1 => HC w1)) | ((with_reducible apply tl_id); first | ((with_reducible apply tl_nil)) | ((with_reducible apply u_q); exact rfl; exact rfl; exact rfl; exact rfl) | ((with_reducible apply u_s); exact rfl; exact rfl; exact rfl)) | ((with_reducible apply os_id); first | ((with_reducible apply os_x); exact rfl)) | ((with_reducible apply ox_id); first | ((with_reducible apply ox_boxAgg); exact rfl; intro _)) | ((with_reducible apply rd_id); first | (apply Rd.own; (repeat (first | exact P0 | apply P1)); exact rfl; done)) | ((with_reducible apply t_id); first | ((with_reducible apply t_seq)) | (apply t_region; kernel_rfl) | ((with_reducible apply t_condF); exact rfl) | ((with_reducible apply t_condD); exact rfl; all_goals first | (intro hp; try (exfalso; omega)) | skip) | ((with_reducible apply t_ret)) | ((with_reducible apply t_skip))) | with_reducible apply q_thenN | with_reducible apply q_thenR | exact Rdn.zero | apply Rdn.succ | ((with_reducible apply end_ret)) | exact rvs_nil | ((with_reducible apply rvs_cons)) | ((with_reducible apply rv_tmp); exact rfl))
      all_goals rfl
    · rw [if_neg hb]
      refine enterQ (c := cx w 27) Try.func73 rfl rfl rfl rfl ?_
      repeat' (first | ((with_reducible apply oq_id); first | (apply oq_fn; exact rfl; first | exact trivial | (refine ⟨?_, ?_⟩ <;> omega) | (refine ⟨?_, ?_, ?_⟩ <;> omega) | omega | skip) | ((with_reducible apply oq_loadAgg); exact rfl; exact rfl) | ((with_reducible apply oq_call (k := 31) (hc := Try.call31)); exact rfl; exact rfl; exact fun D w1 hw1 => HC w1)) | ((with_reducible apply tl_id); first | ((with_reducible apply tl_nil)) | ((with_reducible apply u_q); exact rfl; exact rfl; exact rfl; exact rfl) | ((with_reducible apply u_s); exact rfl; exact rfl; exact rfl)) | ((with_reducible apply os_id); first | ((with_reducible apply os_x); exact rfl)) | ((with_reducible apply ox_id); first | ((with_reducible apply ox_boxAgg); exact rfl; intro _)) | ((with_reducible apply rd_id); first | (apply Rd.own; (repeat (first | exact P0 | apply P1)); exact rfl; done)) | ((with_reducible apply t_id); first | ((with_reducible apply t_seq)) | (apply t_region; kernel_rfl) | ((with_reducible apply t_condF); exact rfl) | ((with_reducible apply t_condD); exact rfl; all_goals first | (intro hp; try (exfalso; omega)) | skip) | ((with_reducible apply t_skip)) | ((with_reducible apply t_block))) | with_reducible apply q_thenN | exact Rdn.zero | apply Rdn.succ)
      apply t_loopK (ι := Nat) [1] (fun k => [(6, .int .i64 (k : Nat))]) (fun _ => []) (fun k => k ≤ n ∧ ∀ x ∈ fs.take k, (decide (1 ≤ x) && decide (x ≤ 10000)) = true) (fun k => n - k) (0)
      (repeat (first | exact KeepF.nil | (apply KeepF.cons; exact rfl) | apply KeepF.skip))
      (repeat (first | exact FrSub.nil | (apply FrSub.cons; exact rfl)))
      (repeat (first | exact HpSub.refl _ | (apply HpSub.consE; (repeat (first | exact P0 | apply P1)); exact rfl) | exact HpSub.nil))
      · exact ⟨by omega, by simp⟩
      rintro k ⟨hk, hkp⟩
      try simp only [List.cons_append, List.nil_append]
      by_cases hlt : k < n
      · obtain ⟨b1, o1, x, rfl, _, hx, c0⟩ := in_read hr hlt
        have HWx := fun w1 => within_calls x 1 10000 w1
        cases hpx : (decide (1 ≤ x) && decide (x ≤ 10000)) with
        | false =>
          rw [hpx] at HWx
          repeat' (first | ((with_reducible apply oq_id); first | (focus ((with_reducible apply oq_indexAddrN); exact rfl; exact rfl; exact rfl; exact rfl; omega)) | (apply oq_fn; exact rfl; first | exact trivial | (refine ⟨?_, ?_⟩ <;> omega) | (refine ⟨?_, ?_, ?_⟩ <;> omega) | omega | skip) | ((with_reducible apply oq_load); exact rfl; exact rfl) | ((with_reducible apply oq_call (k := 66) (hc := Try.call66)); exact rfl; exact rfl; exact fun D w1 hw1 => HWx w1)) | ((with_reducible apply tl_id); first | ((with_reducible apply tl_nil)) | ((with_reducible apply u_q); exact rfl; exact rfl; exact rfl; exact rfl)) | ((with_reducible apply rd_id); first | (apply Rd.old; (first | (with_reducible assumption) | exact c0 | exact c1 | exact c2 | exact c3 | exact c4 | exact c5 | exact c6 | exact c7 | exact c8 | exact d0 | exact d1 | exact d2 | exact d3 | exact d4 | exact d5); first | exact List.not_mem_nil | exact m0 | exact m1 | exact m2 | exact m3 | exact m4 | exact m5 | exact m6 | exact m7 | exact m8 | exact m9)) | ((with_reducible apply t_id); first | ((with_reducible apply t_seq)) | (apply t_region; kernel_rfl) | ((with_reducible apply t_condT); exact rfl) | ((with_reducible apply t_condD); exact rfl; all_goals first | (intro hp; try (exfalso; omega)) | skip) | ((with_reducible apply t_ret)) | ((with_reducible apply t_skip)) | ((with_reducible apply t_block))) | with_reducible apply q_thenN | with_reducible apply q_thenR | with_reducible apply q_blockR | ((with_reducible apply end_ret)) | exact rvs_nil | ((with_reducible apply rvs_cons)) | ((with_reducible apply rv_tmp); exact rfl))
          have : allFrom 1 10000 fs = false := by
            unfold allFrom
            rw [Bool.eq_false_iff, Ne, List.all_eq_true]
            intro h2
            rw [h2 x (List.mem_of_getElem? hx)] at hpx; cases hpx
          rw [this]; rfl
        | true =>
          rw [hpx] at HWx
          repeat' (first | ((with_reducible apply oq_id); first | (focus ((with_reducible apply oq_indexAddrN); exact rfl; exact rfl; exact rfl; exact rfl; omega)) | ((with_reducible apply oq_addE (k := ((k + 1 : Nat) : Int))); exact rfl; exact rfl; omega) | (apply oq_fn; exact rfl; first | exact trivial | (refine ⟨?_, ?_⟩ <;> omega) | (refine ⟨?_, ?_, ?_⟩ <;> omega) | omega | skip) | ((with_reducible apply oq_load); exact rfl; exact rfl) | ((with_reducible apply oq_call (k := 66) (hc := Try.call66)); exact rfl; exact rfl; exact fun D w1 hw1 => HWx w1)) | ((with_reducible apply tl_id); first | ((with_reducible apply tl_nil)) | ((with_reducible apply u_q); exact rfl; exact rfl; exact rfl; exact rfl)) | ((with_reducible apply rd_id); first | (apply Rd.old; (first | (with_reducible assumption) | exact c0 | exact c1 | exact c2 | exact c3 | exact c4 | exact c5 | exact c6 | exact c7 | exact c8 | exact d0 | exact d1 | exact d2 | exact d3 | exact d4 | exact d5); first | exact List.not_mem_nil | exact m0 | exact m1 | exact m2 | exact m3 | exact m4 | exact m5 | exact m6 | exact m7 | exact m8 | exact m9)) | ((with_reducible apply t_id); first | ((with_reducible apply t_seq)) | (apply t_region; kernel_rfl) | ((with_reducible apply t_condF); exact rfl) | ((with_reducible apply t_condD); exact rfl; all_goals first | (intro hp; try (exfalso; omega)) | skip) | ((with_reducible apply t_skip)) | ((with_reducible apply t_block))) | with_reducible apply q_thenN | with_reducible apply q_blockN)
          refine ⟨k + 1, ⟨by omega, fun y hy => ?_⟩, by omega, ?_, ?_⟩
          · rw [List.take_add_one, hx, List.mem_append] at hy
            rcases hy with hy | hy
            · exact hkp y hy
            · obtain rfl : y = x := by simpa using hy
              exact hpx
          · try simp only [List.cons_append, List.nil_append]
            (repeat (first | exact FrSub.nil | (apply FrSub.cons; exact rfl)))
          · try simp only [List.cons_append, List.nil_append]
            (repeat (first | exact HpSub.refl _ | (apply HpSub.consE; (repeat (first | exact P0 | apply P1)); exact rfl) | exact HpSub.nil))
      · repeat' (first | ((with_reducible apply oq_id); first | (apply oq_fn; exact rfl; first | exact trivial | (refine ⟨?_, ?_⟩ <;> omega) | (refine ⟨?_, ?_, ?_⟩ <;> omega) | omega | skip)) | ((with_reducible apply tl_id); first | ((with_reducible apply tl_nil)) | ((with_reducible apply u_q); exact rfl; exact rfl; exact rfl; exact rfl)) | ((with_reducible apply t_id); first | ((with_reducible apply t_seq)) | (apply t_region; kernel_rfl) | ((with_reducible apply t_condD); exact rfl; all_goals first | (intro hp; try (exfalso; omega)) | skip) | ((with_reducible apply t_ret)) | ((with_reducible apply t_exit))) | with_reducible apply q_thenN | with_reducible apply q_thenE | ((with_reducible apply q_blockE); exact rfl) | ((with_reducible apply end_ret)) | exact rvs_nil | ((with_reducible apply rvs_cons)) | ((with_reducible apply rv_tmp); exact rfl))
        have : allFrom 1 10000 fs = true := by
          unfold allFrom
          rw [List.all_eq_true]
          exact fun y hy => hkp y (by rw [List.take_of_length_le (by omega)]; exact hy)
        rw [this]; rfl

end Go.Proofs.Ytmlmgipngbndgaa
/- Inspections: plain laws. What is needed at least, from the back; what may be due at most, from the front: the same plans. -/
namespace Go.Proofs.Ytmlmgipngbndgaa
set_option linter.unusedVariables false
set_option linter.unusedSimpArgs false
def never : Int := 1099511627776
/-- What has to be left before a flight, after the inspection, if there is one; r: what is needed behind it. -/
def befV (gr f r : Int) : Int := max (f - gr) (r + f)
/-- What has to be left at least, with k inspections from there on. -/
def ndL (ev gr : Int) : List Int → Nat → Int
  | [], k => if k = 0 then -never else never
  | f :: t, 0 => befV gr f (ndL ev gr t 0)
  | f :: t, k + 1 => if befV gr f (ndL ev gr t k) ≤ ev then min (befV gr f (ndL ev gr t (k + 1))) (befV gr f (ndL ev gr t k) - ev) else befV gr f (ndL ev gr t (k + 1))
theorem nd_zero (ev gr f : Int) (t : List Int) : ndL ev gr (f :: t) 0 = befV gr f (ndL ev gr t 0) := rfl
theorem nd_succ (ev gr f : Int) (t : List Int) (k : Nat) : ndL ev gr (f :: t) (k + 1) = if befV gr f (ndL ev gr t k) ≤ ev then min (befV gr f (ndL ev gr t (k + 1))) (befV gr f (ndL ev gr t k) - ev) else befV gr f (ndL ev gr t (k + 1)) := rfl
theorem nd_nil (ev gr : Int) (k : Nat) : ndL ev gr [] k = if k = 0 then -never else never := rfl
def FsOk (fs : List Int) : Prop := ∀ f ∈ fs, 1 ≤ f ∧ f ≤ 10000
theorem nd_in {ev gr : Int} (he : 1 ≤ ev ∧ ev ≤ 100000) (hg : 0 ≤ gr ∧ gr ≤ 100000) : ∀ {fs : List Int}, FsOk fs → ∀ k, -never ≤ ndL ev gr fs k ∧ ndL ev gr fs k ≤ never + 10000 * (fs.length : Int)
  | [], _, k => by rw [nd_nil]; unfold never; split <;> simp
  | f :: t, h, k => by
    have hf := h f (List.mem_cons_self ..)
    have ih := fun k => nd_in he hg (fs := t) (fun x hx => h x (List.mem_cons_of_mem _ hx)) k
    have hn : never = 1099511627776 := rfl
    rw [List.length_cons]
    cases k with
    | zero =>
      have i0 := ih 0
      rw [nd_zero]
      unfold befV
      omega
    | succ k =>
      have i0 := ih k
      have i1 := ih (k + 1)
      rw [nd_succ]
      unfold befV
      split <;> omega
theorem nd_big {ev gr : Int} (he : 1 ≤ ev ∧ ev ≤ 100000) : ∀ {fs : List Int}, FsOk fs → ∀ {k : Nat}, fs.length < k → never ≤ ndL ev gr fs k
  | [], _, k, hk => by rw [nd_nil, if_neg (by simp at hk; omega)]; exact Int.le_refl _
  | f :: t, h, 0, hk => by omega
  | f :: t, h, k + 1, hk => by
    have hf := h f (List.mem_cons_self ..)
    have hn : never = 1099511627776 := rfl
    rw [List.length_cons] at hk
    have i0 := nd_big (gr := gr) he (fs := t) (fun x hx => h x (List.mem_cons_of_mem _ hx)) (k := k) (by omega)
    have i1 := nd_big (gr := gr) he (fs := t) (fun x hx => h x (List.mem_cons_of_mem _ hx)) (k := k + 1) (by omega)
    rw [nd_succ]
    unfold befV
    split <;> omega
theorem nd_iff {ev gr f L : Int} {t : List Int} {k : Nat} : ndL ev gr (f :: t) k ≤ L ↔ befV gr f (ndL ev gr t k) ≤ L ∨ ∃ j, k = j + 1 ∧ befV gr f (ndL ev gr t j) ≤ min L 0 + ev := by
  cases k with
  | zero =>
    rw [nd_zero]
    refine ⟨.inl, ?_⟩
    rintro (h | ⟨j, h, _⟩)
    · exact h
    · omega
  | succ k =>
    rw [nd_succ]
    obtain ⟨p, hp⟩ : ∃ p, befV gr f (ndL ev gr t k) = p := ⟨_, rfl⟩
    obtain ⟨q, hq⟩ : ∃ q, befV gr f (ndL ev gr t (k + 1)) = q := ⟨_, rfl⟩
    rw [hp, hq]
    constructor
    · intro h
      by_cases h2 : q ≤ L
      · exact .inl h2
      · refine .inr ⟨k, rfl, ?_⟩
        rw [hp]
        split at h <;> omega
    · rintro (h | ⟨j, hj, h⟩)
      · split <;> omega
      · obtain rfl : k = j := by omega
        rw [hp] at h
        rw [if_pos (by omega)]
        omega
/-! From the front -/
def RowOk (fl : Int) (b : List Int) : Prop := ∀ x ∈ b, x = -never ∨ (-100000 ≤ x ∧ x ≤ fl + 100000)
def atD (b : List Int) (k : Nat) : Int := b[k]?.getD (-never)
/-- An entry of the next row, before it is looked at whether the flight is late. -/
def nxC (ev fl : Int) (b : List Int) (k : Nat) : Int := if 0 < k ∧ -never < atD b (k - 1) then max (atD b k) (min fl (atD b (k - 1)) + ev) else atD b k
/-- An entry of the next row. -/
def nxV (ev gr fl f : Int) (b : List Int) (k : Nat) : Int := if nxC ev fl b k + gr < fl + f then -never else nxC ev fl b k
def nxRow (ev gr fl f : Int) (b : List Int) : List Int := (List.range (b.length + 1)).map (nxV ev gr fl f b)
def frL (ev gr : Int) : List Int → Int → List Int → List Int
  | [], _, b => b
  | f :: t, fl, b => frL ev gr t (fl + f) (nxRow ev gr fl f b)
theorem atD_ok {fl : Int} {b : List Int} (h : RowOk fl b) (k : Nat) : atD b k = -never ∨ (-100000 ≤ atD b k ∧ atD b k ≤ fl + 100000 ∧ b[k]? = some (atD b k)) := by
  unfold atD
  cases hb : b[k]? with
  | none => exact .inl rfl
  | some x =>
    rcases h x (List.mem_of_getElem? hb) with h1 | h1
    · exact .inl (by simpa using h1)
    · exact .inr ⟨by simpa using h1.1, by simpa using h1.2, rfl⟩
theorem atD_some {b : List Int} {k : Nat} {x : Int} (h : b[k]? = some x) : atD b k = x := by unfold atD; rw [h]; rfl
theorem nx_ok {ev gr fl f : Int} {b : List Int} (he : 1 ≤ ev ∧ ev ≤ 100000) (hg : 0 ≤ gr ∧ gr ≤ 100000) (hf : 1 ≤ f ∧ f ≤ 10000) (h0 : 0 ≤ fl) (h : RowOk fl b) (k : Nat) : nxV ev gr fl f b k = -never ∨ (-100000 ≤ nxV ev gr fl f b k ∧ nxV ev gr fl f b k ≤ fl + f + 100000) := by
  have h1 := atD_ok h k
  have h2 := atD_ok h (k - 1)
  have hn : never = 1099511627776 := rfl
  have h3 : nxC ev fl b k = atD b k ∨ (-never < atD b (k - 1) ∧ nxC ev fl b k = max (atD b k) (min fl (atD b (k - 1)) + ev)) := by
    unfold nxC
    split
    · rename_i hc; exact .inr ⟨hc.2, rfl⟩
    · exact .inl rfl
  unfold nxV
  split <;> omega
theorem nxRow_ok {ev gr fl f : Int} {b : List Int} (he : 1 ≤ ev ∧ ev ≤ 100000) (hg : 0 ≤ gr ∧ gr ≤ 100000) (hf : 1 ≤ f ∧ f ≤ 10000) (h0 : 0 ≤ fl) (h : RowOk fl b) : RowOk (fl + f) (nxRow ev gr fl f b) := by
  intro x hx
  unfold nxRow at hx
  obtain ⟨k, _, rfl⟩ := List.mem_map.1 hx
  exact nx_ok he hg hf h0 h k
theorem nxRow_at {ev gr fl f : Int} {b : List Int} {k : Nat} (hk : k < b.length + 1) : (nxRow ev gr fl f b)[k]? = some (nxV ev gr fl f b k) := by
  unfold nxRow
  simp [hk]
theorem nx_iff {ev gr fl f R : Int} {b : List Int} (he : 1 ≤ ev ∧ ev ≤ 100000) (hg : 0 ≤ gr ∧ gr ≤ 100000) (hf : 1 ≤ f ∧ f ≤ 10000) (h0 : 0 ≤ fl) (h : RowOk fl b) {j : Nat} :
    (-100000 ≤ nxV ev gr fl f b j ∧ R ≤ nxV ev gr fl f b j - (fl + f)) ↔ ((-100000 ≤ atD b j ∧ befV gr f R ≤ atD b j - fl) ∨ (∃ i, j = i + 1 ∧ -100000 ≤ atD b i ∧ befV gr f R ≤ min (atD b i - fl) 0 + ev)) := by
  have h1 := atD_ok h j
  have hn : never = 1099511627776 := rfl
  have hC : nxV ev gr fl f b j = (if nxC ev fl b j + gr < fl + f then -never else nxC ev fl b j) := rfl
  rw [hC]
  unfold befV
  cases j with
  | zero =>
    have e : nxC ev fl b 0 = atD b 0 := by unfold nxC; rw [if_neg (fun hc => by omega)]
    rw [e]
    constructor
    · intro hh
      refine .inl ?_
      split at hh <;> omega
    · rintro (hh | ⟨i, hi, _⟩)
      · rw [if_neg (by omega)]; omega
      · omega
  | succ i =>
    have h2 := atD_ok h i
    by_cases hv : -never < atD b i
    · have e : nxC ev fl b (i + 1) = max (atD b (i + 1)) (min fl (atD b i) + ev) := by unfold nxC; rw [Nat.add_sub_cancel, if_pos ⟨by omega, hv⟩]
      rw [e]
      constructor
      · intro hh
        by_cases hm : -100000 ≤ atD b (i + 1) ∧ max (f - gr) (R + f) ≤ atD b (i + 1) - fl
        · exact .inl hm
        · refine .inr ⟨i, rfl, ?_⟩
          split at hh <;> omega
      · rintro (hh | ⟨i', hi, hh⟩)
        · rw [if_neg (by omega)]; omega
        · obtain rfl : i = i' := by omega
          rw [if_neg (by omega)]; omega
    · have e : nxC ev fl b (i + 1) = atD b (i + 1) := by unfold nxC; rw [Nat.add_sub_cancel, if_neg (fun hc => hv hc.2)]
      rw [e]
      constructor
      · intro hh
        refine .inl ?_
        split at hh <;> omega
      · rintro (hh | ⟨i', hi, hh⟩)
        · rw [if_neg (by omega)]; omega
        · obtain rfl : i = i' := by omega
          omega
theorem frL_len {ev gr : Int} : ∀ {t : List Int} {fl : Int} {b : List Int}, (frL ev gr t fl b).length = b.length + t.length
  | [], _, _ => rfl
  | f :: t, fl, b => by
    unfold frL
    rw [frL_len]
    simp [nxRow]
    omega
theorem frL_ok {ev gr : Int} (he : 1 ≤ ev ∧ ev ≤ 100000) (hg : 0 ≤ gr ∧ gr ≤ 100000) : ∀ {t : List Int} {fl : Int} {b : List Int}, FsOk t → 0 ≤ fl → RowOk fl b → RowOk (fl + t.sum) (frL ev gr t fl b)
  | [], fl, b, _, _, h => by simpa [frL] using h
  | f :: t, fl, b, hf, h0, h => by
    have hf0 := hf f (List.mem_cons_self ..)
    have := frL_ok he hg (t := t) (fl := fl + f) (fun x hx => hf x (List.mem_cons_of_mem _ hx)) (by omega) (nxRow_ok he hg hf0 h0 h)
    unfold frL
    rw [List.sum_cons, ← Int.add_assoc]
    exact this
theorem frL_iff {ev gr : Int} (he : 1 ≤ ev ∧ ev ≤ 100000) (hg : 0 ≤ gr ∧ gr ≤ 100000) : ∀ {t : List Int} {fl : Int} {b : List Int}, FsOk t → 0 ≤ fl → fl + 10000 * (t.length : Int) ≤ 10000000 → RowOk fl b → ∀ K : Nat,
    (-100000 ≤ atD (frL ev gr t fl b) K ↔ ∃ j, j ≤ K ∧ -100000 ≤ atD b j ∧ ndL ev gr t (K - j) ≤ atD b j - fl)
  | [], fl, b, _, h0, hu, h, K => by
    have hn : never = 1099511627776 := rfl
    simp only [List.length_nil] at hu
    unfold frL
    constructor
    · intro hk
      refine ⟨K, Nat.le_refl _, hk, ?_⟩
      rw [Nat.sub_self]
      rw [nd_nil, if_pos rfl]
      omega
    · rintro ⟨j, hj, hv, hd⟩
      rw [nd_nil] at hd
      rcases (by omega : K = j ∨ j < K) with rfl | hlt
      · exact hv
      · rw [if_neg (by omega)] at hd
        have := atD_ok h j
        omega
  | f :: t, fl, b, hf, h0, hu, h, K => by
    have hf0 := hf f (List.mem_cons_self ..)
    have ih := frL_iff he hg (t := t) (fl := fl + f) (b := nxRow ev gr fl f b) (fun x hx => hf x (List.mem_cons_of_mem _ hx))
    rw [List.length_cons] at hu
    have hi := ih (by omega) (by omega) (nxRow_ok he hg hf0 h0 h) K
    have hn : never = 1099511627776 := rfl
    rw [show frL ev gr (f :: t) fl b = frL ev gr t (fl + f) (nxRow ev gr fl f b) from rfl, hi]
    -- an entry of the next row
    have hat : ∀ j, -100000 ≤ atD (nxRow ev gr fl f b) j ↔ (-100000 ≤ nxV ev gr fl f b j ∧ atD (nxRow ev gr fl f b) j = nxV ev gr fl f b j) := fun j => by
      rcases Nat.lt_or_ge j (b.length + 1) with hj | hj
      · rw [atD_some (nxRow_at hj)]; simp
      · have e1 : atD (nxRow ev gr fl f b) j = -never := by
          unfold atD
          rw [List.getElem?_eq_none (by unfold nxRow; simpa using hj)]; rfl
        have e2 : atD b j = -never := by unfold atD; rw [List.getElem?_eq_none (by omega)]; rfl
        have e3 : atD b (j - 1) = -never := by unfold atD; rw [List.getElem?_eq_none (by omega)]; rfl
        have e4 : nxV ev gr fl f b j = -never := by
          have e5 : nxC ev fl b j = -never := by unfold nxC; rw [e2, e3, if_neg (fun hc => by omega)]
          unfold nxV
          rw [e5]
          split <;> rfl
        rw [e1, e4]; simp
    constructor
    · rintro ⟨j, hj, hv, hd⟩
      obtain ⟨hv2, he2⟩ := (hat j).1 hv
      rw [he2] at hd
      rcases (nx_iff he hg hf0 h0 h).1 ⟨hv2, hd⟩ with ⟨a1, a2⟩ | ⟨i, rfl, a1, a2⟩
      · exact ⟨j, hj, a1, nd_iff.2 (.inl a2)⟩
      · exact ⟨i, by omega, a1, nd_iff.2 (.inr ⟨K - (i + 1), by omega, a2⟩)⟩
    · rintro ⟨j, hj, hv, hd⟩
      rcases nd_iff.1 hd with a | ⟨r, hr, a⟩
      · obtain ⟨c1, c2⟩ := (nx_iff he hg hf0 h0 h (j := j)).2 (.inl ⟨hv, a⟩)
        have h3 : -100000 ≤ atD (nxRow ev gr fl f b) j ∧ atD (nxRow ev gr fl f b) j = nxV ev gr fl f b j := by
          have hjl : j < b.length := by
            refine Decidable.by_contra fun hc => ?_
            have : atD b j = -never := by unfold atD; rw [List.getElem?_eq_none (by omega)]; rfl
            omega
          rw [atD_some (nxRow_at (by omega))]; exact ⟨c1, rfl⟩
        exact ⟨j, hj, h3.1, by rw [h3.2]; exact c2⟩
      · obtain ⟨c1, c2⟩ := (nx_iff he hg hf0 h0 h (j := j + 1)).2 (.inr ⟨j, rfl, hv, a⟩)
        have h3 : -100000 ≤ atD (nxRow ev gr fl f b) (j + 1) ∧ atD (nxRow ev gr fl f b) (j + 1) = nxV ev gr fl f b (j + 1) := by
          have hjl : j < b.length := by
            refine Decidable.by_contra fun hc => ?_
            have : atD b j = -never := by unfold atD; rw [List.getElem?_eq_none (by omega)]; rfl
            omega
          rw [atD_some (nxRow_at (by omega))]; exact ⟨c1, rfl⟩
        refine ⟨j + 1, by omega, h3.1, ?_⟩
        rw [h3.2, show K - (j + 1) = r by omega]; exact c2
/-! The plan -/
/-- Is there a plan with so many inspections? -/
def canB (ev gr L : Int) (fs : List Int) (k : Nat) : Bool := decide (ndL ev gr fs k ≤ L)
/-- The fewest inspections; below zero: there is no plan. -/
def fewV (ev gr du : Int) (fs : List Int) : Int := idxV (fun x => decide (x ≤ du)) ((List.range (fs.length + 1)).map (ndL ev gr fs))
def insG (ev gr : Int) : List Int → Nat → Nat → Int → List Int
  | [], _, _, _ => []
  | f :: t, i, k, L => if befV gr f (ndL ev gr t k) ≤ L then insG ev gr t (i + 1) k (L - f) else (i : Int) :: insG ev gr t (i + 1) (k - 1) (min L 0 + ev - f)
/-- What Inspect returns: the plan, and the error. -/
def insE (ev gr du : Int) (fs : List Int) : Int := if caredE ev gr du fs = 0 then (if fewV ev gr du fs < 0 then 6 else 0) else caredE ev gr du fs
def insV (ev gr du : Int) (fs : List Int) : List Int := insG ev gr fs 0 (fewV ev gr du fs).toNat du
end Go.Proofs.Ytmlmgipngbndgaa
/- Own lists of numbers: reading, writing, making. -/
namespace Go.Proofs.Ytmlmgipngbndgaa
set_option linter.unusedVariables false
set_option linter.unusedSimpArgs false
open Go.RowKit
def iv (z : Int) : Value := .int .i64 z
theorem iv_one (l : List Int) : ∀ v ∈ l.map iv, v.oneCell' = true := by
  intro v hv
  obtain ⟨z, _, rfl⟩ := List.mem_map.1 hv
  rfl
theorem iv_flat (l : List Int) : (l.map inCells).flatten = l.map iv := by
  induction l with
  | nil => rfl
  | cons z l ih => simp [inCells, iv] at ih ⊢; exact ih
theorem int_rows {w0 : World} {M : Ms} {H H' : Hp} {w : World} {g n : Nat} {l : List Int} {tg : Tg} (hl : l.length = n) (h : Has w0 M H w) (q : Pick H g (l.map iv) tg H') : RdS w 1 (some ⟨g, 0, none⟩) n (l.map inCells) :=
  Blk.rows (by rw [iv_flat]; exact (h.blk _ q.mem).2) (by simpa using hl) (by simp only [List.mem_map]; rintro r ⟨x, _, rfl⟩; rfl)
section
variable {c : Cx} {F : Fr} {H H' : Hp} {K : Value → Hp → Prop} {d : Option Tmp} {ty : TypeId} {pos : String} {af : Array Edge} {gd : Option (Nat × Bool)} {t : TypeId} {x y : Operand} {a0 : Bool} {z0 : List Value} {k0 : TyK} {g k : Nat} {tg : Tg} {row A : List Int} {B : List Value} {z u : Int}
theorem rdI (hx : row[k]? = some z) (p : Pick H g (row.map iv) tg H') : Rd c H ⟨g, 0 + k * 1, none⟩ (.int .i64 z) := Rd.own p (by rw [Nat.zero_add, Nat.mul_one, List.getElem?_map, hx]; rfl)
theorem mid_at (h : A.length = k) : (A.map iv ++ Value.int .i64 z :: B)[0 + k * 1]? = some (Value.int .i64 z) := by
  rw [Nat.zero_add, Nat.mul_one, ← h]
  simp
theorem mid_set (h : A.length = k) : (A.map iv ++ Value.int .i64 z :: B).set (0 + k * 1) (Value.int .i64 u) = A.map iv ++ Value.int .i64 u :: B := by
  rw [Nat.zero_add, Nat.mul_one, ← h]
  rw [List.set_append_right _ _ (by simp)]
  simp
theorem rdM (h : A.length = k) (p : Pick H g (A.map iv ++ Value.int .i64 z :: B) tg H') : Rd c H ⟨g, 0 + k * 1, none⟩ (.int .i64 z) := Rd.own p (mid_at h)
theorem os_storeM (h : A.length = k) (ht : tyAt c.tys t = some ⟨a0, 1, z0, k0⟩) (hx : ev F x = some (.pointer (some ⟨g, 0 + k * 1, none⟩))) (hy : ev F y = some (.int .i64 u)) (hp : Pick H g (A.map iv ++ Value.int .i64 z :: B) tg H')
    (kk : K undef ((g, A.map iv ++ Value.int .i64 u :: B, tg) :: H')) : OS c ⟨d, .store t x y, ty, pos, af, gd⟩ F H K :=
  store_gen (vs := [.int .i64 u]) ht hx hy rfl rfl (by simp [Value.oneCell']) hp (by simp; omega) (by
    have e : setL (A.map iv ++ Value.int .i64 z :: B) (0 + k * 1) [Value.int .i64 u] = A.map iv ++ Value.int .i64 u :: B := by simp only [setL]; exact mid_set h
    rw [e]; exact kk)
theorem os_storeI (h : k < row.length) (ht : tyAt c.tys t = some ⟨a0, 1, z0, k0⟩) (hx : ev F x = some (.pointer (some ⟨g, 0 + k * 1, none⟩))) (hy : ev F y = some (.int .i64 u)) (hp : Pick H g (row.map iv) tg H')
    (kk : K undef ((g, (row.set k u).map iv, tg) :: H')) : OS c ⟨d, .store t x y, ty, pos, af, gd⟩ F H K :=
  store_gen (vs := [.int .i64 u]) ht hx hy rfl rfl (by simp [Value.oneCell']) hp (by simp; omega) (by
    have e : setL (row.map iv) (0 + k * 1) [Value.int .i64 u] = (row.set k u).map iv := by simp only [setL]; rw [Nat.zero_add, Nat.mul_one, List.map_set]; rfl
    rw [e]; exact kk)
theorem ox_makeI {n : Nat} {tt : TypeId} {bytes : Nat} (hk : AppOk c.P tt 3 1 bytes) (hz : (c.P.info? 3).map (fun i => i.zero) = some (some (.int .i64 0)))
    (hx : ev F x = some (.int .i64 (n : Int))) (hy : ev F y = some (.int .i64 (n : Int))) (hb : bytes * n ≤ 281474976710656) (hn : n ≤ maxLen) (k : ∀ b, K (.slice (some ⟨b, 0, none⟩) n n) ((b, List.replicate n (Value.int .i64 0), some (3, 1, n)) :: H)) : OX c ⟨d, .makeSlice tt x y, ty, pos, af, gd⟩ F H K := by
  refine ox_make (zs := [.int .i64 0]) hk hz rfl rfl hx hy hb hn fun b => ?_
  have e : (List.replicate n [Value.int .i64 0]).flatten = List.replicate n (Value.int .i64 0) := by simp
  rw [e]
  exact k b
theorem os_makeI {n : Nat} {tt : TypeId} {bytes : Nat} (hk : AppOk c.P tt 3 1 bytes) (hz : (c.P.info? 3).map (fun i => i.zero) = some (some (.int .i64 0)))
    (hx : ev F x = some (.int .i64 (n : Int))) (hy : ev F y = some (.int .i64 (n : Int))) (hb : bytes * n ≤ 281474976710656) (hn : n ≤ maxLen) (k : ∀ b, K (.slice (some ⟨b, 0, none⟩) n n) ((b, List.replicate n (Value.int .i64 0), some (3, 1, n)) :: H)) : OS c ⟨d, .makeSlice tt x y, ty, pos, af, gd⟩ F H K := .ofX (ox_makeI hk hz hx hy hb hn k)
end
end Go.Proofs.Ytmlmgipngbndgaa
/- The office: plain laws. -/
namespace Go.Proofs.Ytmlmgipngbndgaa
set_option linter.unusedVariables false
set_option linter.unusedSimpArgs false
structure Dep where
  seats : Int
  price : Int
  leaves : Int
  state : Int
structure Bk where
  flight : Int
  state : Int
  kept : Int
def depCells (x : Dep) : List Value := [.int .i64 x.seats, .int .i64 x.price, .int .i64 x.leaves, .int .u8 x.state]
def bkCells (x : Bk) : List Value := [.int .i64 x.flight, .int .u8 x.state, .int .i64 x.kept]
theorem dep_read {w : World} {A : Option Addr} {n : Nat} {l : List Dep} (h : RdS w 4 A n (l.map depCells)) {i : Nat} (hi : i < n) :
    ∃ b o x, A = some ⟨b, o, none⟩ ∧ b < w.heap.size ∧ l[i]? = some x ∧ w.cell? ⟨b, o + i * 4, none⟩ = some (.int .i64 x.seats) ∧ w.cell? ⟨b, o + i * 4 + 1, none⟩ = some (.int .i64 x.price) ∧ w.cell? ⟨b, o + i * 4 + 2, none⟩ = some (.int .i64 x.leaves) ∧ w.cell? ⟨b, o + i * 4 + 3, none⟩ = some (.int .u8 x.state) := by
  obtain ⟨b, o, cs, hA, hb, hx, _, hc⟩ := h.row hi
  simp only [List.getElem?_map, Option.map_eq_some_iff] at hx
  obtain ⟨x, hx, rfl⟩ := hx
  exact ⟨b, o, x, hA, hb, hx, hc 0 _ rfl, hc 1 _ rfl, hc 2 _ rfl, hc 3 _ rfl⟩
theorem bk_read {w : World} {A : Option Addr} {n : Nat} {l : List Bk} (h : RdS w 3 A n (l.map bkCells)) {i : Nat} (hi : i < n) :
    ∃ b o x, A = some ⟨b, o, none⟩ ∧ b < w.heap.size ∧ l[i]? = some x ∧ w.cell? ⟨b, o + i * 3, none⟩ = some (.int .i64 x.flight) ∧ w.cell? ⟨b, o + i * 3 + 1, none⟩ = some (.int .u8 x.state) ∧ w.cell? ⟨b, o + i * 3 + 2, none⟩ = some (.int .i64 x.kept) := by
  obtain ⟨b, o, cs, hA, hb, hx, _, hc⟩ := h.row hi
  simp only [List.getElem?_map, Option.map_eq_some_iff] at hx
  obtain ⟨x, hx, rfl⟩ := hx
  exact ⟨b, o, x, hA, hb, hx, hc 0 _ rfl, hc 1 _ rfl, hc 2 _ rfl⟩
def depOk (x : Dep) : Bool := decide (0 ≤ x.seats) && decide (x.seats ≤ 50) && (decide (0 ≤ x.price) && decide (x.price ≤ 1000000)) && (decide (0 ≤ x.leaves) && decide (x.leaves ≤ 1000000)) && decide (x.state ≤ 2)
/-- Is a booking of a departure, and in a state? -/
def isB (f s : Int) (x : Bk) : Bool := decide (x.flight = f) && decide (x.state = s)
def manyTo (bk : List Bk) (f s : Int) (k : Nat) : Int := (((bk.take k).filter (isB f s)).length : Nat)
def manyV (bk : List Bk) (f s : Int) : Int := ((bk.filter (isB f s)).length : Nat)
theorem many_zero (bk : List Bk) (f s : Int) : manyTo bk f s 0 = 0 := by simp [manyTo]
theorem many_yes {bk : List Bk} {f s : Int} {k : Nat} {x : Bk} (h : bk[k]? = some x) (hi : isB f s x = true) : manyTo bk f s (k + 1) = manyTo bk f s k + 1 := by
  unfold manyTo
  rw [List.take_add_one, h, List.filter_append]
  simp [hi]
theorem many_no {bk : List Bk} {f s : Int} {k : Nat} {x : Bk} (h : bk[k]? = some x) (hi : isB f s x = false) : manyTo bk f s (k + 1) = manyTo bk f s k := by
  unfold manyTo
  rw [List.take_add_one, h, List.filter_append]
  simp [hi]
theorem many_all {bk : List Bk} {f s : Int} {k : Nat} (h : bk.length ≤ k) : manyTo bk f s k = manyV bk f s := by
  unfold manyTo manyV
  rw [List.take_of_length_le h]
theorem many_in (bk : List Bk) (f s : Int) (k : Nat) : 0 ≤ manyTo bk f s k ∧ manyTo bk f s k ≤ (k : Int) := by
  unfold manyTo
  have h1 := List.length_filter_le (isB f s) (bk.take k)
  have h2 := List.length_take_le k bk
  omega
/-- What may be kept of the price of a departure. -/
def feeV (price fee : Int) : Int := (price * fee).tdiv 100
theorem fee_in {price fee : Int} (h1 : 0 ≤ price ∧ price ≤ 1000000) (h2 : 0 ≤ fee ∧ fee ≤ 100) : 0 ≤ price * fee ∧ price * fee ≤ 1000000 * 100 ∧ 0 ≤ feeV price fee ∧ feeV price fee ≤ 1000000 := by
  have a := Int.mul_nonneg h1.1 h2.1
  have b := Int.mul_le_mul h1.2 h2.2 h2.1 (by omega)
  unfold feeV
  rw [Int.tdiv_eq_ediv_of_nonneg a]
  omega
/-- May a booking of a departure in state g be in state s? -/
def fitB (g s : Int) : Bool := (decide (g = 0) && (decide (s = 1) || decide (s = 2))) || (decide (g = 1) && decide (s = 3))
def bookedB (fl : List Dep) (fee : Int) (x : Bk) : Bool :=
  if 0 ≤ x.flight ∧ x.flight < (fl.length : Int) then
    match fl[x.flight.toNat]? with
    | none => false
    | some d => if x.state = 4 then decide (0 ≤ x.kept) && decide (x.kept ≤ feeV d.price fee) else fitB d.state x.state && decide (x.kept = 0)
  else false
def prc (fl : List Dep) (x : Bk) : Int := match fl[x.flight.toNat]? with | some d => d.price | none => 0
structure Sum4 where
  held : Int
  earned : Int
  kept : Int
  back : Int
def addB (fl : List Dep) (p : Sum4) (x : Bk) : Sum4 :=
  if x.state = 1 ∨ x.state = 2 then ⟨p.held + prc fl x, p.earned, p.kept, p.back⟩
  else if x.state = 3 then ⟨p.held, p.earned + prc fl x, p.kept, p.back⟩
  else if x.state = 4 then ⟨p.held, p.earned, p.kept + x.kept, p.back + (prc fl x - x.kept)⟩
  else p
def sumsTo (fl : List Dep) (bk : List Bk) (k : Nat) : Sum4 := (bk.take k).foldl (addB fl) ⟨0, 0, 0, 0⟩
def sumsV (fl : List Dep) (bk : List Bk) : Sum4 := bk.foldl (addB fl) ⟨0, 0, 0, 0⟩
theorem sums_succ {fl : List Dep} {bk : List Bk} {k : Nat} {x : Bk} (h : bk[k]? = some x) : sumsTo fl bk (k + 1) = addB fl (sumsTo fl bk k) x := by
  unfold sumsTo
  rw [List.take_add_one, h, List.foldl_append]
  rfl
theorem sums_all {fl : List Dep} {bk : List Bk} {k : Nat} (h : bk.length ≤ k) : sumsTo fl bk k = sumsV fl bk := by
  unfold sumsTo sumsV
  rw [List.take_of_length_le h]
/-- Are the seats of a departure given as they have to be? -/
def seatB (fl : List Dep) (bk : List Bk) (i : Nat) : Bool := match fl[i]? with
  | none => true
  | some d => let s := manyV bk i 1 + manyV bk i 3
    decide (s ≤ d.seats) && (decide (s = d.seats) || decide (manyV bk i 2 ≤ 0))
structure Off where
  now : Int
  notice : Int
  fee : Int
  inn : Int
  out : Int
  fl : List Dep
  bk : List Bk
def headB (o : Off) : Bool := decide (0 ≤ o.now ∧ o.now ≤ 1000000 ∧ 0 ≤ o.notice ∧ o.notice ≤ 1000000 ∧ 0 ≤ o.fee ∧ o.fee ≤ 100 ∧ o.fl.length ≤ 10 ∧ o.bk.length ≤ 120)
def moneyB (o : Off) : Bool := decide (o.inn = (sumsV o.fl o.bk).held + (sumsV o.fl o.bk).earned + (sumsV o.fl o.bk).kept + (sumsV o.fl o.bk).back) && decide (o.out = (sumsV o.fl o.bk).back)
/-- Is an office valid? -/
def officeB (o : Off) : Bool := headB o && (o.fl.all depOk && (o.bk.all (bookedB o.fl o.fee) && ((List.range o.fl.length).all (seatB o.fl o.bk) && moneyB o)))
def offCells (o : Off) (A : Option Addr) (cf : Nat) (B : Option Addr) (cb : Nat) : List Value := [.int .i64 o.now, .int .i64 o.notice, .int .i64 o.fee, .slice A o.fl.length cf, .slice B o.bk.length cb, .int .i64 o.inn, .int .i64 o.out]
end Go.Proofs.Ytmlmgipngbndgaa
/- The office, the reference's: departures, bookings, how many. -/
namespace Go.Proofs.Ytmlmgipngbndgaa
open Go.RowKit
attribute [local irreducible] OQ OS OX Rd T TL GX GL AL AI RV wpG SAny Calls
set_option maxRecDepth 100000
set_option maxHeartbeats 2000000
set_option linter.unusedVariables false
set_option linter.unusedSimpArgs false

theorem departure_calls (a b c s : Int) (w : World) : Calls Try.prog 98 #[.agg #[.int .i64 a, .int .i64 b, .int .i64 c, .int .u8 s]] w fun e w' => e = .returned (.bool (depOk ⟨a, b, c, s⟩)) ∧ Ext w w' := by
  obtain ⟨q1, h1⟩ : ∃ q, allFrom 0 50 [a] = q := ⟨_, rfl⟩
  obtain ⟨q2, h2⟩ : ∃ q, allFrom 0 1000000 [b] = q := ⟨_, rfl⟩
  obtain ⟨q3, h3⟩ : ∃ q, allFrom 0 1000000 [c] = q := ⟨_, rfl⟩
  have key : depOk ⟨a, b, c, s⟩ = (q1 && q2 && q3 && decide (s ≤ 2)) := by
    rw [← h1, ← h2, ← h3]
    unfold depOk allFrom
    simp
  rw [key]
  refine enterQ (c := cx w 21) Try.func98 rfl rfl rfl rfl ?_
  repeat' (first | ((with_reducible apply oq_id); first | (apply oq_fn; exact rfl; first | exact trivial | (refine ⟨?_, ?_⟩ <;> omega) | (refine ⟨?_, ?_, ?_⟩ <;> omega) | omega | skip) | ((with_reducible apply oq_load); exact rfl; exact rfl) | ((with_reducible apply oq_call (k := 66) (hc := Try.call66)); exact rfl; exact rfl; exact fun D w1 hw1 => withinQ h1 w1) | ((with_reducible apply oq_call (k := 66) (hc := Try.call66)); exact rfl; exact rfl; exact fun D w1 hw1 => withinQ h2 w1) | ((with_reducible apply oq_call (k := 66) (hc := Try.call66)); exact rfl; exact rfl; exact fun D w1 hw1 => withinQ h3 w1)) | ((with_reducible apply tl_id); first | ((with_reducible apply tl_nil)) | ((with_reducible apply u_q); exact rfl; exact rfl; exact rfl; exact rfl) | ((with_reducible apply u_s); exact rfl; exact rfl; exact rfl) | ((with_reducible apply u_skip); exact rfl; exact rfl; exact rfl) | ((with_reducible apply u_split); exact rfl; exact rfl; all_goals first | intro hp | skip)) | ((with_reducible apply os_id); first | ((with_reducible apply os_x); exact rfl)) | ((with_reducible apply ox_id); first | ((with_reducible apply ox_boxAgg); exact rfl; intro _)) | ((with_reducible apply rd_id); first | (apply Rd.own; (repeat (first | exact P0 | apply P1)); exact rfl; done)) | ((with_reducible apply t_id); first | ((with_reducible apply t_seq)) | (apply t_region; kernel_rfl) | ((with_reducible apply t_ret))) | with_reducible apply q_thenN | ((with_reducible apply end_ret)) | exact rvs_nil | ((with_reducible apply rvs_cons)) | ((with_reducible apply rv_tmp); exact rfl))
  all_goals (cases q1 <;> cases q2 <;> cases q3 <;> first | rfl | simp_all)

theorem many_calls (o : Off) (A : Option Addr) (cf : Nat) (B : Option Addr) (cb : Nat) (w : World) (hA : RdS w 4 A o.fl.length (o.fl.map depCells)) (hB : RdS w 3 B o.bk.length (o.bk.map bkCells)) (hn : o.bk.length ≤ 1000000) (f s : Int) : Calls Try.prog 67 #[.agg ⟨offCells o A cf B cb⟩, .int .i64 f, .int .u8 s] w fun e w' => e = .returned (.int .i64 (manyV o.bk f s)) ∧ Ext w w' := by
  refine enterQ (c := cx w 37) Try.func67 rfl rfl rfl rfl ?_
  repeat' (first | ((with_reducible apply oq_id); first | (apply oq_fn; exact rfl; first | exact trivial | (refine ⟨?_, ?_⟩ <;> omega) | (refine ⟨?_, ?_, ?_⟩ <;> omega) | omega | skip)) | ((with_reducible apply tl_id); first | ((with_reducible apply tl_nil)) | ((with_reducible apply u_q); exact rfl; exact rfl; exact rfl; exact rfl) | ((with_reducible apply u_s); exact rfl; exact rfl; exact rfl)) | ((with_reducible apply os_id); first | ((with_reducible apply os_x); exact rfl)) | ((with_reducible apply ox_id); first | ((with_reducible apply ox_boxAgg); exact rfl; intro _)) | ((with_reducible apply t_id); first | ((with_reducible apply t_seq)) | (apply t_region; kernel_rfl) | ((with_reducible apply t_block))) | with_reducible apply q_thenN)
  apply t_loopK (ι := Nat) [1, 2, 3, 6, 36] (fun k => [(8, .int .i64 (k : Nat)), (7, .int .i64 (manyTo o.bk f s k))]) (fun _ => []) (fun k => k ≤ o.bk.length) (fun k => o.bk.length - k) (0)
  (repeat (first | exact KeepF.nil | (apply KeepF.cons; exact rfl) | apply KeepF.skip))
  (repeat (first | exact FrSub.nil | (apply FrSub.cons; exact rfl)))
  (repeat (first | exact HpSub.refl _ | (apply HpSub.consE; (repeat (first | exact P0 | apply P1)); exact rfl) | exact HpSub.nil))
  · exact Nat.zero_le _
  rintro k hk
  try simp only [List.cons_append, List.nil_append]
  have hin := many_in o.bk f s k
  obtain ⟨mk, hmk⟩ : ∃ q, manyTo o.bk f s k = q := ⟨_, rfl⟩
  rw [hmk] at hin ⊢
  by_cases hlt : k < o.bk.length
  · obtain ⟨b1, o1, x, rfl, _, hx, c0, c1, c2⟩ := bk_read hB hlt
    cases hi : isB f s x with
    | true =>
      have hs := many_yes hx hi
      rw [hmk] at hs
      unfold isB at hi
      simp only [Bool.and_eq_true, decide_eq_true_eq] at hi
      repeat' (first | ((with_reducible apply oq_id); first | (focus ((with_reducible apply oq_indexAddrN); exact rfl; exact rfl; exact rfl; exact rfl; omega)) | (apply oq_fn; exact rfl; first | exact trivial | (refine ⟨?_, ?_⟩ <;> omega) | (refine ⟨?_, ?_, ?_⟩ <;> omega) | omega | skip) | ((with_reducible apply oq_load); exact rfl; exact rfl)) | ((with_reducible apply tl_id); first | ((with_reducible apply tl_nil)) | ((with_reducible apply u_q); exact rfl; exact rfl; exact rfl; exact rfl) | ((with_reducible apply u_splitD); exact rfl; exact rfl; all_goals first | (intro hp; try (exfalso; omega)) | skip)) | ((with_reducible apply rd_id); first | (apply Rd.own; (repeat (first | exact P0 | apply P1)); exact rfl; done) | (apply Rd.old; (first | (with_reducible assumption) | exact c0 | exact c1 | exact c2 | exact c3 | exact c4 | exact c5 | exact c6 | exact c7 | exact c8 | exact d0 | exact d1 | exact d2 | exact d3 | exact d4 | exact d5); first | exact List.not_mem_nil | exact m0 | exact m1 | exact m2 | exact m3 | exact m4 | exact m5 | exact m6 | exact m7 | exact m8 | exact m9)) | ((with_reducible apply t_id); first | ((with_reducible apply t_seq)) | (apply t_region; kernel_rfl) | ((with_reducible apply t_condD); exact rfl; all_goals first | (intro hp; try (exfalso; omega)) | skip) | ((with_reducible apply t_skip)) | ((with_reducible apply t_block))) | with_reducible apply q_thenN | with_reducible apply q_blockN)
      all_goals (refine ⟨k + 1, by omega, by omega, ?_, ?_⟩)
      all_goals ((try simp only [List.cons_append, List.nil_append]); (repeat' (first | exact FrSub.nil | (apply FrSub.cons; exact rfl) | (apply FrSub.consE; exact rfl; (rw [hs])) | exact HpSub.refl _)))
    | false =>
      have hs := many_no hx hi
      rw [hmk] at hs
      unfold isB at hi
      by_cases hf : x.flight = f
      · have hss : x.state ≠ s := by simpa [hf] using hi
        repeat' (first | ((with_reducible apply oq_id); first | (focus ((with_reducible apply oq_indexAddrN); exact rfl; exact rfl; exact rfl; exact rfl; omega)) | (apply oq_fn; exact rfl; first | exact trivial | (refine ⟨?_, ?_⟩ <;> omega) | (refine ⟨?_, ?_, ?_⟩ <;> omega) | omega | skip) | ((with_reducible apply oq_load); exact rfl; exact rfl)) | ((with_reducible apply tl_id); first | ((with_reducible apply tl_nil)) | ((with_reducible apply u_q); exact rfl; exact rfl; exact rfl; exact rfl) | ((with_reducible apply u_splitD); exact rfl; exact rfl; all_goals first | (intro hp; try (exfalso; omega)) | skip)) | ((with_reducible apply rd_id); first | (apply Rd.own; (repeat (first | exact P0 | apply P1)); exact rfl; done) | (apply Rd.old; (first | (with_reducible assumption) | exact c0 | exact c1 | exact c2 | exact c3 | exact c4 | exact c5 | exact c6 | exact c7 | exact c8 | exact d0 | exact d1 | exact d2 | exact d3 | exact d4 | exact d5); first | exact List.not_mem_nil | exact m0 | exact m1 | exact m2 | exact m3 | exact m4 | exact m5 | exact m6 | exact m7 | exact m8 | exact m9)) | ((with_reducible apply t_id); first | ((with_reducible apply t_seq)) | (apply t_region; kernel_rfl) | ((with_reducible apply t_condD); exact rfl; all_goals first | (intro hp; try (exfalso; omega)) | skip) | ((with_reducible apply t_skip)) | ((with_reducible apply t_block))) | with_reducible apply q_thenN | with_reducible apply q_blockN)
        all_goals (refine ⟨k + 1, by omega, by omega, ?_, ?_⟩)
        all_goals ((try simp only [List.cons_append, List.nil_append]); (repeat' (first | exact FrSub.nil | (apply FrSub.cons; exact rfl) | (apply FrSub.consE; exact rfl; (rw [hs])) | exact HpSub.refl _)))
      · repeat' (first | ((with_reducible apply oq_id); first | (focus ((with_reducible apply oq_indexAddrN); exact rfl; exact rfl; exact rfl; exact rfl; omega)) | (apply oq_fn; exact rfl; first | exact trivial | (refine ⟨?_, ?_⟩ <;> omega) | (refine ⟨?_, ?_, ?_⟩ <;> omega) | omega | skip) | ((with_reducible apply oq_load); exact rfl; exact rfl)) | ((with_reducible apply tl_id); first | ((with_reducible apply tl_nil)) | ((with_reducible apply u_q); exact rfl; exact rfl; exact rfl; exact rfl) | ((with_reducible apply u_skip); exact rfl; exact rfl; exact rfl) | ((with_reducible apply u_splitD); exact rfl; exact rfl; all_goals first | (intro hp; try (exfalso; omega)) | skip)) | ((with_reducible apply rd_id); first | (apply Rd.own; (repeat (first | exact P0 | apply P1)); exact rfl; done) | (apply Rd.old; (first | (with_reducible assumption) | exact c0 | exact c1 | exact c2 | exact c3 | exact c4 | exact c5 | exact c6 | exact c7 | exact c8 | exact d0 | exact d1 | exact d2 | exact d3 | exact d4 | exact d5); first | exact List.not_mem_nil | exact m0 | exact m1 | exact m2 | exact m3 | exact m4 | exact m5 | exact m6 | exact m7 | exact m8 | exact m9)) | ((with_reducible apply t_id); first | ((with_reducible apply t_seq)) | (apply t_region; kernel_rfl) | ((with_reducible apply t_condF); exact rfl) | ((with_reducible apply t_condD); exact rfl; all_goals first | (intro hp; try (exfalso; omega)) | skip) | ((with_reducible apply t_skip)) | ((with_reducible apply t_block))) | with_reducible apply q_thenN | with_reducible apply q_blockN)
        all_goals (refine ⟨k + 1, by omega, by omega, ?_, ?_⟩)
        all_goals ((try simp only [List.cons_append, List.nil_append]); (repeat' (first | exact FrSub.nil | (apply FrSub.cons; exact rfl) | (apply FrSub.consE; exact rfl; (rw [hs])) | exact HpSub.refl _)))
  · repeat' (first | ((with_reducible apply oq_id); first | (apply oq_fn; exact rfl; first | exact trivial | (refine ⟨?_, ?_⟩ <;> omega) | (refine ⟨?_, ?_, ?_⟩ <;> omega) | omega | skip) | ((with_reducible apply oq_load); exact rfl; exact rfl)) | ((with_reducible apply tl_id); first | ((with_reducible apply tl_nil)) | ((with_reducible apply u_q); exact rfl; exact rfl; exact rfl; exact rfl)) | ((with_reducible apply rd_id); first | (apply Rd.own; (repeat (first | exact P0 | apply P1)); exact rfl; done)) | ((with_reducible apply t_id); first | ((with_reducible apply t_seq)) | (apply t_region; kernel_rfl) | ((with_reducible apply t_condD); exact rfl; all_goals first | (intro hp; try (exfalso; omega)) | skip) | ((with_reducible apply t_ret)) | ((with_reducible apply t_exit))) | with_reducible apply q_thenN | with_reducible apply q_thenE | ((with_reducible apply q_blockE); exact rfl) | ((with_reducible apply end_ret)) | exact rvs_nil | ((with_reducible apply rvs_cons)) | ((with_reducible apply rv_tmp); exact rfl))
    all_goals (rw [← many_all (show o.bk.length ≤ k by omega), hmk]; rfl)

end Go.Proofs.Ytmlmgipngbndgaa
/- The office, the reference's: is it valid? -/
namespace Go.Proofs.Ytmlmgipngbndgaa
open Go.RowKit
attribute [local irreducible] OQ OS OX Rd T TL GX GL AL AI RV wpG SAny Calls
set_option maxRecDepth 100000
set_option maxHeartbeats 2000000
set_option linter.unusedVariables false
set_option linter.unusedSimpArgs false

theorem depOk_in {d : Dep} (h : depOk d = true) : 0 ≤ d.seats ∧ d.seats ≤ 50 ∧ 0 ≤ d.price ∧ d.price ≤ 1000000 ∧ 0 ≤ d.leaves ∧ d.leaves ≤ 1000000 ∧ d.state ≤ 2 := by
  unfold depOk at h
  simp only [Bool.and_eq_true, decide_eq_true_eq] at h
  omega
/-- All departures are valid, their states are no negative numbers. -/
def DepsOk (fl : List Dep) : Prop := ∀ d ∈ fl, depOk d = true ∧ 0 ≤ d.state
theorem oq_mulE {c : Cx} {F : Fr} {H : Hp} {d : Option Tmp} {ty t t' : TypeId} {pos : String} {af : Array Edge} {g : Option (Nat × Bool)} {x y : Operand} {m n k : Int} (hx : ev F x = some (.int .i64 m)) (hy : ev F y = some (.int .i64 n)) (e : m * n = k) (hk : -9223372036854775808 ≤ k ∧ k ≤ 9223372036854775807) : OQ c ⟨d, .binOp .mul t x y t', ty, pos, af, g⟩ F H (.int .i64 k) := by
  subst e
  exact oq_mul hx hy ⟨hk.1, hk.2⟩
theorem refFee_calls (o : Off) (A : Option Addr) (cf : Nat) (B : Option Addr) (cb : Nat) (w : World) (hA : RdS w 4 A o.fl.length (o.fl.map depCells)) (hB : RdS w 3 B o.bk.length (o.bk.map bkCells)) (hd : DepsOk o.fl) (hf : 0 ≤ o.fee ∧ o.fee ≤ 100) (i : Nat) (d : Dep) (hi : o.fl[i]? = some d) : Calls Try.prog 119 #[.agg ⟨offCells o A cf B cb⟩, .int .i64 (i : Int)] w fun e w' => e = .returned (.int .i64 (feeV d.price o.fee)) ∧ Ext w w' := by
  have hil := (List.getElem?_eq_some_iff.1 hi).1
  obtain ⟨b1, o1, x, rfl, _, hx, c0, c1, c2, c3⟩ := dep_read hA hil
  obtain rfl : d = x := by rw [hi] at hx; exact Option.some.inj hx
  have hdi := depOk_in (hd d (List.mem_of_getElem? hi)).1
  have hfi := fee_in (price := d.price) (fee := o.fee) (by omega) hf
  obtain ⟨P, hP⟩ : ∃ P, d.price * o.fee = P := ⟨_, rfl⟩
  unfold feeV at hfi ⊢
  rw [hP] at hfi ⊢
  refine enterQ (c := cx w 15) Try.func119 rfl rfl rfl rfl ?_
  repeat' (first | ((with_reducible apply oq_id); first | (focus ((with_reducible apply oq_indexAddrN); exact rfl; exact rfl; exact rfl; exact rfl; omega)) | (focus ((with_reducible apply oq_mulE (k := P)); exact rfl; exact rfl; exact hP; omega)) | (apply oq_fn; exact rfl; first | exact trivial | (refine ⟨?_, ?_⟩ <;> omega) | (refine ⟨?_, ?_, ?_⟩ <;> omega) | omega | skip) | ((with_reducible apply oq_load); exact rfl; exact rfl)) | ((with_reducible apply tl_id); first | ((with_reducible apply tl_nil)) | ((with_reducible apply u_q); exact rfl; exact rfl; exact rfl; exact rfl) | ((with_reducible apply u_s); exact rfl; exact rfl; exact rfl)) | ((with_reducible apply gx_id); first | ((with_reducible apply v_nil)) | ((with_reducible apply v_q); exact rfl; exact rfl; exact rfl)) | ((with_reducible apply os_id); first | ((with_reducible apply os_x); exact rfl)) | ((with_reducible apply ox_id); first | ((with_reducible apply ox_boxAgg); exact rfl; intro _)) | ((with_reducible apply rd_id); first | (apply Rd.own; (repeat (first | exact P0 | apply P1)); exact rfl; done) | (apply Rd.old; (first | (with_reducible assumption) | exact c0 | exact c1 | exact c2 | exact c3 | exact c4 | exact c5 | exact c6 | exact c7 | exact c8 | exact d0 | exact d1 | exact d2 | exact d3 | exact d4 | exact d5); first | exact List.not_mem_nil | exact m0 | exact m1 | exact m2 | exact m3 | exact m4 | exact m5 | exact m6 | exact m7 | exact m8 | exact m9)) | ((with_reducible apply t_id); first | ((with_reducible apply t_seq)) | (apply t_region; kernel_rfl) | (apply t_drawn; kernel_rfl; decide +kernel; try simp only [List.append_eq, List.cons_append, List.nil_append]) | ((with_reducible apply t_ret))) | with_reducible apply q_thenN | ((with_reducible apply end_ret)) | exact rvs_nil | ((with_reducible apply rvs_cons)) | ((with_reducible apply rv_tmp); exact rfl))
  all_goals rfl

theorem booked_calls (o : Off) (A : Option Addr) (cf : Nat) (B : Option Addr) (cb : Nat) (w : World) (hA : RdS w 4 A o.fl.length (o.fl.map depCells)) (hB : RdS w 3 B o.bk.length (o.bk.map bkCells)) (hd : DepsOk o.fl) (hf : 0 ≤ o.fee ∧ o.fee ≤ 100) (hn : o.fl.length ≤ 1000000) (f s k : Int) : Calls Try.prog 99 #[.agg ⟨offCells o A cf B cb⟩, .agg #[.int .i64 f, .int .u8 s, .int .i64 k]] w fun e w' => e = .returned (.bool (bookedB o.fl o.fee ⟨f, s, k⟩)) ∧ Ext w w' := by
  by_cases hin : 0 ≤ f ∧ f < (o.fl.length : Int)
  · obtain ⟨i, rfl⟩ : ∃ i : Nat, f = (i : Int) := ⟨f.toNat, by omega⟩
    obtain ⟨b1, o1, d, hA1, _, hx, c0, c1, c2, c3⟩ := dep_read hA (show i < o.fl.length by omega)
    have hdd := hd d (List.mem_of_getElem? hx)
    have hdi := depOk_in hdd.1
    have hval : bookedB o.fl o.fee ⟨(i : Int), s, k⟩ = if s = 4 then decide (0 ≤ k) && decide (k ≤ feeV d.price o.fee) else fitB d.state s && decide (k = 0) := by
      unfold bookedB
      simp only
      rw [if_pos hin, Int.toNat_natCast, hx]
    rw [hval]
    have hwt : (decide ((0 : Int) ≤ (i : Int)) && decide ((i : Int) ≤ (o.fl.length : Int) - 1)) = true := by rw [decide_eq_true (by omega), decide_eq_true (by omega)]; rfl
    have HW0 := fun w1 => within_calls (i : Int) 0 ((o.fl.length : Int) - 1) w1
    rw [hwt] at HW0
    by_cases hs : s = 4
    · rw [if_pos hs]
      have HF := fun w1 (hx1 : Ext w w1) => refFee_calls o A cf B cb w1 (hA.ext hx1) (hB.ext hx1) hd hf i d hx
      have HW := fun w1 => within_calls k 0 (feeV d.price o.fee) w1
      subst hA1
      refine enterQ (c := cx w 59) Try.func99 rfl rfl rfl rfl ?_
      repeat' (first | ((with_reducible apply oq_id); first | (apply oq_fn; exact rfl; first | exact trivial | (refine ⟨?_, ?_⟩ <;> omega) | (refine ⟨?_, ?_, ?_⟩ <;> omega) | omega | skip) | ((with_reducible apply oq_load); exact rfl; exact rfl) | ((with_reducible apply oq_loadAgg); exact rfl; exact rfl) | ((with_reducible apply oq_call (k := 66) (hc := Try.call66)); exact rfl; exact rfl; exact fun D w1 hw1 => HW0 w1) | ((with_reducible apply oq_call (k := 66) (hc := Try.call66)); exact rfl; exact rfl; exact fun D w1 hw1 => HW w1) | ((with_reducible apply oq_call (k := 119) (hc := Try.call119)); exact rfl; exact rfl; exact fun D w1 hw1 => HF w1 hw1.ext.ext)) | ((with_reducible apply tl_id); first | ((with_reducible apply tl_nil)) | ((with_reducible apply u_q); exact rfl; exact rfl; exact rfl; exact rfl) | ((with_reducible apply u_s); exact rfl; exact rfl; exact rfl)) | ((with_reducible apply gx_id); first | ((with_reducible apply v_nil)) | ((with_reducible apply v_q); exact rfl; exact rfl; exact rfl)) | ((with_reducible apply os_id); first | ((with_reducible apply os_x); exact rfl)) | ((with_reducible apply ox_id); first | ((with_reducible apply ox_boxAgg); exact rfl; intro _)) | ((with_reducible apply rd_id); first | (apply Rd.own; (repeat (first | exact P0 | apply P1)); exact rfl; done)) | ((with_reducible apply t_id); first | ((with_reducible apply t_seq)) | (apply t_region; kernel_rfl) | (apply t_drawn; kernel_rfl; decide +kernel; try simp only [List.append_eq, List.cons_append, List.nil_append]) | ((with_reducible apply t_condF); exact rfl) | ((with_reducible apply t_condD); exact rfl; all_goals first | (intro hp; try (exfalso; omega)) | skip) | ((with_reducible apply t_ret)) | ((with_reducible apply t_skip))) | with_reducible apply q_thenN | with_reducible apply q_thenR | exact Rdn.zero | apply Rdn.succ | ((with_reducible apply end_ret)) | exact rvs_nil | ((with_reducible apply rvs_cons)) | ((with_reducible apply rv_tmp); exact rfl))
      all_goals rfl
    · rw [if_neg hs]
      subst hA1
      cases hfit : fitB d.state s with
      | false =>
        have hff : ¬ ((d.state = 0 ∧ (s = 1 ∨ s = 2)) ∨ (d.state = 1 ∧ s = 3)) := by
          intro h
          have : fitB d.state s = true := by unfold fitB; simpa using h
          rw [this] at hfit; cases hfit
        refine enterQ (c := cx w 59) Try.func99 rfl rfl rfl rfl ?_
        repeat' (first | ((with_reducible apply oq_id); first | (focus ((with_reducible apply oq_indexAddrN); exact rfl; exact rfl; exact rfl; exact rfl; omega)) | (apply oq_fn; exact rfl; first | exact trivial | (refine ⟨?_, ?_⟩ <;> omega) | (refine ⟨?_, ?_, ?_⟩ <;> omega) | omega | skip) | ((with_reducible apply oq_load); exact rfl; exact rfl) | ((with_reducible apply oq_call (k := 66) (hc := Try.call66)); exact rfl; exact rfl; exact fun D w1 hw1 => HW0 w1)) | ((with_reducible apply tl_id); first | ((with_reducible apply tl_nil)) | ((with_reducible apply u_q); exact rfl; exact rfl; exact rfl; exact rfl) | ((with_reducible apply u_s); exact rfl; exact rfl; exact rfl) | ((with_reducible apply u_skip); exact rfl; exact rfl; exact rfl) | ((with_reducible apply u_splitD); exact rfl; exact rfl; all_goals first | (intro hp; try (exfalso; omega)) | skip) | ((with_reducible apply u_splitN); exact rfl; exact rfl; all_goals first | (intro hp; try (exfalso; omega)) | skip)) | ((with_reducible apply os_id); first | ((with_reducible apply os_x); exact rfl)) | ((with_reducible apply ox_id); first | ((with_reducible apply ox_boxAgg); exact rfl; intro _)) | ((with_reducible apply rd_id); first | (apply Rd.own; (repeat (first | exact P0 | apply P1)); exact rfl; done) | (apply Rd.old; (first | (with_reducible assumption) | exact c0 | exact c1 | exact c2 | exact c3 | exact c4 | exact c5 | exact c6 | exact c7 | exact c8 | exact d0 | exact d1 | exact d2 | exact d3 | exact d4 | exact d5); first | exact List.not_mem_nil | exact m0 | exact m1 | exact m2 | exact m3 | exact m4 | exact m5 | exact m6 | exact m7 | exact m8 | exact m9)) | ((with_reducible apply t_id); first | ((with_reducible apply t_seq)) | (apply t_region; kernel_rfl) | ((with_reducible apply t_condT); exact rfl) | ((with_reducible apply t_condF); exact rfl) | ((with_reducible apply t_condD); exact rfl; all_goals first | (intro hp; try (exfalso; omega)) | skip) | ((with_reducible apply t_ret)) | ((with_reducible apply t_skip))) | with_reducible apply q_thenN | with_reducible apply q_thenR | ((with_reducible apply end_ret)) | exact rvs_nil | ((with_reducible apply rvs_cons)) | ((with_reducible apply rv_tmp); exact rfl))
        all_goals rfl
      | true =>
        have hff : (d.state = 0 ∧ (s = 1 ∨ s = 2)) ∨ (d.state = 1 ∧ s = 3) := by unfold fitB at hfit; simpa using hfit
        refine enterQ (c := cx w 59) Try.func99 rfl rfl rfl rfl ?_
        repeat' (first | ((with_reducible apply oq_id); first | (focus ((with_reducible apply oq_indexAddrN); exact rfl; exact rfl; exact rfl; exact rfl; omega)) | (apply oq_fn; exact rfl; first | exact trivial | (refine ⟨?_, ?_⟩ <;> omega) | (refine ⟨?_, ?_, ?_⟩ <;> omega) | omega | skip) | ((with_reducible apply oq_load); exact rfl; exact rfl) | ((with_reducible apply oq_call (k := 66) (hc := Try.call66)); exact rfl; exact rfl; exact fun D w1 hw1 => HW0 w1)) | ((with_reducible apply tl_id); first | ((with_reducible apply tl_nil)) | ((with_reducible apply u_q); exact rfl; exact rfl; exact rfl; exact rfl) | ((with_reducible apply u_s); exact rfl; exact rfl; exact rfl) | ((with_reducible apply u_skip); exact rfl; exact rfl; exact rfl) | ((with_reducible apply u_splitD); exact rfl; exact rfl; all_goals first | (intro hp; try (exfalso; omega)) | skip) | ((with_reducible apply u_splitN); exact rfl; exact rfl; all_goals first | (intro hp; try (exfalso; omega)) | skip)) | ((with_reducible apply os_id); first | ((with_reducible apply os_x); exact rfl)) | ((with_reducible apply ox_id); first | ((with_reducible apply ox_boxAgg); exact rfl; intro _)) | ((with_reducible apply rd_id); first | (apply Rd.own; (repeat (first | exact P0 | apply P1)); exact rfl; done) | (apply Rd.old; (first | (with_reducible assumption) | exact c0 | exact c1 | exact c2 | exact c3 | exact c4 | exact c5 | exact c6 | exact c7 | exact c8 | exact d0 | exact d1 | exact d2 | exact d3 | exact d4 | exact d5); first | exact List.not_mem_nil | exact m0 | exact m1 | exact m2 | exact m3 | exact m4 | exact m5 | exact m6 | exact m7 | exact m8 | exact m9)) | ((with_reducible apply t_id); first | ((with_reducible apply t_seq)) | (apply t_region; kernel_rfl) | ((with_reducible apply t_condF); exact rfl) | ((with_reducible apply t_condD); exact rfl; all_goals first | (intro hp; try (exfalso; omega)) | skip) | ((with_reducible apply t_ret)) | ((with_reducible apply t_skip))) | with_reducible apply q_thenN | ((with_reducible apply end_ret)) | exact rvs_nil | ((with_reducible apply rvs_cons)) | ((with_reducible apply rv_tmp); exact rfl))
        all_goals rfl
  · have hval : bookedB o.fl o.fee ⟨f, s, k⟩ = false := by unfold bookedB; simp only; rw [if_neg hin]
    rw [hval]
    have hwf : (decide (0 ≤ f) && decide (f ≤ (o.fl.length : Int) - 1)) = false := by
      rw [Bool.eq_false_iff]
      intro h
      simp only [Bool.and_eq_true, decide_eq_true_eq] at h
      omega
    have HW0 := fun w1 => within_calls f 0 ((o.fl.length : Int) - 1) w1
    rw [hwf] at HW0
    refine enterQ (c := cx w 59) Try.func99 rfl rfl rfl rfl ?_
    repeat' (first | ((with_reducible apply oq_id); first | (apply oq_fn; exact rfl; first | exact trivial | (refine ⟨?_, ?_⟩ <;> omega) | (refine ⟨?_, ?_, ?_⟩ <;> omega) | omega | skip) | ((with_reducible apply oq_load); exact rfl; exact rfl) | ((with_reducible apply oq_call (k := 66) (hc := Try.call66)); exact rfl; exact rfl; exact fun D w1 hw1 => HW0 w1)) | ((with_reducible apply tl_id); first | ((with_reducible apply tl_nil)) | ((with_reducible apply u_q); exact rfl; exact rfl; exact rfl; exact rfl) | ((with_reducible apply u_s); exact rfl; exact rfl; exact rfl)) | ((with_reducible apply os_id); first | ((with_reducible apply os_x); exact rfl)) | ((with_reducible apply ox_id); first | ((with_reducible apply ox_boxAgg); exact rfl; intro _)) | ((with_reducible apply rd_id); first | (apply Rd.own; (repeat (first | exact P0 | apply P1)); exact rfl; done)) | ((with_reducible apply t_id); first | ((with_reducible apply t_seq)) | (apply t_region; kernel_rfl) | ((with_reducible apply t_condT); exact rfl) | ((with_reducible apply t_ret))) | with_reducible apply q_thenN | with_reducible apply q_thenR | ((with_reducible apply end_ret)) | exact rvs_nil | ((with_reducible apply rvs_cons)) | ((with_reducible apply rv_tmp); exact rfl))
    all_goals rfl

/-- All bookings are of a departure, what is kept is no more than any price. -/
def BksOk (fl : List Dep) (bk : List Bk) : Prop := ∀ x ∈ bk, 0 ≤ x.flight ∧ x.flight < (fl.length : Int) ∧ 0 ≤ x.kept ∧ x.kept ≤ 1000000
theorem bookedB_ok {fl : List Dep} (hd : DepsOk fl) {fee : Int} (hf : 0 ≤ fee ∧ fee ≤ 100) {x : Bk} (h : bookedB fl fee x = true) : 0 ≤ x.flight ∧ x.flight < (fl.length : Int) ∧ 0 ≤ x.kept ∧ x.kept ≤ 1000000 := by
  unfold bookedB at h
  split at h
  · rename_i hin
    cases hx : fl[x.flight.toNat]? with
    | none => rw [hx] at h; cases h
    | some d =>
      rw [hx] at h
      simp only at h
      have hdi := depOk_in (hd d (List.mem_of_getElem? hx)).1
      have := fee_in (price := d.price) (fee := fee) (by omega) hf
      split at h
      · simp only [Bool.and_eq_true, decide_eq_true_eq] at h
        omega
      · simp only [Bool.and_eq_true, decide_eq_true_eq] at h
        omega
  · cases h
theorem prc_at {fl : List Dep} {x : Bk} {i : Nat} {d : Dep} (h : x.flight = (i : Int)) (hd : fl[i]? = some d) : prc fl x = d.price := by
  unfold prc
  rw [h, Int.toNat_natCast, hd]
def Small (p : Sum4) (k : Nat) : Prop := 0 ≤ p.held ∧ p.held ≤ 1000000 * (k : Int) ∧ 0 ≤ p.earned ∧ p.earned ≤ 1000000 * (k : Int) ∧ 0 ≤ p.kept ∧ p.kept ≤ 1000000 * (k : Int) ∧ -1000000 * (k : Int) ≤ p.back ∧ p.back ≤ 1000000 * (k : Int)
theorem sums_in {fl : List Dep} (hd : DepsOk fl) {bk : List Bk} (hb : BksOk fl bk) : ∀ {k : Nat}, k ≤ bk.length → Small (sumsTo fl bk k) k
  | 0, _ => by unfold sumsTo Small; simp
  | k + 1, h => by
    have ih := sums_in hd hb (k := k) (by omega)
    have hx : bk[k]? = some bk[k] := List.getElem?_eq_getElem (by omega)
    have hxb := hb bk[k] (List.getElem_mem (by omega))
    rw [sums_succ hx]
    have hp : 0 ≤ prc fl bk[k] ∧ prc fl bk[k] ≤ 1000000 := by
      unfold prc
      split
      · rename_i d hd2
        have := depOk_in (hd d (List.mem_of_getElem? hd2)).1
        omega
      · omega
    obtain ⟨a, b, c, d⟩ : ∃ q, sumsTo fl bk k = q := ⟨_, rfl⟩
    unfold Small at ih ⊢
    unfold addB
    split
    · simp only; omega
    · split
      · simp only; omega
      · split
        · simp only; omega
        · omega

theorem refSums_calls (o : Off) (A : Option Addr) (cf : Nat) (B : Option Addr) (cb : Nat) (w : World) (hA : RdS w 4 A o.fl.length (o.fl.map depCells)) (hB : RdS w 3 B o.bk.length (o.bk.map bkCells)) (hd : DepsOk o.fl) (hb : BksOk o.fl o.bk) (hn : o.bk.length ≤ 1000) : Calls Try.prog 69 #[.agg ⟨offCells o A cf B cb⟩] w fun e w' => e = .returned (.tuple #[.int .i64 (sumsV o.fl o.bk).held, .int .i64 (sumsV o.fl o.bk).earned, .int .i64 (sumsV o.fl o.bk).kept, .int .i64 (sumsV o.fl o.bk).back]) ∧ Ext w w' := by
  refine enterQ (c := cx w 66) Try.func69 rfl rfl rfl rfl ?_
  repeat' (first | ((with_reducible apply oq_id); first | (apply oq_fn; exact rfl; first | exact trivial | (refine ⟨?_, ?_⟩ <;> omega) | (refine ⟨?_, ?_, ?_⟩ <;> omega) | omega | skip)) | ((with_reducible apply tl_id); first | ((with_reducible apply tl_nil)) | ((with_reducible apply u_q); exact rfl; exact rfl; exact rfl; exact rfl) | ((with_reducible apply u_s); exact rfl; exact rfl; exact rfl)) | ((with_reducible apply os_id); first | ((with_reducible apply os_x); exact rfl)) | ((with_reducible apply ox_id); first | ((with_reducible apply ox_boxAgg); exact rfl; intro _)) | ((with_reducible apply t_id); first | ((with_reducible apply t_seq)) | (apply t_region; kernel_rfl) | ((with_reducible apply t_block))) | with_reducible apply q_thenN)
  apply t_loopK (ι := Nat) [1, 2, 3, 4, 5, 62, 63, 64, 65] (fun k => [(10, .int .i64 (k : Nat)), (6, .int .i64 (sumsTo o.fl o.bk k).held), (7, .int .i64 (sumsTo o.fl o.bk k).earned), (8, .int .i64 (sumsTo o.fl o.bk k).kept), (9, .int .i64 (sumsTo o.fl o.bk k).back)]) (fun _ => []) (fun k => k ≤ o.bk.length) (fun k => o.bk.length - k) (0)
  (repeat (first | exact KeepF.nil | (apply KeepF.cons; exact rfl) | apply KeepF.skip))
  (repeat (first | exact FrSub.nil | (apply FrSub.cons; exact rfl)))
  (repeat (first | exact HpSub.refl _ | (apply HpSub.consE; (repeat (first | exact P0 | apply P1)); exact rfl) | exact HpSub.nil))
  · exact Nat.zero_le _
  rintro k hk
  try simp only [List.cons_append, List.nil_append]
  have hin := sums_in hd hb hk
  obtain ⟨S, hS⟩ : ∃ q, sumsTo o.fl o.bk k = q := ⟨_, rfl⟩
  rw [hS] at hin ⊢
  obtain ⟨p1, p2, p3, p4⟩ := S
  unfold Small at hin
  simp only at hin ⊢
  by_cases hlt : k < o.bk.length
  · obtain ⟨b1, o1, x, hB1, _, hx, c0, c1, c2⟩ := bk_read hB hlt
    have hxb := hb x (List.mem_of_getElem? hx)
    obtain ⟨i, hfi⟩ : ∃ i : Nat, x.flight = (i : Int) := ⟨x.flight.toNat, by omega⟩
    obtain ⟨b2, o2, d, hA1, _, hd1, d0, d1, d2, d3⟩ := dep_read hA (show i < o.fl.length by omega)
    have hdi := depOk_in (hd d (List.mem_of_getElem? hd1)).1
    have hpr := prc_at hfi hd1
    rw [hfi] at c0
    subst hA1 hB1
    by_cases h1 : x.state = 1
    · have hs : sumsTo o.fl o.bk (k + 1) = ⟨p1 + d.price, p2, p3, p4⟩ := by rw [sums_succ hx, hS]; unfold addB; simp [h1, hpr]
      repeat' (first | ((with_reducible apply oq_id); first | (focus ((with_reducible apply oq_indexAddrN); exact rfl; exact rfl; exact rfl; exact rfl; omega)) | (apply oq_fn; exact rfl; first | exact trivial | (refine ⟨?_, ?_⟩ <;> omega) | (refine ⟨?_, ?_, ?_⟩ <;> omega) | omega | skip) | ((with_reducible apply oq_load); exact rfl; exact rfl) | ((with_reducible apply oq_loadAgg); exact rfl; exact rfl)) | ((with_reducible apply tl_id); first | ((with_reducible apply tl_nil)) | ((with_reducible apply u_q); exact rfl; exact rfl; exact rfl; exact rfl) | ((with_reducible apply u_s0); exact rfl; exact rfl) | ((with_reducible apply u_s); exact rfl; exact rfl; exact rfl) | ((with_reducible apply u_skip); exact rfl; exact rfl; exact rfl) | ((with_reducible apply u_splitD); exact rfl; exact rfl; all_goals first | (intro hp; try (exfalso; omega)) | skip)) | ((with_reducible apply os_id); first | ((with_reducible apply os_x); exact rfl) | ((with_reducible apply os_storeAgg); exact rfl; exact rfl; exact rfl; exact rfl; exact rfl)) | ((with_reducible apply ox_id); first | ((with_reducible apply ox_alloc); exact rfl; intro _)) | ((with_reducible apply rd_id); first | (apply Rd.own; (repeat (first | exact P0 | apply P1)); exact rfl; done) | (apply Rd.old; (first | (with_reducible assumption) | exact c0 | exact c1 | exact c2 | exact c3 | exact c4 | exact c5 | exact c6 | exact c7 | exact c8 | exact d0 | exact d1 | exact d2 | exact d3 | exact d4 | exact d5); first | exact List.not_mem_nil | exact m0 | exact m1 | exact m2 | exact m3 | exact m4 | exact m5 | exact m6 | exact m7 | exact m8 | exact m9)) | ((with_reducible apply t_id); first | ((with_reducible apply t_seq)) | (apply t_region; kernel_rfl) | ((with_reducible apply t_condT); exact rfl) | ((with_reducible apply t_condD); exact rfl; all_goals first | (intro hp; try (exfalso; omega)) | skip) | ((with_reducible apply t_skip)) | ((with_reducible apply t_block))) | with_reducible apply q_thenN | with_reducible apply q_blockN | exact P0 | exact Rdn.zero | apply Rdn.succ | ((with_reducible apply Norm.nil); exact rfl) | ((with_reducible apply Norm.cons); exact rfl) | exact Nat.le_of_ble_eq_true rfl)
      all_goals (refine ⟨k + 1, by omega, by omega, ?_, ?_⟩)
      all_goals ((try simp only [List.cons_append, List.nil_append]); (repeat' (first | exact FrSub.nil | (apply FrSub.cons; exact rfl) | (apply FrSub.consE; exact rfl; (rw [hs])) | (apply HpSub.consE; (repeat (first | exact P0 | apply P1)); exact rfl) | exact HpSub.nil)))
    · by_cases h2 : x.state = 2
      · have hs : sumsTo o.fl o.bk (k + 1) = ⟨p1 + d.price, p2, p3, p4⟩ := by rw [sums_succ hx, hS]; unfold addB; simp [h2, hpr]
        repeat' (first | ((with_reducible apply oq_id); first | (focus ((with_reducible apply oq_indexAddrN); exact rfl; exact rfl; exact rfl; exact rfl; omega)) | (apply oq_fn; exact rfl; first | exact trivial | (refine ⟨?_, ?_⟩ <;> omega) | (refine ⟨?_, ?_, ?_⟩ <;> omega) | omega | skip) | ((with_reducible apply oq_load); exact rfl; exact rfl) | ((with_reducible apply oq_loadAgg); exact rfl; exact rfl)) | ((with_reducible apply tl_id); first | ((with_reducible apply tl_nil)) | ((with_reducible apply u_q); exact rfl; exact rfl; exact rfl; exact rfl) | ((with_reducible apply u_s0); exact rfl; exact rfl) | ((with_reducible apply u_s); exact rfl; exact rfl; exact rfl) | ((with_reducible apply u_splitD); exact rfl; exact rfl; all_goals first | (intro hp; try (exfalso; omega)) | skip)) | ((with_reducible apply os_id); first | ((with_reducible apply os_x); exact rfl) | ((with_reducible apply os_storeAgg); exact rfl; exact rfl; exact rfl; exact rfl; exact rfl)) | ((with_reducible apply ox_id); first | ((with_reducible apply ox_alloc); exact rfl; intro _)) | ((with_reducible apply rd_id); first | (apply Rd.own; (repeat (first | exact P0 | apply P1)); exact rfl; done) | (apply Rd.old; (first | (with_reducible assumption) | exact c0 | exact c1 | exact c2 | exact c3 | exact c4 | exact c5 | exact c6 | exact c7 | exact c8 | exact d0 | exact d1 | exact d2 | exact d3 | exact d4 | exact d5); first | exact List.not_mem_nil | exact m0 | exact m1 | exact m2 | exact m3 | exact m4 | exact m5 | exact m6 | exact m7 | exact m8 | exact m9)) | ((with_reducible apply t_id); first | ((with_reducible apply t_seq)) | (apply t_region; kernel_rfl) | ((with_reducible apply t_condD); exact rfl; all_goals first | (intro hp; try (exfalso; omega)) | skip) | ((with_reducible apply t_skip)) | ((with_reducible apply t_block))) | with_reducible apply q_thenN | with_reducible apply q_blockN | exact P0 | exact Rdn.zero | apply Rdn.succ | ((with_reducible apply Norm.nil); exact rfl) | ((with_reducible apply Norm.cons); exact rfl) | exact Nat.le_of_ble_eq_true rfl)
        all_goals (refine ⟨k + 1, by omega, by omega, ?_, ?_⟩)
        all_goals ((try simp only [List.cons_append, List.nil_append]); (repeat' (first | exact FrSub.nil | (apply FrSub.cons; exact rfl) | (apply FrSub.consE; exact rfl; (rw [hs])) | (apply HpSub.consE; (repeat (first | exact P0 | apply P1)); exact rfl) | exact HpSub.nil)))
      · by_cases h3 : x.state = 3
        · have hs : sumsTo o.fl o.bk (k + 1) = ⟨p1, p2 + d.price, p3, p4⟩ := by rw [sums_succ hx, hS]; unfold addB; simp [h3, hpr]
          repeat' (first | ((with_reducible apply oq_id); first | (focus ((with_reducible apply oq_indexAddrN); exact rfl; exact rfl; exact rfl; exact rfl; omega)) | (apply oq_fn; exact rfl; first | exact trivial | (refine ⟨?_, ?_⟩ <;> omega) | (refine ⟨?_, ?_, ?_⟩ <;> omega) | omega | skip) | ((with_reducible apply oq_load); exact rfl; exact rfl) | ((with_reducible apply oq_loadAgg); exact rfl; exact rfl)) | ((with_reducible apply tl_id); first | ((with_reducible apply tl_nil)) | ((with_reducible apply u_q); exact rfl; exact rfl; exact rfl; exact rfl) | ((with_reducible apply u_s0); exact rfl; exact rfl) | ((with_reducible apply u_s); exact rfl; exact rfl; exact rfl) | ((with_reducible apply u_splitD); exact rfl; exact rfl; all_goals first | (intro hp; try (exfalso; omega)) | skip)) | ((with_reducible apply os_id); first | ((with_reducible apply os_x); exact rfl) | ((with_reducible apply os_storeAgg); exact rfl; exact rfl; exact rfl; exact rfl; exact rfl)) | ((with_reducible apply ox_id); first | ((with_reducible apply ox_alloc); exact rfl; intro _)) | ((with_reducible apply rd_id); first | (apply Rd.own; (repeat (first | exact P0 | apply P1)); exact rfl; done) | (apply Rd.old; (first | (with_reducible assumption) | exact c0 | exact c1 | exact c2 | exact c3 | exact c4 | exact c5 | exact c6 | exact c7 | exact c8 | exact d0 | exact d1 | exact d2 | exact d3 | exact d4 | exact d5); first | exact List.not_mem_nil | exact m0 | exact m1 | exact m2 | exact m3 | exact m4 | exact m5 | exact m6 | exact m7 | exact m8 | exact m9)) | ((with_reducible apply t_id); first | ((with_reducible apply t_seq)) | (apply t_region; kernel_rfl) | ((with_reducible apply t_condD); exact rfl; all_goals first | (intro hp; try (exfalso; omega)) | skip) | ((with_reducible apply t_skip)) | ((with_reducible apply t_block))) | with_reducible apply q_thenN | with_reducible apply q_blockN | exact P0 | exact Rdn.zero | apply Rdn.succ | ((with_reducible apply Norm.nil); exact rfl) | ((with_reducible apply Norm.cons); exact rfl) | exact Nat.le_of_ble_eq_true rfl)
          all_goals (refine ⟨k + 1, by omega, by omega, ?_, ?_⟩)
          all_goals ((try simp only [List.cons_append, List.nil_append]); (repeat' (first | exact FrSub.nil | (apply FrSub.cons; exact rfl) | (apply FrSub.consE; exact rfl; (rw [hs])) | (apply HpSub.consE; (repeat (first | exact P0 | apply P1)); exact rfl) | exact HpSub.nil)))
        · by_cases h4 : x.state = 4
          · have hs : sumsTo o.fl o.bk (k + 1) = ⟨p1, p2, p3 + x.kept, p4 + (d.price - x.kept)⟩ := by rw [sums_succ hx, hS]; unfold addB; simp [h4, hpr]
            repeat' (first | ((with_reducible apply oq_id); first | (focus ((with_reducible apply oq_indexAddrN); exact rfl; exact rfl; exact rfl; exact rfl; omega)) | (apply oq_fn; exact rfl; first | exact trivial | (refine ⟨?_, ?_⟩ <;> omega) | (refine ⟨?_, ?_, ?_⟩ <;> omega) | omega | skip) | ((with_reducible apply oq_load); exact rfl; exact rfl) | ((with_reducible apply oq_loadAgg); exact rfl; exact rfl)) | ((with_reducible apply tl_id); first | ((with_reducible apply tl_nil)) | ((with_reducible apply u_q); exact rfl; exact rfl; exact rfl; exact rfl) | ((with_reducible apply u_s0); exact rfl; exact rfl) | ((with_reducible apply u_s); exact rfl; exact rfl; exact rfl) | ((with_reducible apply u_splitD); exact rfl; exact rfl; all_goals first | (intro hp; try (exfalso; omega)) | skip)) | ((with_reducible apply os_id); first | ((with_reducible apply os_x); exact rfl) | ((with_reducible apply os_storeAgg); exact rfl; exact rfl; exact rfl; exact rfl; exact rfl)) | ((with_reducible apply ox_id); first | ((with_reducible apply ox_alloc); exact rfl; intro _)) | ((with_reducible apply rd_id); first | (apply Rd.own; (repeat (first | exact P0 | apply P1)); exact rfl; done) | (apply Rd.old; (first | (with_reducible assumption) | exact c0 | exact c1 | exact c2 | exact c3 | exact c4 | exact c5 | exact c6 | exact c7 | exact c8 | exact d0 | exact d1 | exact d2 | exact d3 | exact d4 | exact d5); first | exact List.not_mem_nil | exact m0 | exact m1 | exact m2 | exact m3 | exact m4 | exact m5 | exact m6 | exact m7 | exact m8 | exact m9)) | ((with_reducible apply t_id); first | ((with_reducible apply t_seq)) | (apply t_region; kernel_rfl) | ((with_reducible apply t_condD); exact rfl; all_goals first | (intro hp; try (exfalso; omega)) | skip) | ((with_reducible apply t_skip)) | ((with_reducible apply t_block))) | with_reducible apply q_thenN | with_reducible apply q_blockN | exact P0 | exact Rdn.zero | apply Rdn.succ | ((with_reducible apply Norm.nil); exact rfl) | ((with_reducible apply Norm.cons); exact rfl) | exact Nat.le_of_ble_eq_true rfl)
            all_goals (refine ⟨k + 1, by omega, by omega, ?_, ?_⟩)
            all_goals ((try simp only [List.cons_append, List.nil_append]); (repeat' (first | exact FrSub.nil | (apply FrSub.cons; exact rfl) | (apply FrSub.consE; exact rfl; (rw [hs])) | (apply HpSub.consE; (repeat (first | exact P0 | apply P1)); exact rfl) | exact HpSub.nil)))
          · have hs : sumsTo o.fl o.bk (k + 1) = ⟨p1, p2, p3, p4⟩ := by rw [sums_succ hx, hS]; unfold addB; simp [h1, h2, h3, h4, hpr]
            repeat' (first | ((with_reducible apply oq_id); first | (focus ((with_reducible apply oq_indexAddrN); exact rfl; exact rfl; exact rfl; exact rfl; omega)) | (apply oq_fn; exact rfl; first | exact trivial | (refine ⟨?_, ?_⟩ <;> omega) | (refine ⟨?_, ?_, ?_⟩ <;> omega) | omega | skip) | ((with_reducible apply oq_load); exact rfl; exact rfl) | ((with_reducible apply oq_loadAgg); exact rfl; exact rfl)) | ((with_reducible apply tl_id); first | ((with_reducible apply tl_nil)) | ((with_reducible apply u_q); exact rfl; exact rfl; exact rfl; exact rfl) | ((with_reducible apply u_s0); exact rfl; exact rfl) | ((with_reducible apply u_s); exact rfl; exact rfl; exact rfl) | ((with_reducible apply u_splitD); exact rfl; exact rfl; all_goals first | (intro hp; try (exfalso; omega)) | skip)) | ((with_reducible apply os_id); first | ((with_reducible apply os_x); exact rfl) | ((with_reducible apply os_storeAgg); exact rfl; exact rfl; exact rfl; exact rfl; exact rfl)) | ((with_reducible apply ox_id); first | ((with_reducible apply ox_alloc); exact rfl; intro _)) | ((with_reducible apply rd_id); first | (apply Rd.own; (repeat (first | exact P0 | apply P1)); exact rfl; done) | (apply Rd.old; (first | (with_reducible assumption) | exact c0 | exact c1 | exact c2 | exact c3 | exact c4 | exact c5 | exact c6 | exact c7 | exact c8 | exact d0 | exact d1 | exact d2 | exact d3 | exact d4 | exact d5); first | exact List.not_mem_nil | exact m0 | exact m1 | exact m2 | exact m3 | exact m4 | exact m5 | exact m6 | exact m7 | exact m8 | exact m9)) | ((with_reducible apply t_id); first | ((with_reducible apply t_seq)) | (apply t_region; kernel_rfl) | ((with_reducible apply t_condD); exact rfl; all_goals first | (intro hp; try (exfalso; omega)) | skip) | ((with_reducible apply t_skip)) | ((with_reducible apply t_block))) | with_reducible apply q_thenN | with_reducible apply q_blockN | exact P0 | exact Rdn.zero | apply Rdn.succ | ((with_reducible apply Norm.nil); exact rfl) | ((with_reducible apply Norm.cons); exact rfl) | exact Nat.le_of_ble_eq_true rfl)
            all_goals (refine ⟨k + 1, by omega, by omega, ?_, ?_⟩)
            all_goals ((try simp only [List.cons_append, List.nil_append]); (repeat' (first | exact FrSub.nil | (apply FrSub.cons; exact rfl) | (apply FrSub.consE; exact rfl; (rw [hs])) | (apply HpSub.consE; (repeat (first | exact P0 | apply P1)); exact rfl) | exact HpSub.nil)))
  · repeat' (first | ((with_reducible apply oq_id); first | (apply oq_fn; exact rfl; first | exact trivial | (refine ⟨?_, ?_⟩ <;> omega) | (refine ⟨?_, ?_, ?_⟩ <;> omega) | omega | skip) | ((with_reducible apply oq_load); exact rfl; exact rfl)) | ((with_reducible apply tl_id); first | ((with_reducible apply tl_nil)) | ((with_reducible apply u_q); exact rfl; exact rfl; exact rfl; exact rfl)) | ((with_reducible apply rd_id); first | (apply Rd.own; (repeat (first | exact P0 | apply P1)); exact rfl; done)) | ((with_reducible apply t_id); first | ((with_reducible apply t_seq)) | (apply t_region; kernel_rfl) | ((with_reducible apply t_condD); exact rfl; all_goals first | (intro hp; try (exfalso; omega)) | skip) | ((with_reducible apply t_ret)) | ((with_reducible apply t_exit))) | with_reducible apply q_thenN | with_reducible apply q_thenE | ((with_reducible apply q_blockE); exact rfl) | ((with_reducible apply end_ret)) | exact rvs_nil | ((with_reducible apply rvs_cons)) | ((with_reducible apply rv_tmp); exact rfl))
    all_goals (rw [← sums_all (show o.bk.length ≤ k by omega), hS]; rfl)

end Go.Proofs.Ytmlmgipngbndgaa
/- The office, the reference's: is it valid? Check, Counts, Purse, Turn. -/
namespace Go.Proofs.Ytmlmgipngbndgaa
open Go.RowKit
attribute [local irreducible] OQ OS OX Rd T TL GX GL AL AI RV wpG SAny Calls
set_option maxRecDepth 100000
set_option maxHeartbeats 2000000
set_option linter.unusedVariables false
set_option linter.unusedSimpArgs false

theorem headB_in {o : Off} (h : headB o = true) : 0 ≤ o.now ∧ o.now ≤ 1000000 ∧ 0 ≤ o.notice ∧ o.notice ≤ 1000000 ∧ 0 ≤ o.fee ∧ o.fee ≤ 100 ∧ o.fl.length ≤ 10 ∧ o.bk.length ≤ 120 := by
  unfold headB at h
  simpa using h
theorem allFrom_t {lo hi z : Int} (h : lo ≤ z ∧ z ≤ hi) : allFrom lo hi [z] = true := by unfold allFrom; simp [h.1, h.2]
theorem allFrom_f {lo hi z : Int} (h : ¬ (lo ≤ z ∧ z ≤ hi)) : allFrom lo hi [z] = false := by
  unfold allFrom
  rw [Bool.eq_false_iff]
  intro h2
  simp only [List.all_cons, List.all_nil, Bool.and_true, Bool.and_eq_true, decide_eq_true_eq] at h2
  exact h h2
theorem all_no {α : Type} {p : α → Bool} {l : List α} {k : Nat} {x : α} (h : l[k]? = some x) (hp : p x = false) : l.all p = false := by
  rw [Bool.eq_false_iff, Ne, List.all_eq_true]
  intro h2
  rw [h2 x (List.mem_of_getElem? h)] at hp; cases hp
theorem all_yes {α : Type} {p : α → Bool} {l : List α} {k : Nat} (hk : l.length ≤ k) (h : ∀ x ∈ l.take k, p x = true) : l.all p = true := by
  rw [List.all_eq_true]
  exact fun y hy => h y (by rw [List.take_of_length_le hk]; exact hy)
theorem refOffice_calls (o : Off) (A : Option Addr) (cf : Nat) (B : Option Addr) (cb : Nat) (w : World) (hA : RdS w 4 A o.fl.length (o.fl.map depCells)) (hB : RdS w 3 B o.bk.length (o.bk.map bkCells)) (hu : ∀ d ∈ o.fl, 0 ≤ d.state) (hn : o.fl.length ≤ 1000000) (hn2 : o.bk.length ≤ 1000000) : Calls Try.prog 65 #[.agg ⟨offCells o A cf B cb⟩] w fun e w' => e = .returned (.bool (officeB o)) ∧ Ext w w' := by
  by_cases hh : headB o = true
  · obtain ⟨a1, a2, b1, b2, f1, f2, nf, nb⟩ := headB_in hh
    have HW1 := fun w1 => withinQ (allFrom_t (lo := 0) (hi := 1000000) (z := o.now) ⟨a1, a2⟩) w1
    have HW2 := fun w1 => withinQ (allFrom_t (lo := 0) (hi := 1000000) (z := o.notice) ⟨b1, b2⟩) w1
    have HW3 := fun w1 => withinQ (allFrom_t (lo := 0) (hi := 100) (z := o.fee) ⟨f1, f2⟩) w1
    refine enterQ (c := cx w 129) Try.func65 rfl rfl rfl rfl ?_
    repeat' (first | ((with_reducible apply oq_id); first | (apply oq_fn; exact rfl; first | exact trivial | (refine ⟨?_, ?_⟩ <;> omega) | (refine ⟨?_, ?_, ?_⟩ <;> omega) | omega | skip) | ((with_reducible apply oq_load); exact rfl; exact rfl) | ((with_reducible apply oq_call (k := 66) (hc := Try.call66)); exact rfl; exact rfl; exact fun D w1 hw1 => HW1 w1) | ((with_reducible apply oq_call (k := 66) (hc := Try.call66)); exact rfl; exact rfl; exact fun D w1 hw1 => HW2 w1) | ((with_reducible apply oq_call (k := 66) (hc := Try.call66)); exact rfl; exact rfl; exact fun D w1 hw1 => HW3 w1)) | ((with_reducible apply tl_id); first | ((with_reducible apply tl_nil)) | ((with_reducible apply u_q); exact rfl; exact rfl; exact rfl; exact rfl) | ((with_reducible apply u_s); exact rfl; exact rfl; exact rfl) | ((with_reducible apply u_splitD); exact rfl; exact rfl; all_goals first | (intro hp; try (exfalso; omega)) | skip)) | ((with_reducible apply os_id); first | ((with_reducible apply os_x); exact rfl)) | ((with_reducible apply ox_id); first | ((with_reducible apply ox_boxAgg); exact rfl; intro _)) | ((with_reducible apply rd_id); first | (apply Rd.own; (repeat (first | exact P0 | apply P1)); exact rfl; done)) | ((with_reducible apply t_id); first | ((with_reducible apply t_seq)) | (apply t_region; kernel_rfl) | ((with_reducible apply t_condD); exact rfl; all_goals first | (intro hp; try (exfalso; omega)) | skip) | ((with_reducible apply t_skip)) | ((with_reducible apply t_block))) | with_reducible apply q_thenN)
    apply t_loopK (ι := Nat) [1, 4, 5, 6, 7, 8, 9, 10, 53, 54, 55, 56, 57, 58, 59, 60, 61, 62, 63, 64, 65, 66, 67, 68, 69, 70, 71, 72, 73, 74, 75, 76, 77, 78, 79, 80, 81, 82, 83, 84, 85, 86, 87, 88, 89, 90, 91, 92, 93, 94, 95, 96, 97, 98, 99, 100, 101, 102, 103, 104, 105, 106, 107, 108, 109, 110, 111, 112, 113, 114, 115, 116, 117, 118, 119, 120, 121, 122, 123, 124, 125, 126, 127, 128] (fun k => [(3, .int .i64 (k : Nat))]) (fun _ => []) (fun k => k ≤ o.fl.length ∧ ∀ d ∈ o.fl.take k, depOk d = true) (fun k => o.fl.length - k) (0)
    (repeat (first | exact KeepF.nil | (apply KeepF.cons; exact rfl) | apply KeepF.skip))
    (repeat (first | exact FrSub.nil | (apply FrSub.cons; exact rfl)))
    (repeat (first | exact HpSub.refl _ | (apply HpSub.consE; (repeat (first | exact P0 | apply P1)); exact rfl) | exact HpSub.nil))
    · exact ⟨Nat.zero_le _, by simp⟩
    rintro k ⟨hk, hkp⟩
    try simp only [List.cons_append, List.nil_append]
    by_cases hlt : k < o.fl.length
    · obtain ⟨p1, p2, x, hA1, _, hx, c0, c1, c2, c3⟩ := dep_read hA hlt
      have HX := fun w1 => departure_calls x.seats x.price x.leaves x.state w1
      subst hA1
      cases hpx : depOk x with
      | false =>
        rw [show depOk ⟨x.seats, x.price, x.leaves, x.state⟩ = false from hpx] at HX
        repeat' (first | ((with_reducible apply oq_id); first | (focus ((with_reducible apply oq_indexAddrN); exact rfl; exact rfl; exact rfl; exact rfl; omega)) | (apply oq_fn; exact rfl; first | exact trivial | (refine ⟨?_, ?_⟩ <;> omega) | (refine ⟨?_, ?_, ?_⟩ <;> omega) | omega | skip) | ((with_reducible apply oq_load); exact rfl; exact rfl) | ((with_reducible apply oq_loadAgg); exact rfl; exact rfl) | ((with_reducible apply oq_call (k := 98) (hc := Try.call98)); exact rfl; exact rfl; exact fun D w1 hw1 => HX w1)) | ((with_reducible apply tl_id); first | ((with_reducible apply tl_nil)) | ((with_reducible apply u_q); exact rfl; exact rfl; exact rfl; exact rfl)) | ((with_reducible apply rd_id); first | (apply Rd.own; (repeat (first | exact P0 | apply P1)); exact rfl; done) | (apply Rd.old; (first | (with_reducible assumption) | exact c0 | exact c1 | exact c2 | exact c3 | exact c4 | exact c5 | exact c6 | exact c7 | exact c8 | exact d0 | exact d1 | exact d2 | exact d3 | exact d4 | exact d5); first | exact List.not_mem_nil | exact m0 | exact m1 | exact m2 | exact m3 | exact m4 | exact m5 | exact m6 | exact m7 | exact m8 | exact m9)) | ((with_reducible apply t_id); first | ((with_reducible apply t_seq)) | (apply t_region; kernel_rfl) | ((with_reducible apply t_condT); exact rfl) | ((with_reducible apply t_condD); exact rfl; all_goals first | (intro hp; try (exfalso; omega)) | skip) | ((with_reducible apply t_ret)) | ((with_reducible apply t_skip)) | ((with_reducible apply t_block))) | with_reducible apply q_thenN | with_reducible apply q_thenR | with_reducible apply q_blockR | exact Rdn.zero | apply Rdn.succ | ((with_reducible apply end_ret)) | exact rvs_nil | ((with_reducible apply rvs_cons)) | ((with_reducible apply rv_tmp); exact rfl))
        all_goals (unfold officeB; rw [all_no hx hpx]; simp; rfl)
      | true =>
        rw [show depOk ⟨x.seats, x.price, x.leaves, x.state⟩ = true from hpx] at HX
        repeat' (first | ((with_reducible apply oq_id); first | (focus ((with_reducible apply oq_indexAddrN); exact rfl; exact rfl; exact rfl; exact rfl; omega)) | (apply oq_fn; exact rfl; first | exact trivial | (refine ⟨?_, ?_⟩ <;> omega) | (refine ⟨?_, ?_, ?_⟩ <;> omega) | omega | skip) | ((with_reducible apply oq_load); exact rfl; exact rfl) | ((with_reducible apply oq_loadAgg); exact rfl; exact rfl) | ((with_reducible apply oq_call (k := 98) (hc := Try.call98)); exact rfl; exact rfl; exact fun D w1 hw1 => HX w1)) | ((with_reducible apply tl_id); first | ((with_reducible apply tl_nil)) | ((with_reducible apply u_q); exact rfl; exact rfl; exact rfl; exact rfl)) | ((with_reducible apply rd_id); first | (apply Rd.own; (repeat (first | exact P0 | apply P1)); exact rfl; done) | (apply Rd.old; (first | (with_reducible assumption) | exact c0 | exact c1 | exact c2 | exact c3 | exact c4 | exact c5 | exact c6 | exact c7 | exact c8 | exact d0 | exact d1 | exact d2 | exact d3 | exact d4 | exact d5); first | exact List.not_mem_nil | exact m0 | exact m1 | exact m2 | exact m3 | exact m4 | exact m5 | exact m6 | exact m7 | exact m8 | exact m9)) | ((with_reducible apply t_id); first | ((with_reducible apply t_seq)) | (apply t_region; kernel_rfl) | ((with_reducible apply t_condF); exact rfl) | ((with_reducible apply t_condD); exact rfl; all_goals first | (intro hp; try (exfalso; omega)) | skip) | ((with_reducible apply t_skip)) | ((with_reducible apply t_block))) | with_reducible apply q_thenN | with_reducible apply q_blockN | exact Rdn.zero | apply Rdn.succ)
        all_goals (refine ⟨k + 1, ⟨by omega, fun y hy => ?_⟩, by omega, ?_, ?_⟩)
        · rw [List.take_add_one, hx, List.mem_append] at hy
          rcases hy with hy | hy
          · exact hkp y hy
          · obtain rfl : y = x := by simpa using hy
            exact hpx
        · try simp only [List.cons_append, List.nil_append]
          (repeat (first | exact FrSub.nil | (apply FrSub.cons; exact rfl)))
        · try simp only [List.cons_append, List.nil_append]
          (repeat (first | exact HpSub.refl _ | (apply HpSub.consE; (repeat (first | exact P0 | apply P1)); exact rfl) | exact HpSub.nil))
    · have hda : o.fl.all depOk = true := all_yes (by omega) hkp
      have hd : DepsOk o.fl := fun d hdm => ⟨List.all_eq_true.1 hda d hdm, hu d hdm⟩
      clear hkp HW1 HW2 HW3
      repeat' (first | ((with_reducible apply oq_id); first | (apply oq_fn; exact rfl; first | exact trivial | (refine ⟨?_, ?_⟩ <;> omega) | (refine ⟨?_, ?_, ?_⟩ <;> omega) | omega | skip) | ((with_reducible apply oq_load); exact rfl; exact rfl)) | ((with_reducible apply tl_id); first | ((with_reducible apply tl_nil)) | ((with_reducible apply u_q); exact rfl; exact rfl; exact rfl; exact rfl)) | ((with_reducible apply rd_id); first | (apply Rd.own; (repeat (first | exact P0 | apply P1)); exact rfl; done)) | ((with_reducible apply t_id); first | ((with_reducible apply t_seq)) | (apply t_region; kernel_rfl) | ((with_reducible apply t_condD); exact rfl; all_goals first | (intro hp; try (exfalso; omega)) | skip) | ((with_reducible apply t_exit)) | ((with_reducible apply t_block))) | with_reducible apply q_thenN | with_reducible apply q_thenE | ((with_reducible apply q_blockE); exact rfl))
      apply t_loopK (ι := Nat) [1, 5, 6, 7, 8, 9, 10, 68, 69, 70, 71, 72, 73, 74, 75, 76, 77, 78, 79, 80, 81, 82, 83, 84, 85, 86, 87, 88, 89, 90, 91, 92, 93, 94, 95, 96, 97, 98, 99, 100, 101, 102, 103, 104, 105, 106, 107, 108, 109, 110, 111, 112, 113, 114, 115, 116, 117, 118, 119, 120, 121, 122, 123, 124, 125, 126, 127, 128] (fun k => [(4, .int .i64 (k : Nat))]) (fun _ => []) (fun k => k ≤ o.bk.length ∧ ∀ x ∈ o.bk.take k, bookedB o.fl o.fee x = true) (fun k => o.bk.length - k) (0)
      (repeat (first | exact KeepF.nil | (apply KeepF.cons; exact rfl) | apply KeepF.skip))
      (repeat (first | exact FrSub.nil | (apply FrSub.cons; exact rfl)))
      (repeat (first | exact HpSub.refl _ | (apply HpSub.consE; (repeat (first | exact P0 | apply P1)); exact rfl) | exact HpSub.nil))
      · exact ⟨Nat.zero_le _, by simp⟩
      rintro k ⟨hk, hkp⟩
      try simp only [List.cons_append, List.nil_append]
      by_cases hlt : k < o.bk.length
      · obtain ⟨p1, p2, x, hB1, _, hx, c0, c1, c2⟩ := bk_read hB hlt
        have HX := fun w1 (hx1 : Ext w w1) => booked_calls o A cf B cb w1 (hA.ext hx1) (hB.ext hx1) hd ⟨f1, f2⟩ (by omega) x.flight x.state x.kept
        subst hB1
        cases hpx : bookedB o.fl o.fee x with
        | false =>
          rw [show bookedB o.fl o.fee ⟨x.flight, x.state, x.kept⟩ = false from hpx] at HX
          repeat' (first | ((with_reducible apply oq_id); first | (focus ((with_reducible apply oq_indexAddrN); exact rfl; exact rfl; exact rfl; exact rfl; omega)) | (apply oq_fn; exact rfl; first | exact trivial | (refine ⟨?_, ?_⟩ <;> omega) | (refine ⟨?_, ?_, ?_⟩ <;> omega) | omega | skip) | ((with_reducible apply oq_load); exact rfl; exact rfl) | ((with_reducible apply oq_loadAgg); exact rfl; exact rfl) | ((with_reducible apply oq_call (k := 99) (hc := Try.call99)); exact rfl; exact rfl; exact fun D w1 hw1 => HX w1 hw1.ext.ext)) | ((with_reducible apply tl_id); first | ((with_reducible apply tl_nil)) | ((with_reducible apply u_q); exact rfl; exact rfl; exact rfl; exact rfl)) | ((with_reducible apply gx_id); first | ((with_reducible apply v_nil)) | ((with_reducible apply v_q); exact rfl; exact rfl; exact rfl)) | ((with_reducible apply rd_id); first | (apply Rd.own; (repeat (first | exact P0 | apply P1)); exact rfl; done) | (apply Rd.old; (first | (with_reducible assumption) | exact c0 | exact c1 | exact c2 | exact c3 | exact c4 | exact c5 | exact c6 | exact c7 | exact c8 | exact d0 | exact d1 | exact d2 | exact d3 | exact d4 | exact d5); first | exact List.not_mem_nil | exact m0 | exact m1 | exact m2 | exact m3 | exact m4 | exact m5 | exact m6 | exact m7 | exact m8 | exact m9)) | ((with_reducible apply t_id); first | ((with_reducible apply t_seq)) | (apply t_region; kernel_rfl) | (apply t_drawn; kernel_rfl; decide +kernel; try simp only [List.append_eq, List.cons_append, List.nil_append]) | ((with_reducible apply t_condT); exact rfl) | ((with_reducible apply t_condD); exact rfl; all_goals first | (intro hp; try (exfalso; omega)) | skip) | ((with_reducible apply t_ret)) | ((with_reducible apply t_skip)) | ((with_reducible apply t_block))) | with_reducible apply q_thenN | with_reducible apply q_thenR | with_reducible apply q_blockR | exact Rdn.zero | apply Rdn.succ | ((with_reducible apply end_ret)) | exact rvs_nil | ((with_reducible apply rvs_cons)) | ((with_reducible apply rv_tmp); exact rfl))
          all_goals (unfold officeB; rw [all_no hx hpx]; simp; rfl)
        | true =>
          rw [show bookedB o.fl o.fee ⟨x.flight, x.state, x.kept⟩ = true from hpx] at HX
          repeat' (first | ((with_reducible apply oq_id); first | (focus ((with_reducible apply oq_indexAddrN); exact rfl; exact rfl; exact rfl; exact rfl; omega)) | (apply oq_fn; exact rfl; first | exact trivial | (refine ⟨?_, ?_⟩ <;> omega) | (refine ⟨?_, ?_, ?_⟩ <;> omega) | omega | skip) | ((with_reducible apply oq_load); exact rfl; exact rfl) | ((with_reducible apply oq_loadAgg); exact rfl; exact rfl) | ((with_reducible apply oq_call (k := 99) (hc := Try.call99)); exact rfl; exact rfl; exact fun D w1 hw1 => HX w1 hw1.ext.ext)) | ((with_reducible apply tl_id); first | ((with_reducible apply tl_nil)) | ((with_reducible apply u_q); exact rfl; exact rfl; exact rfl; exact rfl)) | ((with_reducible apply gx_id); first | ((with_reducible apply v_nil)) | ((with_reducible apply v_q); exact rfl; exact rfl; exact rfl)) | ((with_reducible apply rd_id); first | (apply Rd.own; (repeat (first | exact P0 | apply P1)); exact rfl; done) | (apply Rd.old; (first | (with_reducible assumption) | exact c0 | exact c1 | exact c2 | exact c3 | exact c4 | exact c5 | exact c6 | exact c7 | exact c8 | exact d0 | exact d1 | exact d2 | exact d3 | exact d4 | exact d5); first | exact List.not_mem_nil | exact m0 | exact m1 | exact m2 | exact m3 | exact m4 | exact m5 | exact m6 | exact m7 | exact m8 | exact m9)) | ((with_reducible apply t_id); first | ((with_reducible apply t_seq)) | (apply t_region; kernel_rfl) | (apply t_drawn; kernel_rfl; decide +kernel; try simp only [List.append_eq, List.cons_append, List.nil_append]) | ((with_reducible apply t_condF); exact rfl) | ((with_reducible apply t_condD); exact rfl; all_goals first | (intro hp; try (exfalso; omega)) | skip) | ((with_reducible apply t_skip)) | ((with_reducible apply t_block))) | with_reducible apply q_thenN | with_reducible apply q_blockN | exact Rdn.zero | apply Rdn.succ)
          all_goals (refine ⟨k + 1, ⟨by omega, fun y hy => ?_⟩, by omega, ?_, ?_⟩)
          · rw [List.take_add_one, hx, List.mem_append] at hy
            rcases hy with hy | hy
            · exact hkp y hy
            · obtain rfl : y = x := by simpa using hy
              exact hpx
          · try simp only [List.cons_append, List.nil_append]
            (repeat (first | exact FrSub.nil | (apply FrSub.cons; exact rfl)))
          · try simp only [List.cons_append, List.nil_append]
            (repeat (first | exact HpSub.refl _ | (apply HpSub.consE; (repeat (first | exact P0 | apply P1)); exact rfl) | exact HpSub.nil))
      · have hba : o.bk.all (bookedB o.fl o.fee) = true := all_yes (by omega) hkp
        have hb : BksOk o.fl o.bk := fun x hxm => bookedB_ok hd ⟨f1, f2⟩ (List.all_eq_true.1 hba x hxm)
        clear hkp
        repeat' (first | ((with_reducible apply oq_id); first | (apply oq_fn; exact rfl; first | exact trivial | (refine ⟨?_, ?_⟩ <;> omega) | (refine ⟨?_, ?_, ?_⟩ <;> omega) | omega | skip) | ((with_reducible apply oq_load); exact rfl; exact rfl)) | ((with_reducible apply tl_id); first | ((with_reducible apply tl_nil)) | ((with_reducible apply u_q); exact rfl; exact rfl; exact rfl; exact rfl)) | ((with_reducible apply rd_id); first | (apply Rd.own; (repeat (first | exact P0 | apply P1)); exact rfl; done)) | ((with_reducible apply t_id); first | ((with_reducible apply t_seq)) | (apply t_region; kernel_rfl) | ((with_reducible apply t_condD); exact rfl; all_goals first | (intro hp; try (exfalso; omega)) | skip) | ((with_reducible apply t_exit)) | ((with_reducible apply t_block))) | with_reducible apply q_thenN | with_reducible apply q_thenE | ((with_reducible apply q_blockE); exact rfl))
        apply t_loopK (ι := Nat) [1, 7, 8, 9, 10, 106, 107, 108, 109, 110, 111, 112, 113, 114, 115, 116, 117, 118, 119, 120, 121, 122, 123, 124, 125, 126, 127, 128] (fun k => [(5, .int .i64 (k : Nat))]) (fun _ => []) (fun k => k ≤ o.fl.length ∧ ∀ j, j < k → seatB o.fl o.bk j = true) (fun k => o.fl.length - k) (0)
        (repeat (first | exact KeepF.nil | (apply KeepF.cons; exact rfl) | apply KeepF.skip))
        (repeat (first | exact FrSub.nil | (apply FrSub.cons; exact rfl)))
        (repeat (first | exact HpSub.refl _ | (apply HpSub.consE; (repeat (first | exact P0 | apply P1)); exact rfl) | exact HpSub.nil))
        · exact ⟨Nat.zero_le _, fun j hj => by omega⟩
        rintro k ⟨hk, hkp⟩
        try simp only [List.cons_append, List.nil_append]
        by_cases hlt : k < o.fl.length
        · obtain ⟨p1, p2, x, hA1, _, hx, c0, c1, c2, c3⟩ := dep_read hA hlt
          have HM1 := fun w1 (hx1 : Ext w w1) => many_calls o A cf B cb w1 (hA.ext hx1) (hB.ext hx1) (by omega) (k : Int) 1
          have HM2 := fun w1 (hx1 : Ext w w1) => many_calls o A cf B cb w1 (hA.ext hx1) (hB.ext hx1) (by omega) (k : Int) 2
          have HM3 := fun w1 (hx1 : Ext w w1) => many_calls o A cf B cb w1 (hA.ext hx1) (hB.ext hx1) (by omega) (k : Int) 3
          have hm1 := many_in o.bk (k : Int) 1 o.bk.length
          have hm2 := many_in o.bk (k : Int) 2 o.bk.length
          have hm3 := many_in o.bk (k : Int) 3 o.bk.length
          rw [many_all (Nat.le_refl _)] at hm1 hm2 hm3
          have hsv : seatB o.fl o.bk k = (decide (manyV o.bk k 1 + manyV o.bk k 3 ≤ x.seats) && (decide (manyV o.bk k 1 + manyV o.bk k 3 = x.seats) || decide (manyV o.bk k 2 ≤ 0))) := by unfold seatB; rw [hx]
          obtain ⟨m1, e1⟩ : ∃ q, manyV o.bk (k : Int) 1 = q := ⟨_, rfl⟩
          obtain ⟨m2, e2⟩ : ∃ q, manyV o.bk (k : Int) 2 = q := ⟨_, rfl⟩
          obtain ⟨m3, e3⟩ : ∃ q, manyV o.bk (k : Int) 3 = q := ⟨_, rfl⟩
          rw [e1] at HM1 hm1 hsv
          rw [e2] at HM2 hm2 hsv
          rw [e3] at HM3 hm3 hsv
          subst hA1
          cases hpx : seatB o.fl o.bk k with
          | false =>
            have hv : x.seats < m1 + m3 ∨ (m1 + m3 < x.seats ∧ 0 < m2) := by
              refine Decidable.by_contra fun hc => ?_
              rw [hpx] at hsv
              have : (decide (m1 + m3 ≤ x.seats) && (decide (m1 + m3 = x.seats) || decide (m2 ≤ 0))) = true := by
                simp only [Bool.and_eq_true, Bool.or_eq_true, decide_eq_true_eq]; omega
              rw [this] at hsv; cases hsv
            repeat' (first | ((with_reducible apply oq_id); first | (focus ((with_reducible apply oq_indexAddrN); exact rfl; exact rfl; exact rfl; exact rfl; omega)) | (apply oq_fn; exact rfl; first | exact trivial | (refine ⟨?_, ?_⟩ <;> omega) | (refine ⟨?_, ?_, ?_⟩ <;> omega) | omega | skip) | ((with_reducible apply oq_load); exact rfl; exact rfl) | ((with_reducible apply oq_loadAgg); exact rfl; exact rfl) | ((with_reducible apply oq_call (k := 67) (hc := Try.call67)); exact rfl; exact rfl; exact fun D w1 hw1 => HM1 w1 hw1.ext.ext) | ((with_reducible apply oq_call (k := 67) (hc := Try.call67)); exact rfl; exact rfl; exact fun D w1 hw1 => HM2 w1 hw1.ext.ext) | ((with_reducible apply oq_call (k := 67) (hc := Try.call67)); exact rfl; exact rfl; exact fun D w1 hw1 => HM3 w1 hw1.ext.ext)) | ((with_reducible apply tl_id); first | ((with_reducible apply tl_nil)) | ((with_reducible apply u_q); exact rfl; exact rfl; exact rfl; exact rfl) | ((with_reducible apply u_skip); exact rfl; exact rfl; exact rfl) | ((with_reducible apply u_splitD); exact rfl; exact rfl; all_goals first | (intro hp; try (exfalso; omega)) | skip)) | ((with_reducible apply gx_id); first | ((with_reducible apply v_nil)) | ((with_reducible apply v_q); exact rfl; exact rfl; exact rfl)) | ((with_reducible apply rd_id); first | (apply Rd.own; (repeat (first | exact P0 | apply P1)); exact rfl; done) | (apply Rd.old; (first | (with_reducible assumption) | exact c0 | exact c1 | exact c2 | exact c3 | exact c4 | exact c5 | exact c6 | exact c7 | exact c8 | exact d0 | exact d1 | exact d2 | exact d3 | exact d4 | exact d5); first | exact List.not_mem_nil | exact m0 | exact m1 | exact m2 | exact m3 | exact m4 | exact m5 | exact m6 | exact m7 | exact m8 | exact m9)) | ((with_reducible apply t_id); first | ((with_reducible apply t_seq)) | (apply t_region; kernel_rfl) | (apply t_drawn; kernel_rfl; decide +kernel; try simp only [List.append_eq, List.cons_append, List.nil_append]) | ((with_reducible apply t_condT); exact rfl) | ((with_reducible apply t_condD); exact rfl; all_goals first | (intro hp; try (exfalso; omega)) | skip) | ((with_reducible apply t_ret)) | ((with_reducible apply t_skip)) | ((with_reducible apply t_block))) | with_reducible apply q_thenN | with_reducible apply q_thenR | with_reducible apply q_blockR | exact Rdn.zero | apply Rdn.succ | ((with_reducible apply end_ret)) | exact rvs_nil | ((with_reducible apply rvs_cons)) | ((with_reducible apply rv_tmp); exact rfl))
            all_goals (unfold officeB; rw [all_no (l := List.range o.fl.length) (k := k) (x := k) (by simp [hlt]) hpx]; simp; rfl)
          | true =>
            have hv : m1 + m3 ≤ x.seats ∧ (m1 + m3 = x.seats ∨ m2 ≤ 0) := by
              rw [hpx] at hsv
              have h2 := hsv.symm
              simp only [Bool.and_eq_true, Bool.or_eq_true, decide_eq_true_eq] at h2
              exact h2
            have hkp2 : ∀ y, y < k + 1 → seatB o.fl o.bk y = true := fun y hy => by
              rcases (by omega : y < k ∨ y = k) with h | rfl
              · exact hkp y h
              · exact hpx
            repeat' (first | ((with_reducible apply oq_id); first | (focus ((with_reducible apply oq_indexAddrN); exact rfl; exact rfl; exact rfl; exact rfl; omega)) | (apply oq_fn; exact rfl; first | exact trivial | (refine ⟨?_, ?_⟩ <;> omega) | (refine ⟨?_, ?_, ?_⟩ <;> omega) | omega | skip) | ((with_reducible apply oq_load); exact rfl; exact rfl) | ((with_reducible apply oq_loadAgg); exact rfl; exact rfl) | ((with_reducible apply oq_call (k := 67) (hc := Try.call67)); exact rfl; exact rfl; exact fun D w1 hw1 => HM1 w1 hw1.ext.ext) | ((with_reducible apply oq_call (k := 67) (hc := Try.call67)); exact rfl; exact rfl; exact fun D w1 hw1 => HM2 w1 hw1.ext.ext) | ((with_reducible apply oq_call (k := 67) (hc := Try.call67)); exact rfl; exact rfl; exact fun D w1 hw1 => HM3 w1 hw1.ext.ext)) | ((with_reducible apply tl_id); first | ((with_reducible apply tl_nil)) | ((with_reducible apply u_q); exact rfl; exact rfl; exact rfl; exact rfl) | ((with_reducible apply u_skip); exact rfl; exact rfl; exact rfl) | ((with_reducible apply u_splitD); exact rfl; exact rfl; all_goals first | (intro hp; try (exfalso; omega)) | skip)) | ((with_reducible apply gx_id); first | ((with_reducible apply v_nil)) | ((with_reducible apply v_q); exact rfl; exact rfl; exact rfl)) | ((with_reducible apply rd_id); first | (apply Rd.own; (repeat (first | exact P0 | apply P1)); exact rfl; done) | (apply Rd.old; (first | (with_reducible assumption) | exact c0 | exact c1 | exact c2 | exact c3 | exact c4 | exact c5 | exact c6 | exact c7 | exact c8 | exact d0 | exact d1 | exact d2 | exact d3 | exact d4 | exact d5); first | exact List.not_mem_nil | exact m0 | exact m1 | exact m2 | exact m3 | exact m4 | exact m5 | exact m6 | exact m7 | exact m8 | exact m9)) | ((with_reducible apply t_id); first | ((with_reducible apply t_seq)) | (apply t_region; kernel_rfl) | (apply t_drawn; kernel_rfl; decide +kernel; try simp only [List.append_eq, List.cons_append, List.nil_append]) | ((with_reducible apply t_condF); exact rfl) | ((with_reducible apply t_condD); exact rfl; all_goals first | (intro hp; try (exfalso; omega)) | skip) | ((with_reducible apply t_skip)) | ((with_reducible apply t_block))) | with_reducible apply q_thenN | with_reducible apply q_blockN | exact Rdn.zero | apply Rdn.succ)
            all_goals (refine ⟨k + 1, ⟨by omega, hkp2⟩, by omega, ?_, ?_⟩)
            all_goals ((try simp only [List.cons_append, List.nil_append]); (repeat' (first | exact FrSub.nil | (apply FrSub.cons; exact rfl) | exact HpSub.refl _)))
        · have hsa : (List.range o.fl.length).all (seatB o.fl o.bk) = true := by
            rw [List.all_eq_true]
            exact fun j hj => hkp j (by have := List.mem_range.1 hj; omega)
          have HS := fun w1 (hx1 : Ext w w1) => refSums_calls o A cf B cb w1 (hA.ext hx1) (hB.ext hx1) hd hb (by omega)
          have hin := sums_in hd hb (Nat.le_refl o.bk.length)
          rw [sums_all (Nat.le_refl _)] at hin
          have hof : officeB o = moneyB o := by unfold officeB; rw [hh, hda, hba, hsa]; rfl
          rw [hof]
          unfold moneyB
          obtain ⟨⟨s1, s2, s3, s4⟩, hSS⟩ : ∃ q, sumsV o.fl o.bk = q := ⟨_, rfl⟩
          rw [hSS] at HS hin ⊢
          unfold Small at hin
          simp only at HS hin ⊢
          repeat' (first | ((with_reducible apply oq_id); first | (apply oq_fn; exact rfl; first | exact trivial | (refine ⟨?_, ?_⟩ <;> omega) | (refine ⟨?_, ?_, ?_⟩ <;> omega) | omega | skip) | ((with_reducible apply oq_load); exact rfl; exact rfl) | ((with_reducible apply oq_loadAgg); exact rfl; exact rfl) | ((with_reducible apply oq_call (k := 69) (hc := Try.call69)); exact rfl; exact rfl; exact fun D w1 hw1 => HS w1 hw1.ext.ext)) | ((with_reducible apply tl_id); first | ((with_reducible apply tl_nil)) | ((with_reducible apply u_q); exact rfl; exact rfl; exact rfl; exact rfl) | ((with_reducible apply u_skip); exact rfl; exact rfl; exact rfl) | ((with_reducible apply u_splitD); exact rfl; exact rfl; all_goals first | (intro hp; try (exfalso; omega)) | skip)) | ((with_reducible apply rd_id); first | (apply Rd.own; (repeat (first | exact P0 | apply P1)); exact rfl; done)) | ((with_reducible apply t_id); first | ((with_reducible apply t_seq)) | (apply t_region; kernel_rfl) | ((with_reducible apply t_condD); exact rfl; all_goals first | (intro hp; try (exfalso; omega)) | skip) | ((with_reducible apply t_ret)) | ((with_reducible apply t_exit))) | with_reducible apply q_thenN | with_reducible apply q_thenE | ((with_reducible apply q_blockE); exact rfl) | exact Rdn.zero | apply Rdn.succ | ((with_reducible apply end_ret)) | exact rvs_nil | ((with_reducible apply rvs_cons)) | ((with_reducible apply rv_tmp); exact rfl))
          all_goals (first | rfl | (simp_all; done) | (rename_i h; simp [h]; rfl) | (simp [*]; rfl))
  · have hof : officeB o = false := by
      unfold officeB
      rw [show headB o = false by simpa using hh]
      rfl
    rw [hof]
    have hno : ¬ (0 ≤ o.now ∧ o.now ≤ 1000000 ∧ 0 ≤ o.notice ∧ o.notice ≤ 1000000 ∧ 0 ≤ o.fee ∧ o.fee ≤ 100 ∧ o.fl.length ≤ 10 ∧ o.bk.length ≤ 120) := fun h => hh (by unfold headB; simpa using h)
    by_cases h1 : 0 ≤ o.now ∧ o.now ≤ 1000000
    · have HW1 := fun w1 => withinQ (allFrom_t (lo := 0) (hi := 1000000) (z := o.now) h1) w1
      by_cases h2 : 0 ≤ o.notice ∧ o.notice ≤ 1000000
      · have HW2 := fun w1 => withinQ (allFrom_t (lo := 0) (hi := 1000000) (z := o.notice) h2) w1
        by_cases h3 : 0 ≤ o.fee ∧ o.fee ≤ 100
        · have HW3 := fun w1 => withinQ (allFrom_t (lo := 0) (hi := 100) (z := o.fee) h3) w1
          refine enterQ (c := cx w 129) Try.func65 rfl rfl rfl rfl ?_
          repeat' (first | ((with_reducible apply oq_id); first | (apply oq_fn; exact rfl; first | exact trivial | (refine ⟨?_, ?_⟩ <;> omega) | (refine ⟨?_, ?_, ?_⟩ <;> omega) | omega | skip) | ((with_reducible apply oq_load); exact rfl; exact rfl) | ((with_reducible apply oq_call (k := 66) (hc := Try.call66)); exact rfl; exact rfl; exact fun D w1 hw1 => HW1 w1) | ((with_reducible apply oq_call (k := 66) (hc := Try.call66)); exact rfl; exact rfl; exact fun D w1 hw1 => HW2 w1) | ((with_reducible apply oq_call (k := 66) (hc := Try.call66)); exact rfl; exact rfl; exact fun D w1 hw1 => HW3 w1)) | ((with_reducible apply tl_id); first | ((with_reducible apply tl_nil)) | ((with_reducible apply u_q); exact rfl; exact rfl; exact rfl; exact rfl) | ((with_reducible apply u_s); exact rfl; exact rfl; exact rfl) | ((with_reducible apply u_skip); exact rfl; exact rfl; exact rfl) | ((with_reducible apply u_splitD); exact rfl; exact rfl; all_goals first | (intro hp; try (exfalso; omega)) | skip)) | ((with_reducible apply os_id); first | ((with_reducible apply os_x); exact rfl)) | ((with_reducible apply ox_id); first | ((with_reducible apply ox_boxAgg); exact rfl; intro _)) | ((with_reducible apply rd_id); first | (apply Rd.own; (repeat (first | exact P0 | apply P1)); exact rfl; done)) | ((with_reducible apply t_id); first | ((with_reducible apply t_seq)) | (apply t_region; kernel_rfl) | ((with_reducible apply t_condT); exact rfl) | ((with_reducible apply t_condD); exact rfl; all_goals first | (intro hp; try (exfalso; omega)) | skip) | ((with_reducible apply t_ret))) | with_reducible apply q_thenN | with_reducible apply q_thenR | ((with_reducible apply end_ret)) | exact rvs_nil | ((with_reducible apply rvs_cons)) | ((with_reducible apply rv_tmp); exact rfl))
          all_goals rfl
        · have HW3 := fun w1 => withinQ (allFrom_f (lo := 0) (hi := 100) (z := o.fee) h3) w1
          refine enterQ (c := cx w 129) Try.func65 rfl rfl rfl rfl ?_
          repeat' (first | ((with_reducible apply oq_id); first | (apply oq_fn; exact rfl; first | exact trivial | (refine ⟨?_, ?_⟩ <;> omega) | (refine ⟨?_, ?_, ?_⟩ <;> omega) | omega | skip) | ((with_reducible apply oq_load); exact rfl; exact rfl) | ((with_reducible apply oq_call (k := 66) (hc := Try.call66)); exact rfl; exact rfl; exact fun D w1 hw1 => HW1 w1) | ((with_reducible apply oq_call (k := 66) (hc := Try.call66)); exact rfl; exact rfl; exact fun D w1 hw1 => HW2 w1) | ((with_reducible apply oq_call (k := 66) (hc := Try.call66)); exact rfl; exact rfl; exact fun D w1 hw1 => HW3 w1)) | ((with_reducible apply tl_id); first | ((with_reducible apply tl_nil)) | ((with_reducible apply u_q); exact rfl; exact rfl; exact rfl; exact rfl) | ((with_reducible apply u_s); exact rfl; exact rfl; exact rfl) | ((with_reducible apply u_skip); exact rfl; exact rfl; exact rfl)) | ((with_reducible apply os_id); first | ((with_reducible apply os_x); exact rfl)) | ((with_reducible apply ox_id); first | ((with_reducible apply ox_boxAgg); exact rfl; intro _)) | ((with_reducible apply rd_id); first | (apply Rd.own; (repeat (first | exact P0 | apply P1)); exact rfl; done)) | ((with_reducible apply t_id); first | ((with_reducible apply t_seq)) | (apply t_region; kernel_rfl) | ((with_reducible apply t_condT); exact rfl) | ((with_reducible apply t_ret))) | with_reducible apply q_thenN | with_reducible apply q_thenR | ((with_reducible apply end_ret)) | exact rvs_nil | ((with_reducible apply rvs_cons)) | ((with_reducible apply rv_tmp); exact rfl))
          all_goals rfl
      · have HW2 := fun w1 => withinQ (allFrom_f (lo := 0) (hi := 1000000) (z := o.notice) h2) w1
        refine enterQ (c := cx w 129) Try.func65 rfl rfl rfl rfl ?_
        repeat' (first | ((with_reducible apply oq_id); first | (apply oq_fn; exact rfl; first | exact trivial | (refine ⟨?_, ?_⟩ <;> omega) | (refine ⟨?_, ?_, ?_⟩ <;> omega) | omega | skip) | ((with_reducible apply oq_load); exact rfl; exact rfl) | ((with_reducible apply oq_call (k := 66) (hc := Try.call66)); exact rfl; exact rfl; exact fun D w1 hw1 => HW1 w1) | ((with_reducible apply oq_call (k := 66) (hc := Try.call66)); exact rfl; exact rfl; exact fun D w1 hw1 => HW2 w1)) | ((with_reducible apply tl_id); first | ((with_reducible apply tl_nil)) | ((with_reducible apply u_q); exact rfl; exact rfl; exact rfl; exact rfl) | ((with_reducible apply u_s); exact rfl; exact rfl; exact rfl) | ((with_reducible apply u_skip); exact rfl; exact rfl; exact rfl)) | ((with_reducible apply os_id); first | ((with_reducible apply os_x); exact rfl)) | ((with_reducible apply ox_id); first | ((with_reducible apply ox_boxAgg); exact rfl; intro _)) | ((with_reducible apply rd_id); first | (apply Rd.own; (repeat (first | exact P0 | apply P1)); exact rfl; done)) | ((with_reducible apply t_id); first | ((with_reducible apply t_seq)) | (apply t_region; kernel_rfl) | ((with_reducible apply t_condT); exact rfl) | ((with_reducible apply t_ret))) | with_reducible apply q_thenN | with_reducible apply q_thenR | ((with_reducible apply end_ret)) | exact rvs_nil | ((with_reducible apply rvs_cons)) | ((with_reducible apply rv_tmp); exact rfl))
        all_goals rfl
    · have HW1 := fun w1 => withinQ (allFrom_f (lo := 0) (hi := 1000000) (z := o.now) h1) w1
      refine enterQ (c := cx w 129) Try.func65 rfl rfl rfl rfl ?_
      repeat' (first | ((with_reducible apply oq_id); first | (apply oq_fn; exact rfl; first | exact trivial | (refine ⟨?_, ?_⟩ <;> omega) | (refine ⟨?_, ?_, ?_⟩ <;> omega) | omega | skip) | ((with_reducible apply oq_load); exact rfl; exact rfl) | ((with_reducible apply oq_call (k := 66) (hc := Try.call66)); exact rfl; exact rfl; exact fun D w1 hw1 => HW1 w1)) | ((with_reducible apply tl_id); first | ((with_reducible apply tl_nil)) | ((with_reducible apply u_q); exact rfl; exact rfl; exact rfl; exact rfl) | ((with_reducible apply u_s); exact rfl; exact rfl; exact rfl) | ((with_reducible apply u_skip); exact rfl; exact rfl; exact rfl)) | ((with_reducible apply os_id); first | ((with_reducible apply os_x); exact rfl)) | ((with_reducible apply ox_id); first | ((with_reducible apply ox_boxAgg); exact rfl; intro _)) | ((with_reducible apply rd_id); first | (apply Rd.own; (repeat (first | exact P0 | apply P1)); exact rfl; done)) | ((with_reducible apply t_id); first | ((with_reducible apply t_seq)) | (apply t_region; kernel_rfl) | ((with_reducible apply t_condT); exact rfl) | ((with_reducible apply t_ret))) | with_reducible apply q_thenN | with_reducible apply q_thenR | ((with_reducible apply end_ret)) | exact rvs_nil | ((with_reducible apply rvs_cons)) | ((with_reducible apply rv_tmp); exact rfl))
      all_goals rfl

end Go.Proofs.Ytmlmgipngbndgaa
/- The office, the reference's: Counts, Purse, Turn; how large it is. -/
namespace Go.Proofs.Ytmlmgipngbndgaa
open Go.RowKit
attribute [local irreducible] OQ OS OX Rd T TL GX GL AL AI RV wpG SAny Calls
set_option maxRecDepth 100000
set_option maxHeartbeats 2000000
set_option linter.unusedVariables false
set_option linter.unusedSimpArgs false

theorem officeB_in {o : Off} (hu : ∀ d ∈ o.fl, 0 ≤ d.state) (h : officeB o = true) : headB o = true ∧ DepsOk o.fl ∧ BksOk o.fl o.bk ∧ o.bk.all (bookedB o.fl o.fee) = true ∧ (List.range o.fl.length).all (seatB o.fl o.bk) = true ∧ moneyB o = true := by
  unfold officeB at h
  simp only [Bool.and_eq_true] at h
  obtain ⟨h1, h2, h3, h4, h5⟩ := h
  have hd : DepsOk o.fl := fun d hdm => ⟨List.all_eq_true.1 h2 d hdm, hu d hdm⟩
  have hi := headB_in h1
  exact ⟨h1, hd, fun x hx => bookedB_ok hd ⟨hi.2.2.2.2.1, hi.2.2.2.2.2.1⟩ (List.all_eq_true.1 h3 x hx), h3, h4, h5⟩
def countsS (o : Off) (f : Int) : Int × Int × Int × Int × Int :=
  if officeB o then (if 0 ≤ f ∧ f < (o.fl.length : Int) then (manyV o.bk f 1, manyV o.bk f 2, manyV o.bk f 3, manyV o.bk f 4, 0) else (0, 0, 0, 0, 2)) else (0, 0, 0, 0, 84)
def purseS (o : Off) : Int × Int × Int × Int × Int :=
  if officeB o then ((sumsV o.fl o.bk).held, (sumsV o.fl o.bk).earned, (sumsV o.fl o.bk).kept, (sumsV o.fl o.bk).back, 0) else (0, 0, 0, 0, 84)
def turnS (o : Off) (i : Int) : Int × Int :=
  if officeB o then (if 0 ≤ i ∧ i < (o.bk.length : Int) then
    (match o.bk[i.toNat]? with
      | none => (0, 0)
      | some x => if x.state = 1 then (0, 0) else if x.state = 2 then (manyTo o.bk x.flight 2 i.toNat + 1, 0) else (0, 85))
    else (0, 2)) else (0, 84)
theorem great_calls (o : Off) (A : Option Addr) (cf : Nat) (B : Option Addr) (cb : Nat) (w : World) : Calls Try.prog 19 #[.agg ⟨offCells o A cf B cb⟩] w fun e w' => e = .returned (.bool (decide (20 < o.fl.length ∨ 150 < o.bk.length))) ∧ Ext w w' := by
  by_cases h1 : 20 < o.fl.length
  · rw [decide_eq_true (.inl h1)]
    refine enterQ (c := cx w 13) Try.func19 rfl rfl rfl rfl ?_
    repeat' (first | ((with_reducible apply oq_id); first | (apply oq_fn; exact rfl; first | exact trivial | (refine ⟨?_, ?_⟩ <;> omega) | (refine ⟨?_, ?_, ?_⟩ <;> omega) | omega | skip) | ((with_reducible apply oq_load); exact rfl; exact rfl)) | ((with_reducible apply tl_id); first | ((with_reducible apply tl_nil)) | ((with_reducible apply u_q); exact rfl; exact rfl; exact rfl; exact rfl) | ((with_reducible apply u_s); exact rfl; exact rfl; exact rfl) | ((with_reducible apply u_skip); exact rfl; exact rfl; exact rfl) | ((with_reducible apply u_splitD); exact rfl; exact rfl; all_goals first | (intro hp; try (exfalso; omega)) | skip)) | ((with_reducible apply os_id); first | ((with_reducible apply os_x); exact rfl)) | ((with_reducible apply ox_id); first | ((with_reducible apply ox_boxAgg); exact rfl; intro _)) | ((with_reducible apply rd_id); first | (apply Rd.own; (repeat (first | exact P0 | apply P1)); exact rfl; done)) | ((with_reducible apply t_id); first | ((with_reducible apply t_seq)) | (apply t_region; kernel_rfl) | ((with_reducible apply t_ret))) | with_reducible apply q_thenN | ((with_reducible apply end_ret)) | exact rvs_nil | ((with_reducible apply rvs_cons)) | ((with_reducible apply rv_tmp); exact rfl))
    all_goals (first | rfl | (rw [decide_eq_true (show (20 : Int) < (o.fl.length : Int) by omega)]; rfl))
  · by_cases h2 : 150 < o.bk.length
    · rw [decide_eq_true (.inr h2)]
      refine enterQ (c := cx w 13) Try.func19 rfl rfl rfl rfl ?_
      repeat' (first | ((with_reducible apply oq_id); first | (apply oq_fn; exact rfl; first | exact trivial | (refine ⟨?_, ?_⟩ <;> omega) | (refine ⟨?_, ?_, ?_⟩ <;> omega) | omega | skip) | ((with_reducible apply oq_load); exact rfl; exact rfl)) | ((with_reducible apply tl_id); first | ((with_reducible apply tl_nil)) | ((with_reducible apply u_q); exact rfl; exact rfl; exact rfl; exact rfl) | ((with_reducible apply u_s); exact rfl; exact rfl; exact rfl) | ((with_reducible apply u_splitD); exact rfl; exact rfl; all_goals first | (intro hp; try (exfalso; omega)) | skip)) | ((with_reducible apply os_id); first | ((with_reducible apply os_x); exact rfl)) | ((with_reducible apply ox_id); first | ((with_reducible apply ox_boxAgg); exact rfl; intro _)) | ((with_reducible apply rd_id); first | (apply Rd.own; (repeat (first | exact P0 | apply P1)); exact rfl; done)) | ((with_reducible apply t_id); first | ((with_reducible apply t_seq)) | (apply t_region; kernel_rfl) | ((with_reducible apply t_ret))) | with_reducible apply q_thenN | ((with_reducible apply end_ret)) | exact rvs_nil | ((with_reducible apply rvs_cons)) | ((with_reducible apply rv_tmp); exact rfl))
      all_goals (first | rfl | (rw [decide_eq_true (show (150 : Int) < (o.bk.length : Int) by omega)]; rfl))
    · rw [decide_eq_false (by omega)]
      refine enterQ (c := cx w 13) Try.func19 rfl rfl rfl rfl ?_
      repeat' (first | ((with_reducible apply oq_id); first | (apply oq_fn; exact rfl; first | exact trivial | (refine ⟨?_, ?_⟩ <;> omega) | (refine ⟨?_, ?_, ?_⟩ <;> omega) | omega | skip) | ((with_reducible apply oq_load); exact rfl; exact rfl)) | ((with_reducible apply tl_id); first | ((with_reducible apply tl_nil)) | ((with_reducible apply u_q); exact rfl; exact rfl; exact rfl; exact rfl) | ((with_reducible apply u_s); exact rfl; exact rfl; exact rfl) | ((with_reducible apply u_splitD); exact rfl; exact rfl; all_goals first | (intro hp; try (exfalso; omega)) | skip)) | ((with_reducible apply os_id); first | ((with_reducible apply os_x); exact rfl)) | ((with_reducible apply ox_id); first | ((with_reducible apply ox_boxAgg); exact rfl; intro _)) | ((with_reducible apply rd_id); first | (apply Rd.own; (repeat (first | exact P0 | apply P1)); exact rfl; done)) | ((with_reducible apply t_id); first | ((with_reducible apply t_seq)) | (apply t_region; kernel_rfl) | ((with_reducible apply t_ret))) | with_reducible apply q_thenN | ((with_reducible apply end_ret)) | exact rvs_nil | ((with_reducible apply rvs_cons)) | ((with_reducible apply rv_tmp); exact rfl))
      all_goals (first | rfl | (rw [decide_eq_false (show ¬ (150 : Int) < (o.bk.length : Int) by omega)]; rfl))

theorem refCounts_calls (o : Off) (A : Option Addr) (cf : Nat) (B : Option Addr) (cb : Nat) (w : World) (hA : RdS w 4 A o.fl.length (o.fl.map depCells)) (hB : RdS w 3 B o.bk.length (o.bk.map bkCells)) (hu : ∀ d ∈ o.fl, 0 ≤ d.state) (hn : o.fl.length ≤ 1000000) (hn2 : o.bk.length ≤ 1000000) (f : Int) : Calls Try.prog 21 #[.agg ⟨offCells o A cf B cb⟩, .int .i64 f] w fun e w' => e = .returned (.tuple #[.int .i64 (countsS o f).1, .int .i64 (countsS o f).2.1, .int .i64 (countsS o f).2.2.1, .int .i64 (countsS o f).2.2.2.1, .int .i64 (countsS o f).2.2.2.2]) ∧ Ext w w' := by
  have HO := fun w1 (hx : Ext w w1) => refOffice_calls o A cf B cb w1 (hA.ext hx) (hB.ext hx) hu hn hn2
  have HM := fun s w1 (hx : Ext w w1) => many_calls o A cf B cb w1 (hA.ext hx) (hB.ext hx) hn2 f s
  unfold countsS
  cases hv : officeB o with
  | false =>
    rw [hv] at HO
    simp only [Bool.false_eq_true, if_false]
    refine enterQ (c := cx w 31) Try.func21 rfl rfl rfl rfl ?_
    repeat' (first | ((with_reducible apply oq_id); first | (apply oq_fn; exact rfl; first | exact trivial | (refine ⟨?_, ?_⟩ <;> omega) | (refine ⟨?_, ?_, ?_⟩ <;> omega) | omega | skip) | ((with_reducible apply oq_loadAgg); exact rfl; exact rfl) | ((with_reducible apply oq_call (k := 65) (hc := Try.call65)); exact rfl; exact rfl; exact fun D w1 hw1 => HO w1 hw1.ext.ext)) | ((with_reducible apply tl_id); first | ((with_reducible apply tl_nil)) | ((with_reducible apply u_q); exact rfl; exact rfl; exact rfl; exact rfl) | ((with_reducible apply u_s); exact rfl; exact rfl; exact rfl)) | ((with_reducible apply os_id); first | ((with_reducible apply os_x); exact rfl)) | ((with_reducible apply ox_id); first | ((with_reducible apply ox_boxAgg); exact rfl; intro _)) | ((with_reducible apply rd_id); first | (apply Rd.own; (repeat (first | exact P0 | apply P1)); exact rfl; done)) | ((with_reducible apply t_id); first | ((with_reducible apply t_seq)) | (apply t_region; kernel_rfl) | ((with_reducible apply t_condT); exact rfl) | ((with_reducible apply t_ret))) | with_reducible apply q_thenN | with_reducible apply q_thenR | exact Rdn.zero | apply Rdn.succ | ((with_reducible apply end_ret)) | exact rvs_nil | ((with_reducible apply rvs_cons)) | ((with_reducible apply rv_tmp); exact rfl))
    all_goals rfl
  | true =>
    rw [hv] at HO
    simp only [if_true]
    have HW := fun w1 => within_calls f 0 ((o.fl.length : Int) - 1) w1
    by_cases hin : 0 ≤ f ∧ f < (o.fl.length : Int)
    · rw [if_pos hin]
      rw [decide_eq_true (show 0 ≤ f by omega), decide_eq_true (show f ≤ (o.fl.length : Int) - 1 by omega)] at HW
      refine enterQ (c := cx w 31) Try.func21 rfl rfl rfl rfl ?_
      repeat' (first | ((with_reducible apply oq_id); first | (apply oq_fn; exact rfl; first | exact trivial | (refine ⟨?_, ?_⟩ <;> omega) | (refine ⟨?_, ?_, ?_⟩ <;> omega) | omega | skip) | ((with_reducible apply oq_load); exact rfl; exact rfl) | ((with_reducible apply oq_loadAgg); exact rfl; exact rfl) | ((with_reducible apply oq_call (k := 65) (hc := Try.call65)); exact rfl; exact rfl; exact fun D w1 hw1 => HO w1 hw1.ext.ext) | ((with_reducible apply oq_call (k := 66) (hc := Try.call66)); exact rfl; exact rfl; exact fun D w1 hw1 => HW w1) | ((with_reducible apply oq_call (k := 67) (hc := Try.call67)); exact rfl; exact rfl; exact fun D w1 hw1 => HM 1 w1 hw1.ext.ext) | ((with_reducible apply oq_call (k := 67) (hc := Try.call67)); exact rfl; exact rfl; exact fun D w1 hw1 => HM 2 w1 hw1.ext.ext) | ((with_reducible apply oq_call (k := 67) (hc := Try.call67)); exact rfl; exact rfl; exact fun D w1 hw1 => HM 3 w1 hw1.ext.ext) | ((with_reducible apply oq_call (k := 67) (hc := Try.call67)); exact rfl; exact rfl; exact fun D w1 hw1 => HM 4 w1 hw1.ext.ext)) | ((with_reducible apply tl_id); first | ((with_reducible apply tl_nil)) | ((with_reducible apply u_q); exact rfl; exact rfl; exact rfl; exact rfl) | ((with_reducible apply u_s); exact rfl; exact rfl; exact rfl)) | ((with_reducible apply gx_id); first | ((with_reducible apply v_nil)) | ((with_reducible apply v_q); exact rfl; exact rfl; exact rfl)) | ((with_reducible apply os_id); first | ((with_reducible apply os_x); exact rfl)) | ((with_reducible apply ox_id); first | ((with_reducible apply ox_boxAgg); exact rfl; intro _)) | ((with_reducible apply rd_id); first | (apply Rd.own; (repeat (first | exact P0 | apply P1)); exact rfl; done)) | ((with_reducible apply t_id); first | ((with_reducible apply t_seq)) | (apply t_region; kernel_rfl) | (apply t_drawn; kernel_rfl; decide +kernel; try simp only [List.append_eq, List.cons_append, List.nil_append]) | ((with_reducible apply t_condF); exact rfl) | ((with_reducible apply t_ret)) | ((with_reducible apply t_skip))) | with_reducible apply q_thenN | exact Rdn.zero | apply Rdn.succ | ((with_reducible apply end_ret)) | exact rvs_nil | ((with_reducible apply rvs_cons)) | ((with_reducible apply rv_tmp); exact rfl))
      all_goals rfl
    · rw [if_neg hin]
      rw [show (decide (0 ≤ f) && decide (f ≤ (o.fl.length : Int) - 1)) = false by
        rw [Bool.eq_false_iff]; intro h; simp only [Bool.and_eq_true, decide_eq_true_eq] at h; omega] at HW
      refine enterQ (c := cx w 31) Try.func21 rfl rfl rfl rfl ?_
      repeat' (first | ((with_reducible apply oq_id); first | (apply oq_fn; exact rfl; first | exact trivial | (refine ⟨?_, ?_⟩ <;> omega) | (refine ⟨?_, ?_, ?_⟩ <;> omega) | omega | skip) | ((with_reducible apply oq_load); exact rfl; exact rfl) | ((with_reducible apply oq_loadAgg); exact rfl; exact rfl) | ((with_reducible apply oq_call (k := 65) (hc := Try.call65)); exact rfl; exact rfl; exact fun D w1 hw1 => HO w1 hw1.ext.ext) | ((with_reducible apply oq_call (k := 66) (hc := Try.call66)); exact rfl; exact rfl; exact fun D w1 hw1 => HW w1)) | ((with_reducible apply tl_id); first | ((with_reducible apply tl_nil)) | ((with_reducible apply u_q); exact rfl; exact rfl; exact rfl; exact rfl) | ((with_reducible apply u_s); exact rfl; exact rfl; exact rfl)) | ((with_reducible apply os_id); first | ((with_reducible apply os_x); exact rfl)) | ((with_reducible apply ox_id); first | ((with_reducible apply ox_boxAgg); exact rfl; intro _)) | ((with_reducible apply rd_id); first | (apply Rd.own; (repeat (first | exact P0 | apply P1)); exact rfl; done)) | ((with_reducible apply t_id); first | ((with_reducible apply t_seq)) | (apply t_region; kernel_rfl) | ((with_reducible apply t_condT); exact rfl) | ((with_reducible apply t_condF); exact rfl) | ((with_reducible apply t_ret)) | ((with_reducible apply t_skip))) | with_reducible apply q_thenN | with_reducible apply q_thenR | exact Rdn.zero | apply Rdn.succ | ((with_reducible apply end_ret)) | exact rvs_nil | ((with_reducible apply rvs_cons)) | ((with_reducible apply rv_tmp); exact rfl))
      all_goals rfl

theorem refPurse_calls (o : Off) (A : Option Addr) (cf : Nat) (B : Option Addr) (cb : Nat) (w : World) (hA : RdS w 4 A o.fl.length (o.fl.map depCells)) (hB : RdS w 3 B o.bk.length (o.bk.map bkCells)) (hu : ∀ d ∈ o.fl, 0 ≤ d.state) (hn : o.fl.length ≤ 1000000) (hn2 : o.bk.length ≤ 1000000) : Calls Try.prog 23 #[.agg ⟨offCells o A cf B cb⟩] w fun e w' => e = .returned (.tuple #[.int .i64 (purseS o).1, .int .i64 (purseS o).2.1, .int .i64 (purseS o).2.2.1, .int .i64 (purseS o).2.2.2.1, .int .i64 (purseS o).2.2.2.2]) ∧ Ext w w' := by
  have HO := fun w1 (hx : Ext w w1) => refOffice_calls o A cf B cb w1 (hA.ext hx) (hB.ext hx) hu hn hn2
  unfold purseS
  cases hv : officeB o with
  | false =>
    rw [hv] at HO
    simp only [Bool.false_eq_true, if_false]
    refine enterQ (c := cx w 25) Try.func23 rfl rfl rfl rfl ?_
    repeat' (first | ((with_reducible apply oq_id); first | (apply oq_fn; exact rfl; first | exact trivial | (refine ⟨?_, ?_⟩ <;> omega) | (refine ⟨?_, ?_, ?_⟩ <;> omega) | omega | skip) | ((with_reducible apply oq_loadAgg); exact rfl; exact rfl) | ((with_reducible apply oq_call (k := 65) (hc := Try.call65)); exact rfl; exact rfl; exact fun D w1 hw1 => HO w1 hw1.ext.ext)) | ((with_reducible apply tl_id); first | ((with_reducible apply tl_nil)) | ((with_reducible apply u_q); exact rfl; exact rfl; exact rfl; exact rfl) | ((with_reducible apply u_s); exact rfl; exact rfl; exact rfl)) | ((with_reducible apply os_id); first | ((with_reducible apply os_x); exact rfl)) | ((with_reducible apply ox_id); first | ((with_reducible apply ox_boxAgg); exact rfl; intro _)) | ((with_reducible apply rd_id); first | (apply Rd.own; (repeat (first | exact P0 | apply P1)); exact rfl; done)) | ((with_reducible apply t_id); first | ((with_reducible apply t_seq)) | (apply t_region; kernel_rfl) | ((with_reducible apply t_condT); exact rfl) | ((with_reducible apply t_ret))) | with_reducible apply q_thenN | with_reducible apply q_thenR | exact Rdn.zero | apply Rdn.succ | ((with_reducible apply end_ret)) | exact rvs_nil | ((with_reducible apply rvs_cons)) | ((with_reducible apply rv_tmp); exact rfl))
    all_goals rfl
  | true =>
    rw [hv] at HO
    simp only [if_true]
    obtain ⟨h1, hd, hb, _⟩ := officeB_in hu hv
    have hi := headB_in h1
    have HS := fun w1 (hx : Ext w w1) => refSums_calls o A cf B cb w1 (hA.ext hx) (hB.ext hx) hd hb (by omega)
    refine enterQ (c := cx w 25) Try.func23 rfl rfl rfl rfl ?_
    repeat' (first | ((with_reducible apply oq_id); first | (apply oq_fn; exact rfl; first | exact trivial | (refine ⟨?_, ?_⟩ <;> omega) | (refine ⟨?_, ?_, ?_⟩ <;> omega) | omega | skip) | ((with_reducible apply oq_loadAgg); exact rfl; exact rfl) | ((with_reducible apply oq_call (k := 65) (hc := Try.call65)); exact rfl; exact rfl; exact fun D w1 hw1 => HO w1 hw1.ext.ext) | ((with_reducible apply oq_call (k := 69) (hc := Try.call69)); exact rfl; exact rfl; exact fun D w1 hw1 => HS w1 hw1.ext.ext)) | ((with_reducible apply tl_id); first | ((with_reducible apply tl_nil)) | ((with_reducible apply u_q); exact rfl; exact rfl; exact rfl; exact rfl) | ((with_reducible apply u_s); exact rfl; exact rfl; exact rfl)) | ((with_reducible apply os_id); first | ((with_reducible apply os_x); exact rfl)) | ((with_reducible apply ox_id); first | ((with_reducible apply ox_boxAgg); exact rfl; intro _)) | ((with_reducible apply rd_id); first | (apply Rd.own; (repeat (first | exact P0 | apply P1)); exact rfl; done)) | ((with_reducible apply t_id); first | ((with_reducible apply t_seq)) | (apply t_region; kernel_rfl) | ((with_reducible apply t_condF); exact rfl) | ((with_reducible apply t_ret)) | ((with_reducible apply t_skip))) | with_reducible apply q_thenN | exact Rdn.zero | apply Rdn.succ | ((with_reducible apply end_ret)) | exact rvs_nil | ((with_reducible apply rvs_cons)) | ((with_reducible apply rv_tmp); exact rfl))
    all_goals rfl

theorem refTurn_calls (o : Off) (A : Option Addr) (cf : Nat) (B : Option Addr) (cb : Nat) (w : World) (hA : RdS w 4 A o.fl.length (o.fl.map depCells)) (hB : RdS w 3 B o.bk.length (o.bk.map bkCells)) (hu : ∀ d ∈ o.fl, 0 ≤ d.state) (hn : o.fl.length ≤ 1000000) (hn2 : o.bk.length ≤ 1000000) (i : Int) : Calls Try.prog 25 #[.agg ⟨offCells o A cf B cb⟩, .int .i64 i] w fun e w' => e = .returned (.tuple #[.int .i64 (turnS o i).1, .int .i64 (turnS o i).2]) ∧ Ext w w' := by
  have HO := fun w1 (hx : Ext w w1) => refOffice_calls o A cf B cb w1 (hA.ext hx) (hB.ext hx) hu hn hn2
  unfold turnS
  cases hv : officeB o with
  | false =>
    rw [hv] at HO
    simp only [Bool.false_eq_true, if_false]
    refine enterQ (c := cx w 56) Try.func25 rfl rfl rfl rfl ?_
    repeat' (first | ((with_reducible apply oq_id); first | (apply oq_fn; exact rfl; first | exact trivial | (refine ⟨?_, ?_⟩ <;> omega) | (refine ⟨?_, ?_, ?_⟩ <;> omega) | omega | skip) | ((with_reducible apply oq_loadAgg); exact rfl; exact rfl) | ((with_reducible apply oq_call (k := 65) (hc := Try.call65)); exact rfl; exact rfl; exact fun D w1 hw1 => HO w1 hw1.ext.ext)) | ((with_reducible apply tl_id); first | ((with_reducible apply tl_nil)) | ((with_reducible apply u_q); exact rfl; exact rfl; exact rfl; exact rfl) | ((with_reducible apply u_s); exact rfl; exact rfl; exact rfl)) | ((with_reducible apply os_id); first | ((with_reducible apply os_x); exact rfl)) | ((with_reducible apply ox_id); first | ((with_reducible apply ox_boxAgg); exact rfl; intro _)) | ((with_reducible apply rd_id); first | (apply Rd.own; (repeat (first | exact P0 | apply P1)); exact rfl; done)) | ((with_reducible apply t_id); first | ((with_reducible apply t_seq)) | (apply t_region; kernel_rfl) | ((with_reducible apply t_condT); exact rfl) | ((with_reducible apply t_ret))) | with_reducible apply q_thenN | with_reducible apply q_thenR | exact Rdn.zero | apply Rdn.succ | ((with_reducible apply end_ret)) | exact rvs_nil | ((with_reducible apply rvs_cons)) | ((with_reducible apply rv_tmp); exact rfl))
    all_goals rfl
  | true =>
    rw [hv] at HO
    simp only [if_true]
    have HW := fun w1 => within_calls i 0 ((o.bk.length : Int) - 1) w1
    by_cases hin : 0 ≤ i ∧ i < (o.bk.length : Int)
    · rw [if_pos hin]
      rw [decide_eq_true (show 0 ≤ i by omega), decide_eq_true (show i ≤ (o.bk.length : Int) - 1 by omega)] at HW
      obtain ⟨j, rfl⟩ : ∃ j : Nat, i = (j : Int) := ⟨i.toNat, by omega⟩
      rw [Int.toNat_natCast]
      obtain ⟨p1, p2, x, hB1, _, hx, d0, d1, d2⟩ := bk_read hB (show j < o.bk.length by omega)
      rw [hx]
      simp only
      subst hB1
      by_cases h1 : x.state = 1
      · rw [if_pos h1]
        refine enterQ (c := cx w 56) Try.func25 rfl rfl rfl rfl ?_
        repeat' (first | ((with_reducible apply oq_id); first | (focus ((with_reducible apply oq_indexAddrN); exact rfl; exact rfl; exact rfl; exact rfl; omega)) | (apply oq_fn; exact rfl; first | exact trivial | (refine ⟨?_, ?_⟩ <;> omega) | (refine ⟨?_, ?_, ?_⟩ <;> omega) | omega | skip) | ((with_reducible apply oq_load); exact rfl; exact rfl) | ((with_reducible apply oq_loadAgg); exact rfl; exact rfl) | ((with_reducible apply oq_call (k := 65) (hc := Try.call65)); exact rfl; exact rfl; exact fun D w1 hw1 => HO w1 hw1.ext.ext) | ((with_reducible apply oq_call (k := 66) (hc := Try.call66)); exact rfl; exact rfl; exact fun D w1 hw1 => HW w1)) | ((with_reducible apply tl_id); first | ((with_reducible apply tl_nil)) | ((with_reducible apply u_q); exact rfl; exact rfl; exact rfl; exact rfl) | ((with_reducible apply u_s0); exact rfl; exact rfl) | ((with_reducible apply u_s); exact rfl; exact rfl; exact rfl)) | ((with_reducible apply os_id); first | ((with_reducible apply os_x); exact rfl) | ((with_reducible apply os_storeAgg); exact rfl; exact rfl; exact rfl; exact rfl; exact rfl)) | ((with_reducible apply ox_id); first | ((with_reducible apply ox_alloc); exact rfl; intro _) | ((with_reducible apply ox_boxAgg); exact rfl; intro _)) | ((with_reducible apply rd_id); first | (apply Rd.own; (repeat (first | exact P0 | apply P1)); exact rfl; done) | (apply Rd.old; (first | (with_reducible assumption) | exact c0 | exact c1 | exact c2 | exact c3 | exact c4 | exact c5 | exact c6 | exact c7 | exact c8 | exact d0 | exact d1 | exact d2 | exact d3 | exact d4 | exact d5); first | exact List.not_mem_nil | exact m0 | exact m1 | exact m2 | exact m3 | exact m4 | exact m5 | exact m6 | exact m7 | exact m8 | exact m9)) | ((with_reducible apply t_id); first | ((with_reducible apply t_seq)) | (apply t_region; kernel_rfl) | ((with_reducible apply t_condF); exact rfl) | ((with_reducible apply t_condD); exact rfl; all_goals first | (intro hp; try (exfalso; omega)) | skip) | ((with_reducible apply t_ret)) | ((with_reducible apply t_skip))) | with_reducible apply q_thenN | with_reducible apply q_thenR | exact P0 | exact Rdn.zero | apply Rdn.succ | ((with_reducible apply Norm.nil); exact rfl) | ((with_reducible apply Norm.cons); exact rfl) | ((with_reducible apply end_ret)) | exact rvs_nil | ((with_reducible apply rvs_cons)) | ((with_reducible apply rv_tmp); exact rfl) | exact Nat.le_of_ble_eq_true rfl)
        all_goals rfl
      · rw [if_neg h1]
        by_cases h2 : x.state = 2
        · rw [if_pos h2]
          refine enterQ (c := cx w 56) Try.func25 rfl rfl rfl rfl ?_
          repeat' (first | ((with_reducible apply oq_id); first | (focus ((with_reducible apply oq_indexAddrN); exact rfl; exact rfl; exact rfl; exact rfl; omega)) | (apply oq_fn; exact rfl; first | exact trivial | (refine ⟨?_, ?_⟩ <;> omega) | (refine ⟨?_, ?_, ?_⟩ <;> omega) | omega | skip) | ((with_reducible apply oq_load); exact rfl; exact rfl) | ((with_reducible apply oq_loadAgg); exact rfl; exact rfl) | ((with_reducible apply oq_call (k := 65) (hc := Try.call65)); exact rfl; exact rfl; exact fun D w1 hw1 => HO w1 hw1.ext.ext) | ((with_reducible apply oq_call (k := 66) (hc := Try.call66)); exact rfl; exact rfl; exact fun D w1 hw1 => HW w1)) | ((with_reducible apply tl_id); first | ((with_reducible apply tl_nil)) | ((with_reducible apply u_q); exact rfl; exact rfl; exact rfl; exact rfl) | ((with_reducible apply u_s0); exact rfl; exact rfl) | ((with_reducible apply u_s); exact rfl; exact rfl; exact rfl)) | ((with_reducible apply os_id); first | ((with_reducible apply os_x); exact rfl) | ((with_reducible apply os_storeAgg); exact rfl; exact rfl; exact rfl; exact rfl; exact rfl)) | ((with_reducible apply ox_id); first | ((with_reducible apply ox_alloc); exact rfl; intro _) | ((with_reducible apply ox_boxAgg); exact rfl; intro _)) | ((with_reducible apply rd_id); first | (apply Rd.own; (repeat (first | exact P0 | apply P1)); exact rfl; done) | (apply Rd.old; (first | (with_reducible assumption) | exact c0 | exact c1 | exact c2 | exact c3 | exact c4 | exact c5 | exact c6 | exact c7 | exact c8 | exact d0 | exact d1 | exact d2 | exact d3 | exact d4 | exact d5); first | exact List.not_mem_nil | exact m0 | exact m1 | exact m2 | exact m3 | exact m4 | exact m5 | exact m6 | exact m7 | exact m8 | exact m9)) | ((with_reducible apply t_id); first | ((with_reducible apply t_seq)) | (apply t_region; kernel_rfl) | ((with_reducible apply t_condF); exact rfl) | ((with_reducible apply t_condD); exact rfl; all_goals first | (intro hp; try (exfalso; omega)) | skip) | ((with_reducible apply t_condN); exact rfl; all_goals first | (intro hp; try (exfalso; omega)) | skip) | ((with_reducible apply t_skip)) | ((with_reducible apply t_block))) | with_reducible apply q_thenN | exact P0 | exact Rdn.zero | apply Rdn.succ | ((with_reducible apply Norm.nil); exact rfl) | ((with_reducible apply Norm.cons); exact rfl) | exact Nat.le_of_ble_eq_true rfl)
          apply t_loopK (ι := Nat) [1, 2, 4, 5, 6, 55] (fun k => [(8, .int .i64 (k : Nat)), (7, .int .i64 (manyTo o.bk x.flight 2 k + 1))]) (fun _ => []) (fun k => k ≤ j) (fun k => j - k) (0)
          (repeat (first | exact KeepF.nil | (apply KeepF.cons; exact rfl) | apply KeepF.skip))
          (repeat (first | exact FrSub.nil | (apply FrSub.cons; exact rfl)))
          (repeat (first | exact HpSub.refl _ | (apply HpSub.consE; (repeat (first | exact P0 | apply P1)); exact rfl) | exact HpSub.nil))
          · exact Nat.zero_le _
          rintro k hk
          try simp only [List.cons_append, List.nil_append]
          have hmi := many_in o.bk x.flight 2 k
          obtain ⟨mk, hmk⟩ : ∃ q, manyTo o.bk x.flight 2 k = q := ⟨_, rfl⟩
          rw [hmk] at hmi ⊢
          by_cases hlt : k < j
          · obtain ⟨b1, o1, y, hA1, _, hy, c0, c1, c2⟩ := bk_read hB (show k < o.bk.length by omega)
            obtain ⟨rfl, rfl⟩ : p1 = b1 ∧ p2 = o1 := by simpa using hA1
            clear hA1
            cases hi : isB x.flight 2 y with
            | true =>
              have hs := many_yes hy hi
              rw [hmk] at hs
              unfold isB at hi
              simp only [Bool.and_eq_true, decide_eq_true_eq] at hi
              repeat' (first | ((with_reducible apply oq_id); first | (focus ((with_reducible apply oq_indexAddrN); exact rfl; exact rfl; exact rfl; exact rfl; omega)) | (apply oq_fn; exact rfl; first | exact trivial | (refine ⟨?_, ?_⟩ <;> omega) | (refine ⟨?_, ?_, ?_⟩ <;> omega) | omega | skip) | ((with_reducible apply oq_load); exact rfl; exact rfl)) | ((with_reducible apply tl_id); first | ((with_reducible apply tl_nil)) | ((with_reducible apply u_q); exact rfl; exact rfl; exact rfl; exact rfl)) | ((with_reducible apply gx_id); first | ((with_reducible apply v_nil)) | ((with_reducible apply v_q); exact rfl; exact rfl; exact rfl) | ((with_reducible apply v_splitD); exact rfl; exact rfl; all_goals first | (intro hp; try (exfalso; omega)) | skip)) | ((with_reducible apply rd_id); first | (apply Rd.own; (repeat (first | exact P0 | apply P1)); exact rfl; done) | (apply Rd.old; (first | (with_reducible assumption) | exact c0 | exact c1 | exact c2 | exact c3 | exact c4 | exact c5 | exact c6 | exact c7 | exact c8 | exact d0 | exact d1 | exact d2 | exact d3 | exact d4 | exact d5); first | exact List.not_mem_nil | exact m0 | exact m1 | exact m2 | exact m3 | exact m4 | exact m5 | exact m6 | exact m7 | exact m8 | exact m9)) | ((with_reducible apply t_id); first | ((with_reducible apply t_seq)) | (apply t_region; kernel_rfl) | (apply t_drawn; kernel_rfl; decide +kernel; try simp only [List.append_eq, List.cons_append, List.nil_append]) | ((with_reducible apply t_condD); exact rfl; all_goals first | (intro hp; try (exfalso; omega)) | skip) | ((with_reducible apply t_skip)) | ((with_reducible apply t_block))) | with_reducible apply q_thenN | with_reducible apply q_blockN)
              all_goals (refine ⟨k + 1, by omega, by omega, ?_, ?_⟩)
              all_goals ((try simp only [List.cons_append, List.nil_append]); (repeat' (first | exact FrSub.nil | (apply FrSub.cons; exact rfl) | (apply FrSub.consE; exact rfl; (rw [hs])) | exact HpSub.refl _)))
            | false =>
              have hs := many_no hy hi
              rw [hmk] at hs
              unfold isB at hi
              by_cases hf : y.flight = x.flight
              · have hss : y.state ≠ 2 := by simpa [hf] using hi
                repeat' (first | ((with_reducible apply oq_id); first | (focus ((with_reducible apply oq_indexAddrN); exact rfl; exact rfl; exact rfl; exact rfl; omega)) | (apply oq_fn; exact rfl; first | exact trivial | (refine ⟨?_, ?_⟩ <;> omega) | (refine ⟨?_, ?_, ?_⟩ <;> omega) | omega | skip) | ((with_reducible apply oq_load); exact rfl; exact rfl)) | ((with_reducible apply tl_id); first | ((with_reducible apply tl_nil)) | ((with_reducible apply u_q); exact rfl; exact rfl; exact rfl; exact rfl)) | ((with_reducible apply gx_id); first | ((with_reducible apply v_nil)) | ((with_reducible apply v_q); exact rfl; exact rfl; exact rfl) | ((with_reducible apply v_splitD); exact rfl; exact rfl; all_goals first | (intro hp; try (exfalso; omega)) | skip)) | ((with_reducible apply rd_id); first | (apply Rd.own; (repeat (first | exact P0 | apply P1)); exact rfl; done) | (apply Rd.old; (first | (with_reducible assumption) | exact c0 | exact c1 | exact c2 | exact c3 | exact c4 | exact c5 | exact c6 | exact c7 | exact c8 | exact d0 | exact d1 | exact d2 | exact d3 | exact d4 | exact d5); first | exact List.not_mem_nil | exact m0 | exact m1 | exact m2 | exact m3 | exact m4 | exact m5 | exact m6 | exact m7 | exact m8 | exact m9)) | ((with_reducible apply t_id); first | ((with_reducible apply t_seq)) | (apply t_region; kernel_rfl) | (apply t_drawn; kernel_rfl; decide +kernel; try simp only [List.append_eq, List.cons_append, List.nil_append]) | ((with_reducible apply t_condD); exact rfl; all_goals first | (intro hp; try (exfalso; omega)) | skip) | ((with_reducible apply t_skip)) | ((with_reducible apply t_block))) | with_reducible apply q_thenN | with_reducible apply q_blockN)
                all_goals (refine ⟨k + 1, by omega, by omega, ?_, ?_⟩)
                all_goals ((try simp only [List.cons_append, List.nil_append]); (repeat' (first | exact FrSub.nil | (apply FrSub.cons; exact rfl) | (apply FrSub.consE; exact rfl; (rw [hs])) | exact HpSub.refl _)))
              · repeat' (first | ((with_reducible apply oq_id); first | (focus ((with_reducible apply oq_indexAddrN); exact rfl; exact rfl; exact rfl; exact rfl; omega)) | (apply oq_fn; exact rfl; first | exact trivial | (refine ⟨?_, ?_⟩ <;> omega) | (refine ⟨?_, ?_, ?_⟩ <;> omega) | omega | skip) | ((with_reducible apply oq_load); exact rfl; exact rfl)) | ((with_reducible apply tl_id); first | ((with_reducible apply tl_nil)) | ((with_reducible apply u_q); exact rfl; exact rfl; exact rfl; exact rfl)) | ((with_reducible apply gx_id); first | ((with_reducible apply v_nil)) | ((with_reducible apply v_q); exact rfl; exact rfl; exact rfl) | ((with_reducible apply v_skip); exact rfl; exact rfl; exact rfl) | ((with_reducible apply v_splitD); exact rfl; exact rfl; all_goals first | (intro hp; try (exfalso; omega)) | skip)) | ((with_reducible apply rd_id); first | (apply Rd.own; (repeat (first | exact P0 | apply P1)); exact rfl; done) | (apply Rd.old; (first | (with_reducible assumption) | exact c0 | exact c1 | exact c2 | exact c3 | exact c4 | exact c5 | exact c6 | exact c7 | exact c8 | exact d0 | exact d1 | exact d2 | exact d3 | exact d4 | exact d5); first | exact List.not_mem_nil | exact m0 | exact m1 | exact m2 | exact m3 | exact m4 | exact m5 | exact m6 | exact m7 | exact m8 | exact m9)) | ((with_reducible apply t_id); first | ((with_reducible apply t_seq)) | (apply t_region; kernel_rfl) | (apply t_drawn; kernel_rfl; decide +kernel; try simp only [List.append_eq, List.cons_append, List.nil_append]) | ((with_reducible apply t_condF); exact rfl) | ((with_reducible apply t_condD); exact rfl; all_goals first | (intro hp; try (exfalso; omega)) | skip) | ((with_reducible apply t_skip)) | ((with_reducible apply t_block))) | with_reducible apply q_thenN | with_reducible apply q_blockN)
                all_goals (refine ⟨k + 1, by omega, by omega, ?_, ?_⟩)
                all_goals ((try simp only [List.cons_append, List.nil_append]); (repeat' (first | exact FrSub.nil | (apply FrSub.cons; exact rfl) | (apply FrSub.consE; exact rfl; (rw [hs])) | exact HpSub.refl _)))
          · obtain rfl : j = k := by omega
            repeat' (first | ((with_reducible apply oq_id); first | (apply oq_fn; exact rfl; first | exact trivial | (refine ⟨?_, ?_⟩ <;> omega) | (refine ⟨?_, ?_, ?_⟩ <;> omega) | omega | skip)) | ((with_reducible apply tl_id); first | ((with_reducible apply tl_nil)) | ((with_reducible apply u_q); exact rfl; exact rfl; exact rfl; exact rfl)) | ((with_reducible apply t_id); first | ((with_reducible apply t_seq)) | (apply t_region; kernel_rfl) | ((with_reducible apply t_condD); exact rfl; all_goals first | (intro hp; try (exfalso; omega)) | skip) | ((with_reducible apply t_ret)) | ((with_reducible apply t_exit))) | with_reducible apply q_thenN | with_reducible apply q_thenE | ((with_reducible apply q_blockE); exact rfl) | ((with_reducible apply end_ret)) | exact rvs_nil | ((with_reducible apply rvs_cons)) | ((with_reducible apply rv_tmp); exact rfl))
            all_goals (rw [hmk]; rfl)
        · rw [if_neg h2]
          refine enterQ (c := cx w 56) Try.func25 rfl rfl rfl rfl ?_
          repeat' (first | ((with_reducible apply oq_id); first | (focus ((with_reducible apply oq_indexAddrN); exact rfl; exact rfl; exact rfl; exact rfl; omega)) | (apply oq_fn; exact rfl; first | exact trivial | (refine ⟨?_, ?_⟩ <;> omega) | (refine ⟨?_, ?_, ?_⟩ <;> omega) | omega | skip) | ((with_reducible apply oq_load); exact rfl; exact rfl) | ((with_reducible apply oq_loadAgg); exact rfl; exact rfl) | ((with_reducible apply oq_call (k := 65) (hc := Try.call65)); exact rfl; exact rfl; exact fun D w1 hw1 => HO w1 hw1.ext.ext) | ((with_reducible apply oq_call (k := 66) (hc := Try.call66)); exact rfl; exact rfl; exact fun D w1 hw1 => HW w1)) | ((with_reducible apply tl_id); first | ((with_reducible apply tl_nil)) | ((with_reducible apply u_q); exact rfl; exact rfl; exact rfl; exact rfl) | ((with_reducible apply u_s0); exact rfl; exact rfl) | ((with_reducible apply u_s); exact rfl; exact rfl; exact rfl)) | ((with_reducible apply os_id); first | ((with_reducible apply os_x); exact rfl) | ((with_reducible apply os_storeAgg); exact rfl; exact rfl; exact rfl; exact rfl; exact rfl)) | ((with_reducible apply ox_id); first | ((with_reducible apply ox_alloc); exact rfl; intro _) | ((with_reducible apply ox_boxAgg); exact rfl; intro _)) | ((with_reducible apply rd_id); first | (apply Rd.own; (repeat (first | exact P0 | apply P1)); exact rfl; done) | (apply Rd.old; (first | (with_reducible assumption) | exact c0 | exact c1 | exact c2 | exact c3 | exact c4 | exact c5 | exact c6 | exact c7 | exact c8 | exact d0 | exact d1 | exact d2 | exact d3 | exact d4 | exact d5); first | exact List.not_mem_nil | exact m0 | exact m1 | exact m2 | exact m3 | exact m4 | exact m5 | exact m6 | exact m7 | exact m8 | exact m9)) | ((with_reducible apply t_id); first | ((with_reducible apply t_seq)) | (apply t_region; kernel_rfl) | ((with_reducible apply t_condF); exact rfl) | ((with_reducible apply t_condD); exact rfl; all_goals first | (intro hp; try (exfalso; omega)) | skip) | ((with_reducible apply t_condN); exact rfl; all_goals first | (intro hp; try (exfalso; omega)) | skip) | ((with_reducible apply t_ret)) | ((with_reducible apply t_skip))) | with_reducible apply q_thenN | with_reducible apply q_thenR | exact P0 | exact Rdn.zero | apply Rdn.succ | ((with_reducible apply Norm.nil); exact rfl) | ((with_reducible apply Norm.cons); exact rfl) | ((with_reducible apply end_ret)) | exact rvs_nil | ((with_reducible apply rvs_cons)) | ((with_reducible apply rv_tmp); exact rfl) | exact Nat.le_of_ble_eq_true rfl)
          all_goals rfl
    · rw [if_neg hin]
      rw [show (decide (0 ≤ i) && decide (i ≤ (o.bk.length : Int) - 1)) = false by
        rw [Bool.eq_false_iff]; intro h; simp only [Bool.and_eq_true, decide_eq_true_eq] at h; omega] at HW
      refine enterQ (c := cx w 56) Try.func25 rfl rfl rfl rfl ?_
      repeat' (first | ((with_reducible apply oq_id); first | (apply oq_fn; exact rfl; first | exact trivial | (refine ⟨?_, ?_⟩ <;> omega) | (refine ⟨?_, ?_, ?_⟩ <;> omega) | omega | skip) | ((with_reducible apply oq_load); exact rfl; exact rfl) | ((with_reducible apply oq_loadAgg); exact rfl; exact rfl) | ((with_reducible apply oq_call (k := 65) (hc := Try.call65)); exact rfl; exact rfl; exact fun D w1 hw1 => HO w1 hw1.ext.ext) | ((with_reducible apply oq_call (k := 66) (hc := Try.call66)); exact rfl; exact rfl; exact fun D w1 hw1 => HW w1)) | ((with_reducible apply tl_id); first | ((with_reducible apply tl_nil)) | ((with_reducible apply u_q); exact rfl; exact rfl; exact rfl; exact rfl) | ((with_reducible apply u_s); exact rfl; exact rfl; exact rfl)) | ((with_reducible apply os_id); first | ((with_reducible apply os_x); exact rfl)) | ((with_reducible apply ox_id); first | ((with_reducible apply ox_boxAgg); exact rfl; intro _)) | ((with_reducible apply rd_id); first | (apply Rd.own; (repeat (first | exact P0 | apply P1)); exact rfl; done)) | ((with_reducible apply t_id); first | ((with_reducible apply t_seq)) | (apply t_region; kernel_rfl) | ((with_reducible apply t_condT); exact rfl) | ((with_reducible apply t_condF); exact rfl) | ((with_reducible apply t_ret)) | ((with_reducible apply t_skip))) | with_reducible apply q_thenN | with_reducible apply q_thenR | exact Rdn.zero | apply Rdn.succ | ((with_reducible apply end_ret)) | exact rvs_nil | ((with_reducible apply rvs_cons)) | ((with_reducible apply rv_tmp); exact rfl))
      all_goals rfl

end Go.Proofs.Ytmlmgipngbndgaa
