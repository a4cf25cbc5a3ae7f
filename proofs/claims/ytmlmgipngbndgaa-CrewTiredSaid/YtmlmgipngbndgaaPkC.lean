/- Small functions over ints; the office, plainly; the reference's office. -/
import Derived.Test.YtmlmgipngbndgaaPkB
/- Lists of numbers: searching, bounds; care and flights. -/
namespace Go.Proofs.Ytmlmgipngbndgaa
open Go.RowKit
attribute [local irreducible] OQ OS OX Rd T TL GX GL AL AI RV wpG SAny Calls
set_option maxRecDepth 100000
set_option maxHeartbeats 2000000
set_option linter.unusedVariables false
set_option linter.unusedSimpArgs false


def inCells (z : Int) : List Value := [.int .i64 z]
theorem in_read {w : World} {A : Option Addr} {n : Nat} {l : List Int} (h : RdS w 1 A n (l.map inCells)) {i : Nat} (hi : i < n) :
    ∃ b o x, A = some ⟨b, o, none⟩ ∧ b < w.heap.size ∧ l[i]? = some x ∧ w.cell? ⟨b, o + i * 1, none⟩ = some (.int .i64 x) := by
  obtain ⟨b, o, cs, hA, hb, hx, _, hc⟩ := h.row hi
  simp only [List.getElem?_map, Option.map_eq_some_iff] at hx
  obtain ⟨x, hx, rfl⟩ := hx
  exact ⟨b, o, x, hA, hb, hx, hc 0 _ rfl⟩
def idxV {α : Type} (p : α → Bool) (l : List α) : Int := match l.findIdx? p with | some i => (i : Int) | none => -1
theorem idxV_some {α : Type} {p : α → Bool} {l : List α} {k : Nat} {x : α} (h : l[k]? = some x) (hp : p x = true) (hb : ∀ y ∈ l.take k, p y = false) : idxV p l = (k : Int) := by
  have : l.findIdx? p = some k := by
    rw [List.findIdx?_eq_some_iff_getElem]
    obtain ⟨hk, rfl⟩ := List.getElem?_eq_some_iff.1 h
    refine ⟨hk, hp, fun j hj => ?_⟩
    have := hb l[j] (List.mem_iff_getElem.2 ⟨j, by simp; omega, by simp⟩)
    simp [this]
  unfold idxV; rw [this]
theorem idxV_none {α : Type} {p : α → Bool} {l : List α} (hb : ∀ y ∈ l, p y = false) : idxV p l = -1 := by
  have : l.findIdx? p = none := List.findIdx?_eq_none_iff.2 hb
  unfold idxV; rw [this]
theorem idxV_any {α : Type} {p : α → Bool} {l : List α} : decide (0 ≤ idxV p l) = l.any p := by
  unfold idxV
  cases h : l.findIdx? p with
  | some i =>
    obtain ⟨hi, hp, _⟩ := List.findIdx?_eq_some_iff_getElem.1 h
    have h2 : l.any p = true := List.any_eq_true.2 ⟨l[i], List.getElem_mem hi, hp⟩
    rw [h2]
    simp
  | none =>
    have := List.findIdx?_eq_none_iff.1 h
    have h2 : l.any p = false := by
      rw [Bool.eq_false_iff, Ne, List.any_eq_true]
      rintro ⟨x, hx, hp⟩
      rw [this x hx] at hp; cases hp
    rw [h2]
    rfl

theorem indexInt_calls (f : Nat) (caps : List Value) (p : Int → Bool) (A : Option Addr) (n c : Nat) (l : List Int) (w : World) (hr : RdS w 1 A n (l.map inCells)) (hn : n ≤ 1000000) (hc : ∀ (a : Array Value) (w : World), (callFunc f a).run Try.prog w = .ok (.enter f a) w)
    (hf : ∀ x ∈ l, ∀ w1, Ext w w1 → Calls Try.prog f ⟨.int .i64 x :: caps⟩ w1 fun e w' => e = .returned (.bool (p x)) ∧ Ext w1 w') :
    Calls Try.prog 76 #[.slice A n c, .func (.func f) #[] ⟨caps⟩] w fun e w' => e = .returned (.int .i64 (idxV p l)) ∧ Ext w w' := by
  have hl := hr.len
  simp only [List.length_map] at hl
  
  refine enterQ (c := cx w 19) Try.func76 rfl rfl rfl rfl ?_
  repeat' (first | ((with_reducible apply oq_id); first | (apply oq_fn; exact rfl; first | exact trivial | (refine ⟨?_, ?_⟩ <;> omega) | (refine ⟨?_, ?_, ?_⟩ <;> omega) | omega | skip)) | ((with_reducible apply tl_id); first | ((with_reducible apply tl_nil)) | ((with_reducible apply u_q); exact rfl; exact rfl; exact rfl; exact rfl)) | ((with_reducible apply t_id); first | ((with_reducible apply t_seq)) | (apply t_region; kernel_rfl) | ((with_reducible apply t_block))) | with_reducible apply q_thenN)
  apply t_loopK (ι := Nat) [0, 1, 7] (fun k => [(8, .int .i64 (k : Nat))]) (fun _ => []) (fun k => k ≤ n ∧ ∀ x ∈ l.take k, p x = false) (fun k => n - k) (0)
  (repeat (first | exact KeepF.nil | (apply KeepF.cons; exact rfl) | apply KeepF.skip))
  (repeat (first | exact FrSub.nil | (apply FrSub.cons; exact rfl)))
  (repeat (first | exact HpSub.refl _ | (apply HpSub.consE; (repeat (first | exact P0 | apply P1)); exact rfl) | exact HpSub.nil))
  · exact ⟨by omega, by simp⟩
  rintro k ⟨hk, hkp⟩
  try simp only [List.cons_append, List.nil_append]
  by_cases hlt : k < n
  · obtain ⟨b1, o1, x, rfl, _, hx, c0⟩ := in_read hr hlt
    have hfx := hf x (List.mem_of_getElem? hx)
    cases hpx : p x with
    | true =>
      rw [hpx] at hfx
      repeat' (first | ((with_reducible apply oq_id); first | (focus ((with_reducible apply oq_indexAddrN); exact rfl; exact rfl; exact rfl; exact rfl; omega)) | (apply oq_fn; exact rfl; first | exact trivial | (refine ⟨?_, ?_⟩ <;> omega) | (refine ⟨?_, ?_, ?_⟩ <;> omega) | omega | skip) | ((with_reducible apply oq_load); exact rfl; exact rfl) | ((with_reducible apply oq_call (k := f) (hc := hc)); exact rfl; exact rfl; exact fun D w1 hw1 => hfx w1 hw1.ext.ext)) | ((with_reducible apply tl_id); first | ((with_reducible apply tl_nil)) | ((with_reducible apply u_q); exact rfl; exact rfl; exact rfl; exact rfl)) | ((with_reducible apply rd_id); first | (apply Rd.old; (first | (with_reducible assumption) | exact c0 | exact c1 | exact c2 | exact c3 | exact c4 | exact c5 | exact c6 | exact c7 | exact c8 | exact d0 | exact d1 | exact d2 | exact d3 | exact d4 | exact d5); first | exact List.not_mem_nil | exact m0 | exact m1 | exact m2 | exact m3 | exact m4 | exact m5 | exact m6 | exact m7 | exact m8 | exact m9)) | ((with_reducible apply t_id); first | ((with_reducible apply t_seq)) | (apply t_region; kernel_rfl) | ((with_reducible apply t_condT); exact rfl) | ((with_reducible apply t_condD); exact rfl; all_goals first | (intro hp; try (exfalso; omega)) | skip) | ((with_reducible apply t_ret)) | ((with_reducible apply t_skip)) | ((with_reducible apply t_block))) | with_reducible apply q_thenN | with_reducible apply q_thenR | with_reducible apply q_blockR | ((with_reducible apply end_ret)) | exact rvs_nil | ((with_reducible apply rvs_cons)) | ((with_reducible apply rv_tmp); exact rfl))
      rw [idxV_some hx hpx hkp]; rfl
    | false =>
      rw [hpx] at hfx
      repeat' (first | ((with_reducible apply oq_id); first | (focus ((with_reducible apply oq_indexAddrN); exact rfl; exact rfl; exact rfl; exact rfl; omega)) | (apply oq_fn; exact rfl; first | exact trivial | (refine ⟨?_, ?_⟩ <;> omega) | (refine ⟨?_, ?_, ?_⟩ <;> omega) | omega | skip) | ((with_reducible apply oq_load); exact rfl; exact rfl) | ((with_reducible apply oq_call (k := f) (hc := hc)); exact rfl; exact rfl; exact fun D w1 hw1 => hfx w1 hw1.ext.ext)) | ((with_reducible apply tl_id); first | ((with_reducible apply tl_nil)) | ((with_reducible apply u_q); exact rfl; exact rfl; exact rfl; exact rfl)) | ((with_reducible apply rd_id); first | (apply Rd.old; (first | (with_reducible assumption) | exact c0 | exact c1 | exact c2 | exact c3 | exact c4 | exact c5 | exact c6 | exact c7 | exact c8 | exact d0 | exact d1 | exact d2 | exact d3 | exact d4 | exact d5); first | exact List.not_mem_nil | exact m0 | exact m1 | exact m2 | exact m3 | exact m4 | exact m5 | exact m6 | exact m7 | exact m8 | exact m9)) | ((with_reducible apply t_id); first | ((with_reducible apply t_seq)) | (apply t_region; kernel_rfl) | ((with_reducible apply t_condF); exact rfl) | ((with_reducible apply t_condD); exact rfl; all_goals first | (intro hp; try (exfalso; omega)) | skip) | ((with_reducible apply t_skip)) | ((with_reducible apply t_block))) | with_reducible apply q_thenN | with_reducible apply q_blockN)
      refine ⟨k + 1, ⟨by omega, fun y hy => ?_⟩, by omega, ?_, ?_⟩
      · rw [List.take_add_one, hx, List.mem_append] at hy
        rcases hy with hy | hy
        · exact hkp y hy
        · obtain rfl : y = x := by simpa using hy
          exact hpx
      · try simp only [List.cons_append, List.nil_append]
        (repeat (first | exact FrSub.nil | (apply FrSub.cons; exact rfl)))
      · try simp only [List.cons_append, List.nil_append]
        (repeat (first | exact HpSub.refl _ | (apply HpSub.consE; (repeat (first | exact P0 | apply P1)); exact rfl) | exact HpSub.nil))
  · repeat' (first | ((with_reducible apply oq_id); first | (apply oq_fn; exact rfl; first | exact trivial | (refine ⟨?_, ?_⟩ <;> omega) | (refine ⟨?_, ?_, ?_⟩ <;> omega) | omega | skip)) | ((with_reducible apply tl_id); first | ((with_reducible apply tl_nil)) | ((with_reducible apply u_q); exact rfl; exact rfl; exact rfl; exact rfl)) | ((with_reducible apply t_id); first | ((with_reducible apply t_seq)) | (apply t_region; kernel_rfl) | ((with_reducible apply t_condD); exact rfl; all_goals first | (intro hp; try (exfalso; omega)) | skip) | ((with_reducible apply t_ret)) | ((with_reducible apply t_exit))) | with_reducible apply q_thenN | with_reducible apply q_thenE | ((with_reducible apply q_blockE); exact rfl) | ((with_reducible apply end_ret)) | exact rvs_nil | ((with_reducible apply rvs_cons)) | ((with_reducible apply rv_tmp); exact rfl))
    rw [idxV_none (fun y hy => hkp y (by rw [List.take_of_length_le (by omega)]; exact hy))]; rfl

theorem containsInt_calls (f : Nat) (caps : List Value) (p : Int → Bool) (A : Option Addr) (n c : Nat) (l : List Int) (w : World) (hr : RdS w 1 A n (l.map inCells)) (hn : n ≤ 1000000) (hc : ∀ (a : Array Value) (w : World), (callFunc f a).run Try.prog w = .ok (.enter f a) w)
    (hf : ∀ x ∈ l, ∀ w1, Ext w w1 → Calls Try.prog f ⟨.int .i64 x :: caps⟩ w1 fun e w' => e = .returned (.bool (p x)) ∧ Ext w1 w') : Calls Try.prog 96 #[.slice A n c, .func (.func f) #[] ⟨caps⟩] w fun e w' => e = .returned (.bool (l.any p)) ∧ Ext w w' := by
  
  refine enterQ (c := cx w 9) Try.func96 rfl rfl rfl rfl ?_
  repeat' (first | ((with_reducible apply oq_id); first | (apply oq_fn; exact rfl; first | exact trivial | (refine ⟨?_, ?_⟩ <;> omega) | (refine ⟨?_, ?_, ?_⟩ <;> omega) | omega | skip) | ((with_reducible apply oq_call (k := 76) (hc := Try.call76)); exact rfl; exact rfl; exact fun D w1 hw1 => indexInt_calls f caps p A n c l w1 (hr.ext hw1.ext.ext) hn hc (fun x hx w2 h2 => hf x hx w2 (hw1.ext.ext.trans h2)))) | ((with_reducible apply tl_id); first | ((with_reducible apply tl_nil)) | ((with_reducible apply u_q); exact rfl; exact rfl; exact rfl; exact rfl)) | ((with_reducible apply t_id); first | ((with_reducible apply t_seq)) | (apply t_region; kernel_rfl) | ((with_reducible apply t_ret))) | with_reducible apply q_thenN | ((with_reducible apply end_ret)) | exact rvs_nil | ((with_reducible apply rvs_cons)) | ((with_reducible apply rv_tmp); exact rfl))
  all_goals (rw [← idxV_any]; rfl)

theorem indexOf_calls (z : Int) (A : Option Addr) (n c : Nat) (l : List Int) (w : World) (hr : RdS w 1 A n (l.map inCells)) (hn : n ≤ 1000000)  :
    Calls Try.prog 102 #[.slice A n c, .int .i64 z] w fun e w' => e = .returned (.int .i64 (idxV (fun x => decide (z = x)) l)) ∧ Ext w w' := by
  have hl := hr.len
  simp only [List.length_map] at hl
  
  refine enterQ (c := cx w 19) Try.func102 rfl rfl rfl rfl ?_
  repeat' (first | ((with_reducible apply oq_id); first | (apply oq_fn; exact rfl; first | exact trivial | (refine ⟨?_, ?_⟩ <;> omega) | (refine ⟨?_, ?_, ?_⟩ <;> omega) | omega | skip)) | ((with_reducible apply tl_id); first | ((with_reducible apply tl_nil)) | ((with_reducible apply u_q); exact rfl; exact rfl; exact rfl; exact rfl)) | ((with_reducible apply t_id); first | ((with_reducible apply t_seq)) | (apply t_region; kernel_rfl) | ((with_reducible apply t_block))) | with_reducible apply q_thenN)
  apply t_loopK (ι := Nat) [0, 1, 7] (fun k => [(8, .int .i64 (k : Nat))]) (fun _ => []) (fun k => k ≤ n ∧ ∀ x ∈ l.take k, (fun x => decide (z = x)) x = false) (fun k => n - k) (0)
  (repeat (first | exact KeepF.nil | (apply KeepF.cons; exact rfl) | apply KeepF.skip))
  (repeat (first | exact FrSub.nil | (apply FrSub.cons; exact rfl)))
  (repeat (first | exact HpSub.refl _ | (apply HpSub.consE; (repeat (first | exact P0 | apply P1)); exact rfl) | exact HpSub.nil))
  · exact ⟨by omega, by simp⟩
  rintro k ⟨hk, hkp⟩
  try simp only [List.cons_append, List.nil_append]
  by_cases hlt : k < n
  · obtain ⟨b1, o1, x, rfl, _, hx, c0⟩ := in_read hr hlt
    
    cases hpx : (fun x => decide (z = x)) x with
    | true =>
      have hpe := hpx; simp only [decide_eq_true_eq, decide_eq_false_iff_not] at hpe
      repeat' (first | ((with_reducible apply oq_id); first | (focus ((with_reducible apply oq_indexAddrN); exact rfl; exact rfl; exact rfl; exact rfl; omega)) | (apply oq_fn; exact rfl; first | exact trivial | (refine ⟨?_, ?_⟩ <;> omega) | (refine ⟨?_, ?_, ?_⟩ <;> omega) | omega | skip) | ((with_reducible apply oq_load); exact rfl; exact rfl)) | ((with_reducible apply tl_id); first | ((with_reducible apply tl_nil)) | ((with_reducible apply u_q); exact rfl; exact rfl; exact rfl; exact rfl)) | ((with_reducible apply rd_id); first | (apply Rd.old; (first | (with_reducible assumption) | exact c0 | exact c1 | exact c2 | exact c3 | exact c4 | exact c5 | exact c6 | exact c7 | exact c8 | exact d0 | exact d1 | exact d2 | exact d3 | exact d4 | exact d5); first | exact List.not_mem_nil | exact m0 | exact m1 | exact m2 | exact m3 | exact m4 | exact m5 | exact m6 | exact m7 | exact m8 | exact m9)) | ((with_reducible apply t_id); first | ((with_reducible apply t_seq)) | (apply t_region; kernel_rfl) | ((with_reducible apply t_condD); exact rfl; all_goals first | (intro hp; try (exfalso; omega)) | skip) | ((with_reducible apply t_ret)) | ((with_reducible apply t_skip)) | ((with_reducible apply t_block))) | with_reducible apply q_thenN | with_reducible apply q_thenR | with_reducible apply q_blockR | ((with_reducible apply end_ret)) | exact rvs_nil | ((with_reducible apply rvs_cons)) | ((with_reducible apply rv_tmp); exact rfl))
      rw [idxV_some hx hpx hkp]; rfl
    | false =>
      have hpe := hpx; simp only [decide_eq_true_eq, decide_eq_false_iff_not] at hpe
      repeat' (first | ((with_reducible apply oq_id); first | (focus ((with_reducible apply oq_indexAddrN); exact rfl; exact rfl; exact rfl; exact rfl; omega)) | (apply oq_fn; exact rfl; first | exact trivial | (refine ⟨?_, ?_⟩ <;> omega) | (refine ⟨?_, ?_, ?_⟩ <;> omega) | omega | skip) | ((with_reducible apply oq_load); exact rfl; exact rfl)) | ((with_reducible apply tl_id); first | ((with_reducible apply tl_nil)) | ((with_reducible apply u_q); exact rfl; exact rfl; exact rfl; exact rfl)) | ((with_reducible apply rd_id); first | (apply Rd.old; (first | (with_reducible assumption) | exact c0 | exact c1 | exact c2 | exact c3 | exact c4 | exact c5 | exact c6 | exact c7 | exact c8 | exact d0 | exact d1 | exact d2 | exact d3 | exact d4 | exact d5); first | exact List.not_mem_nil | exact m0 | exact m1 | exact m2 | exact m3 | exact m4 | exact m5 | exact m6 | exact m7 | exact m8 | exact m9)) | ((with_reducible apply t_id); first | ((with_reducible apply t_seq)) | (apply t_region; kernel_rfl) | ((with_reducible apply t_condD); exact rfl; all_goals first | (intro hp; try (exfalso; omega)) | skip) | ((with_reducible apply t_skip)) | ((with_reducible apply t_block))) | with_reducible apply q_thenN | with_reducible apply q_blockN)
      refine ⟨k + 1, ⟨by omega, fun y hy => ?_⟩, by omega, ?_, ?_⟩
      · rw [List.take_add_one, hx, List.mem_append] at hy
        rcases hy with hy | hy
        · exact hkp y hy
        · obtain rfl : y = x := by simpa using hy
          exact hpx
      · try simp only [List.cons_append, List.nil_append]
        (repeat (first | exact FrSub.nil | (apply FrSub.cons; exact rfl)))
      · try simp only [List.cons_append, List.nil_append]
        (repeat (first | exact HpSub.refl _ | (apply HpSub.consE; (repeat (first | exact P0 | apply P1)); exact rfl) | exact HpSub.nil))
  · repeat' (first | ((with_reducible apply oq_id); first | (apply oq_fn; exact rfl; first | exact trivial | (refine ⟨?_, ?_⟩ <;> omega) | (refine ⟨?_, ?_, ?_⟩ <;> omega) | omega | skip)) | ((with_reducible apply tl_id); first | ((with_reducible apply tl_nil)) | ((with_reducible apply u_q); exact rfl; exact rfl; exact rfl; exact rfl)) | ((with_reducible apply t_id); first | ((with_reducible apply t_seq)) | (apply t_region; kernel_rfl) | ((with_reducible apply t_condD); exact rfl; all_goals first | (intro hp; try (exfalso; omega)) | skip) | ((with_reducible apply t_ret)) | ((with_reducible apply t_exit))) | with_reducible apply q_thenN | with_reducible apply q_thenE | ((with_reducible apply q_blockE); exact rfl) | ((with_reducible apply end_ret)) | exact rvs_nil | ((with_reducible apply rvs_cons)) | ((with_reducible apply rv_tmp); exact rfl))
    rw [idxV_none (fun y hy => hkp y (by rw [List.take_of_length_le (by omega)]; exact hy))]; rfl

theorem containsOf_calls (z : Int) (A : Option Addr) (n c : Nat) (l : List Int) (w : World) (hr : RdS w 1 A n (l.map inCells)) (hn : n ≤ 1000000) : Calls Try.prog 72 #[.slice A n c, .int .i64 z] w fun e w' => e = .returned (.bool (l.any fun x => decide (z = x))) ∧ Ext w w' := by
  
  refine enterQ (c := cx w 9) Try.func72 rfl rfl rfl rfl ?_
  repeat' (first | ((with_reducible apply oq_id); first | (apply oq_fn; exact rfl; first | exact trivial | (refine ⟨?_, ?_⟩ <;> omega) | (refine ⟨?_, ?_, ?_⟩ <;> omega) | omega | skip) | ((with_reducible apply oq_call (k := 102) (hc := Try.call102)); exact rfl; exact rfl; exact fun D w1 hw1 => indexOf_calls z A n c l w1 (hr.ext hw1.ext.ext) hn)) | ((with_reducible apply tl_id); first | ((with_reducible apply tl_nil)) | ((with_reducible apply u_q); exact rfl; exact rfl; exact rfl; exact rfl)) | ((with_reducible apply t_id); first | ((with_reducible apply t_seq)) | (apply t_region; kernel_rfl) | ((with_reducible apply t_ret))) | with_reducible apply q_thenN | ((with_reducible apply end_ret)) | exact rvs_nil | ((with_reducible apply rvs_cons)) | ((with_reducible apply rv_tmp); exact rfl))
  all_goals (rw [← idxV_any]; rfl)


def allFrom (lo hi : Int) (l : List Int) : Bool := l.all fun z => decide (lo ≤ z) && decide (z ≤ hi)
def outOf (lo hi : Int) (z : Int) : Bool := decide (z < lo) || decide (hi < z)
theorem allFrom_any (lo hi : Int) (l : List Int) : (!(l.any (outOf lo hi))) = allFrom lo hi l := by
  unfold allFrom
  induction l with
  | nil => rfl
  | cons z l ih =>
    simp only [List.any_cons, List.all_cons, Bool.not_or, ih]
    congr 1
    unfold outOf
    by_cases h1 : z < lo <;> by_cases h2 : hi < z <;> simp [h1, h2, Int.not_le.2, Int.not_lt.1] <;> omega

theorem from1_calls (b1 b2 : Nat) (lo hi z : Int) (w : World) (c0 : w.cell? ⟨b1, 0, none⟩ = some (.int .i64 lo)) (c1 : w.cell? ⟨b2, 0, none⟩ = some (.int .i64 hi)) :
    Calls Try.prog 97 #[.int .i64 z, .pointer (some ⟨b1, 0, none⟩), .pointer (some ⟨b2, 0, none⟩)] w fun e w' => e = .returned (.bool (outOf lo hi z)) ∧ Ext w w' := by
  refine enterQ (c := cx w 13) Try.func97 rfl rfl rfl rfl ?_
  repeat' (first | ((with_reducible apply oq_id); first | (apply oq_fn; exact rfl; first | exact trivial | (refine ⟨?_, ?_⟩ <;> omega) | (refine ⟨?_, ?_, ?_⟩ <;> omega) | omega | skip) | ((with_reducible apply oq_load); exact rfl; exact rfl)) | ((with_reducible apply tl_id); first | ((with_reducible apply tl_nil)) | ((with_reducible apply u_q); exact rfl; exact rfl; exact rfl; exact rfl) | ((with_reducible apply u_skip); exact rfl; exact rfl; exact rfl) | ((with_reducible apply u_splitD); exact rfl; exact rfl; all_goals first | (intro hp; try (exfalso; omega)) | skip)) | ((with_reducible apply rd_id); first | (apply Rd.old; (first | (with_reducible assumption) | exact c0 | exact c1 | exact c2 | exact c3 | exact c4 | exact c5 | exact c6 | exact c7 | exact c8 | exact d0 | exact d1 | exact d2 | exact d3 | exact d4 | exact d5); first | exact List.not_mem_nil | exact m0 | exact m1 | exact m2 | exact m3 | exact m4 | exact m5 | exact m6 | exact m7 | exact m8 | exact m9)) | ((with_reducible apply t_id); first | ((with_reducible apply t_seq)) | (apply t_region; kernel_rfl) | ((with_reducible apply t_ret))) | with_reducible apply q_thenN | ((with_reducible apply end_ret)) | exact rvs_nil | ((with_reducible apply rvs_cons)) | ((with_reducible apply rv_tmp); exact rfl))
  all_goals (unfold outOf; first | (rw [decide_eq_true hp]; rfl) | (rw [decide_eq_false hp]; rfl))

theorem from_calls (lo hi : Int) (A : Option Addr) (n c : Nat) (l : List Int) (w : World) (hr : RdS w 1 A n (l.map inCells)) (hn : n ≤ 1000000) :
    Calls Try.prog 63 #[.int .i64 lo, .int .i64 hi, .slice A n c] w fun e w' => e = .returned (.bool (allFrom lo hi l)) ∧ Ext w w' := by
  refine enterQ (c := cx w 11) Try.func63 rfl rfl rfl rfl ?_
  repeat' (first | ((with_reducible apply oq_id); first | (apply oq_fn; exact rfl; first | exact trivial | (refine ⟨?_, ?_⟩ <;> omega) | (refine ⟨?_, ?_, ?_⟩ <;> omega) | omega | skip) | ((with_reducible apply oq_call (k := 96) (hc := Try.call96)); exact rfl; exact rfl; exact fun D w1 hw1 => containsInt_calls 97 [.pointer (some ⟨_, 0, none⟩), .pointer (some ⟨_, 0, none⟩)] (outOf lo hi) A n c l w1 (hr.ext hw1.ext.ext) hn Try.call97 (fun x hx w2 h2 => from1_calls _ _ lo hi x w2 (h2.cell (hw1.cellAt (by (repeat (first | exact P0 | apply P1))) rfl)) (h2.cell (hw1.cellAt (by (repeat (first | exact P0 | apply P1))) rfl))))) | ((with_reducible apply tl_id); first | ((with_reducible apply tl_nil)) | ((with_reducible apply u_q); exact rfl; exact rfl; exact rfl; exact rfl) | ((with_reducible apply u_s); exact rfl; exact rfl; exact rfl)) | ((with_reducible apply os_id); first | ((with_reducible apply os_x); exact rfl)) | ((with_reducible apply ox_id); first | ((with_reducible apply ox_box); exact rfl; exact rfl; intro _)) | ((with_reducible apply t_id); first | ((with_reducible apply t_seq)) | (apply t_region; kernel_rfl) | ((with_reducible apply t_ret))) | with_reducible apply q_thenN | ((with_reducible apply end_ret)) | exact rvs_nil | ((with_reducible apply rvs_cons)) | ((with_reducible apply rv_tmp); exact rfl))
  all_goals (rw [← allFrom_any]; rfl)

end Go.Proofs.Ytmlmgipngbndgaa
/- Care and flights: plain laws. -/
namespace Go.Proofs.Ytmlmgipngbndgaa
set_option linter.unusedVariables false
set_option linter.unusedSimpArgs false
def careOk (ev gr du : Int) : Bool := decide (1 ≤ ev ∧ ev ≤ 100000 ∧ 0 ≤ gr ∧ gr ≤ 100000 ∧ -gr ≤ du ∧ du ≤ 100000)
def careE (ev gr du : Int) : Int := if careOk ev gr du then 0 else 82
theorem careOk_all (ev gr du : Int) : (allFrom 1 100000 [ev] && (allFrom 0 100000 [gr] && allFrom (-gr) 100000 [du])) = careOk ev gr du := by
  unfold careOk allFrom
  rw [Bool.eq_iff_iff]
  simp
  omega
/-- The error of care and flights. -/
def caredE (ev gr du : Int) (fs : List Int) : Int := if careOk ev gr du then (if 60 < fs.length then 4 else if allFrom 1 10000 fs then 0 else 2) else 82
theorem cared_ok {ev gr du : Int} {fs : List Int} (h : caredE ev gr du fs = 0) : 1 ≤ ev ∧ ev ≤ 100000 ∧ 0 ≤ gr ∧ gr ≤ 100000 ∧ -gr ≤ du ∧ du ≤ 100000 ∧ fs.length ≤ 60 ∧ ∀ f ∈ fs, 1 ≤ f ∧ f ≤ 10000 := by
  unfold caredE at h
  by_cases h1 : careOk ev gr du = true
  · rw [if_pos h1] at h
    by_cases h2 : 60 < fs.length
    · rw [if_pos h2] at h; cases h
    · rw [if_neg h2] at h
      by_cases h3 : allFrom 1 10000 fs = true
      · unfold careOk at h1
        simp only [decide_eq_true_eq] at h1
        refine ⟨h1.1, h1.2.1, h1.2.2.1, h1.2.2.2.1, h1.2.2.2.2.1, h1.2.2.2.2.2, by omega, fun f hf => ?_⟩
        unfold allFrom at h3
        have := List.all_eq_true.1 h3 f hf
        simpa using this
      · rw [if_neg h3] at h; cases h
  · rw [if_neg h1] at h; cases h
/-- Is the j-th number of a plan for n flights as it has to be? -/
def plAt (n : Nat) (pl : List Int) (j : Nat) : Bool := match pl[j]? with
  | none => true
  | some x => decide (0 ≤ x) && decide (x < n) && (decide (j = 0) || match pl[j - 1]? with | some y => decide (y < x) | none => true)
def planB (n : Nat) (pl : List Int) : Bool := (List.range pl.length).all (plAt n pl)
theorem planB_no {n : Nat} {pl : List Int} {j : Nat} (hj : j < pl.length) (h : plAt n pl j = false) : planB n pl = false := by
  unfold planB
  rw [Bool.eq_false_iff, Ne, List.all_eq_true]
  intro h2
  rw [h2 j (List.mem_range.2 hj)] at h; cases h
theorem planB_yes {n : Nat} {pl : List Int} (h : ∀ j, j < pl.length → plAt n pl j = true) : planB n pl = true := by
  unfold planB
  rw [List.all_eq_true]
  exact fun j hj => h j (List.mem_range.1 hj)
theorem planB_at {n : Nat} {pl : List Int} (h : planB n pl = true) {j : Nat} (hj : j < pl.length) : plAt n pl j = true := by
  unfold planB at h
  exact List.all_eq_true.1 h j (List.mem_range.2 hj)
theorem planB_incr {n : Nat} {pl : List Int} (h : planB n pl = true) {i : Nat} : ∀ {j : Nat} {x y : Int}, i < j → pl[i]? = some x → pl[j]? = some y → x < y := by
  intro j
  induction j with
  | zero => intro x y hi; omega
  | succ j ih =>
    intro x y hi hx hy
    have hj : j + 1 < pl.length := (List.getElem?_eq_some_iff.1 hy).1
    have hp : pl[j]? = some pl[j] := List.getElem?_eq_getElem (by omega)
    have h1 := planB_at h hj
    unfold plAt at h1
    rw [hy] at h1
    simp only [Nat.add_sub_cancel, hp, Bool.and_eq_true, Bool.or_eq_true, decide_eq_true_eq] at h1
    have h2 : pl[j] < y := by
      rcases h1.2 with h2 | h2
      · omega
      · exact h2
    rcases Nat.lt_or_ge i j with h3 | h3
    · exact Int.lt_trans (ih h3 hx hp) h2
    · obtain rfl : i = j := by omega
      rw [hp] at hx
      obtain rfl := Option.some.inj hx
      exact h2
theorem planB_in {n : Nat} {pl : List Int} (h : planB n pl = true) {j : Nat} {x : Int} (hx : pl[j]? = some x) : 0 ≤ x ∧ x < n := by
  have h1 := planB_at h (List.getElem?_eq_some_iff.1 hx).1
  unfold plAt at h1
  rw [hx] at h1
  simp only [Bool.and_eq_true, decide_eq_true_eq] at h1
  exact h1.1
/-- Is there an inspection before flight i? -/
def inPl (pl : List Int) (i : Nat) : Bool := pl.any fun x => decide ((i : Int) = x)
/-- What is left after a flight. -/
def stp (ev : Int) (ins : Bool) (left f : Int) : Int := (if ins then min left 0 + ev else left) - f
/-- What is left before flight k. -/
def leftK (ev du : Int) (fs pl : List Int) : Nat → Int
  | 0 => du
  | k + 1 => stp ev (inPl pl k) (leftK ev du fs pl k) (fs[k]?.getD 0)
def lateAt (ev gr du : Int) (fs pl : List Int) (k : Nat) : Bool := decide (leftK ev du fs pl (k + 1) < -gr)
/-- What Late returns: what is left, the flight, the error. -/
def lateV (ev gr du : Int) (fs pl : List Int) : Int × Int × Int := match (List.range fs.length).find? (lateAt ev gr du fs pl) with
  | some k => (0, (k : Int), 83)
  | none => (leftK ev du fs pl fs.length, 0, 0)
def lateS (ev gr du : Int) (fs pl : List Int) : Int × Int × Int :=
  if caredE ev gr du fs = 0 then (if planB fs.length pl then lateV ev gr du fs pl else (0, 0, 2)) else (0, 0, caredE ev gr du fs)
theorem lateV_at {ev gr du : Int} {fs pl : List Int} {k : Nat} (hk : k < fs.length) (h : lateAt ev gr du fs pl k = true) (hb : ∀ j, j < k → lateAt ev gr du fs pl j = false) : lateV ev gr du fs pl = (0, (k : Int), 83) := by
  have : (List.range fs.length).find? (lateAt ev gr du fs pl) = some k := by
    rw [List.find?_range_eq_some]
    exact ⟨h, by simpa using hk, fun j hj => by rw [hb j hj]; rfl⟩
  unfold lateV
  rw [this]
theorem lateV_no {ev gr du : Int} {fs pl : List Int} (hb : ∀ j, j < fs.length → lateAt ev gr du fs pl j = false) : lateV ev gr du fs pl = (leftK ev du fs pl fs.length, 0, 0) := by
  have : (List.range fs.length).find? (lateAt ev gr du fs pl) = none := by
    rw [List.find?_eq_none]
    intro j hj
    rw [hb j (List.mem_range.1 hj)]; simp
  unfold lateV
  rw [this]
theorem leftK_in {ev gr du : Int} {fs pl : List Int} (h : caredE ev gr du fs = 0) : ∀ {k : Nat}, k ≤ fs.length → (∀ j, j < k → lateAt ev gr du fs pl j = false) → -100000 ≤ leftK ev du fs pl k ∧ leftK ev du fs pl k ≤ 100000 := by
  obtain ⟨e1, e2, g1, g2, d1, d2, _, hf⟩ := cared_ok h
  intro k
  induction k with
  | zero => intro _ _; unfold leftK; omega
  | succ k ih =>
    intro hk hb
    have h1 := ih (by omega) fun j hj => hb j (by omega)
    have h2 := hb k (by omega)
    unfold lateAt at h2
    simp only [decide_eq_false_iff_not] at h2
    have hx : fs[k]? = some fs[k] := List.getElem?_eq_getElem (by omega)
    have h3 := hf fs[k] (List.getElem_mem (by omega))
    refine ⟨by omega, ?_⟩
    unfold leftK stp
    rw [hx]
    simp only [Option.getD_some]
    split <;> omega
end Go.Proofs.Ytmlmgipngbndgaa
/- Care: small functions. -/
namespace Go.Proofs.Ytmlmgipngbndgaa
open Go.RowKit
attribute [local irreducible] OQ OS OX Rd T TL GX GL AL AI RV wpG SAny Calls
set_option maxRecDepth 100000
set_option maxHeartbeats 2000000
set_option linter.unusedVariables false
set_option linter.unusedSimpArgs false

theorem one_rows {w0 : World} {M : Ms} {H H' : Hp} {w : World} {g : Nat} {z : Int} {tg : Tg} (h : Has w0 M H w) (q : Pick H g [.int .i64 z] tg H') : RdS w 1 (some ⟨g, 0, none⟩) 1 ([z].map inCells) :=
  Blk.rows (h.blk _ q.mem).2 rfl (by simp [inCells])
theorem fromOne {w0 : World} {M : Ms} {H H' : Hp} {w : World} {g : Nat} {lo hi z : Int} {tg : Tg} {cp : Nat} {q : Bool} (hq : allFrom lo hi [z] = q) (h : Has w0 M H w) (p : Pick H g [.int .i64 z] tg H') :
    Calls Try.prog 63 #[.int .i64 lo, .int .i64 hi, .slice (some ⟨g, 0, none⟩) 1 cp] w fun e w' => e = .returned (.bool q) ∧ Ext w w' :=
  hq ▸ from_calls lo hi (some ⟨g, 0, none⟩) 1 cp [z] w (one_rows h p) (by omega)
theorem within_calls (z lo hi : Int) (w : World) : Calls Try.prog 66 #[.int .i64 z, .int .i64 lo, .int .i64 hi] w fun e w' => e = .returned (.bool (decide (lo ≤ z) && decide (z ≤ hi))) ∧ Ext w w' := by
  refine enterQ (c := cx w 15) Try.func66 rfl rfl rfl rfl ?_
  repeat' (first | ((with_reducible apply oq_id); first | (apply oq_fn; exact rfl; first | exact trivial | (refine ⟨?_, ?_⟩ <;> omega) | (refine ⟨?_, ?_, ?_⟩ <;> omega) | omega | skip)) | ((with_reducible apply tl_id); first | ((with_reducible apply tl_nil)) | ((with_reducible apply u_q); exact rfl; exact rfl; exact rfl; exact rfl) | ((with_reducible apply u_skip); exact rfl; exact rfl; exact rfl) | ((with_reducible apply u_splitD); exact rfl; exact rfl; all_goals first | (intro hp; try (exfalso; omega)) | skip)) | ((with_reducible apply t_id); first | ((with_reducible apply t_seq)) | (apply t_region; kernel_rfl) | ((with_reducible apply t_ret))) | with_reducible apply q_thenN | ((with_reducible apply end_ret)) | exact rvs_nil | ((with_reducible apply rvs_cons)) | ((with_reducible apply rv_tmp); exact rfl))
  all_goals (first | (rw [decide_eq_true hp]; rfl) | (rw [decide_eq_false hp]; rfl))

theorem checkCare_calls (ev gr du : Int) (w : World) : Calls Try.prog 30 #[.agg #[.int .i64 ev, .int .i64 gr, .int .i64 du]] w fun e w' => e = .returned (.int .i64 (careE ev gr du)) ∧ Ext w w' := by
  obtain ⟨q1, h1⟩ : ∃ q, allFrom 1 100000 [ev] = q := ⟨_, rfl⟩
  obtain ⟨q2, h2⟩ : ∃ q, allFrom 0 100000 [gr] = q := ⟨_, rfl⟩
  obtain ⟨q3, h3⟩ : ∃ q, allFrom (-gr) 100000 [du] = q := ⟨_, rfl⟩
  have key := careOk_all ev gr du
  rw [h1, h2, h3] at key
  unfold careE
  rw [← key]
  cases q2 with
  | false =>
    refine enterQ (c := cx w 25) Try.func30 rfl rfl rfl rfl ?_
    repeat' (first | ((with_reducible apply oq_id); first | (apply oq_fn; exact rfl; first | exact trivial | (refine ⟨?_, ?_⟩ <;> omega) | (refine ⟨?_, ?_, ?_⟩ <;> omega) | omega | skip) | ((with_reducible apply oq_load); exact rfl; exact rfl) | ((with_reducible apply oq_call (k := 63) (hc := Try.call63)); exact rfl; exact rfl; exact fun D w1 hw1 => fromOne h1 hw1 (by (repeat (first | exact P0 | apply P1)))) | ((with_reducible apply oq_call (k := 63) (hc := Try.call63)); exact rfl; exact rfl; exact fun D w1 hw1 => fromOne h2 hw1 (by (repeat (first | exact P0 | apply P1))))) | ((with_reducible apply tl_id); first | ((with_reducible apply tl_nil)) | ((with_reducible apply u_q); exact rfl; exact rfl; exact rfl; exact rfl) | ((with_reducible apply u_s); exact rfl; exact rfl; exact rfl) | ((with_reducible apply u_skip); exact rfl; exact rfl; exact rfl) | ((with_reducible apply u_split); exact rfl; exact rfl; all_goals first | intro hp | skip)) | ((with_reducible apply os_id); first | ((with_reducible apply os_x); exact rfl)) | ((with_reducible apply ox_id); first | ((with_reducible apply ox_boxAgg); exact rfl; intro _) | ((with_reducible apply ox_buildSlice1); exact rfl; exact rfl; exact rfl; exact rfl; exact rfl; exact rfl; intro _)) | ((with_reducible apply rd_id); first | (apply Rd.own; (repeat (first | exact P0 | apply P1)); exact rfl; done)) | ((with_reducible apply t_id); first | ((with_reducible apply t_seq)) | (apply t_region; kernel_rfl) | ((with_reducible apply t_condT); exact rfl) | ((with_reducible apply t_ret))) | with_reducible apply q_thenN | with_reducible apply q_thenR | ((with_reducible apply end_ret)) | exact rvs_nil | ((with_reducible apply rvs_cons)) | ((with_reducible apply rv_tmp); exact rfl))
    all_goals (cases q1 <;> cases q3 <;> first | rfl | simp_all)
  | true =>
    have hg : 0 ≤ gr ∧ gr ≤ 100000 := by unfold allFrom at h2; simpa using h2
    refine enterQ (c := cx w 25) Try.func30 rfl rfl rfl rfl ?_
    repeat' (first | ((with_reducible apply oq_id); first | (apply oq_fn; exact rfl; first | exact trivial | (refine ⟨?_, ?_⟩ <;> omega) | (refine ⟨?_, ?_, ?_⟩ <;> omega) | omega | skip) | ((with_reducible apply oq_load); exact rfl; exact rfl) | ((with_reducible apply oq_call (k := 63) (hc := Try.call63)); exact rfl; exact rfl; exact fun D w1 hw1 => fromOne h1 hw1 (by (repeat (first | exact P0 | apply P1)))) | ((with_reducible apply oq_call (k := 63) (hc := Try.call63)); exact rfl; exact rfl; exact fun D w1 hw1 => fromOne h2 hw1 (by (repeat (first | exact P0 | apply P1)))) | ((with_reducible apply oq_call (k := 63) (hc := Try.call63)); exact rfl; exact rfl; exact fun D w1 hw1 => fromOne h3 hw1 (by (repeat (first | exact P0 | apply P1))))) | ((with_reducible apply tl_id); first | ((with_reducible apply tl_nil)) | ((with_reducible apply u_q); exact rfl; exact rfl; exact rfl; exact rfl) | ((with_reducible apply u_s); exact rfl; exact rfl; exact rfl) | ((with_reducible apply u_skip); exact rfl; exact rfl; exact rfl) | ((with_reducible apply u_split); exact rfl; exact rfl; all_goals first | intro hp | skip)) | ((with_reducible apply os_id); first | ((with_reducible apply os_x); exact rfl)) | ((with_reducible apply ox_id); first | ((with_reducible apply ox_boxAgg); exact rfl; intro _) | ((with_reducible apply ox_buildSlice1); exact rfl; exact rfl; exact rfl; exact rfl; exact rfl; exact rfl; intro _)) | ((with_reducible apply rd_id); first | (apply Rd.own; (repeat (first | exact P0 | apply P1)); exact rfl; done)) | ((with_reducible apply t_id); first | ((with_reducible apply t_seq)) | (apply t_region; kernel_rfl) | ((with_reducible apply t_condT); exact rfl) | ((with_reducible apply t_cond); exact rfl; all_goals first | intro hp | skip) | ((with_reducible apply t_ret)) | ((with_reducible apply t_skip))) | with_reducible apply q_thenN | with_reducible apply q_thenR | ((with_reducible apply end_ret)) | exact rvs_nil | ((with_reducible apply rvs_cons)) | ((with_reducible apply rv_tmp); exact rfl))
    all_goals (cases q1 <;> cases q3 <;> first | rfl | simp_all)

theorem withinQ {z lo hi : Int} {q : Bool} (hq : allFrom lo hi [z] = q) (w : World) : Calls Try.prog 66 #[.int .i64 z, .int .i64 lo, .int .i64 hi] w fun e w' => e = .returned (.bool q) ∧ Ext w w' := by
  have := within_calls z lo hi w
  have e : (decide (lo ≤ z) && decide (z ≤ hi)) = q := by rw [← hq]; unfold allFrom; simp
  rw [e] at this
  exact this

theorem refCheckCare_calls (ev gr du : Int) (w : World) : Calls Try.prog 31 #[.agg #[.int .i64 ev, .int .i64 gr, .int .i64 du]] w fun e w' => e = .returned (.int .i64 (careE ev gr du)) ∧ Ext w w' := by
  obtain ⟨q1, h1⟩ : ∃ q, allFrom 1 100000 [ev] = q := ⟨_, rfl⟩
  obtain ⟨q2, h2⟩ : ∃ q, allFrom 0 100000 [gr] = q := ⟨_, rfl⟩
  obtain ⟨q3, h3⟩ : ∃ q, allFrom (-gr) 100000 [du] = q := ⟨_, rfl⟩
  have key := careOk_all ev gr du
  rw [h1, h2, h3] at key
  unfold careE
  rw [← key]
  cases q2 with
  | false =>
    refine enterQ (c := cx w 22) Try.func31 rfl rfl rfl rfl ?_
    repeat' (first | ((with_reducible apply oq_id); first | (apply oq_fn; exact rfl; first | exact trivial | (refine ⟨?_, ?_⟩ <;> omega) | (refine ⟨?_, ?_, ?_⟩ <;> omega) | omega | skip) | ((with_reducible apply oq_load); exact rfl; exact rfl) | ((with_reducible apply oq_call (k := 66) (hc := Try.call66)); exact rfl; exact rfl; exact fun D w1 hw1 => withinQ h1 w1) | ((with_reducible apply oq_call (k := 66) (hc := Try.call66)); exact rfl; exact rfl; exact fun D w1 hw1 => withinQ h2 w1)) | ((with_reducible apply tl_id); first | ((with_reducible apply tl_nil)) | ((with_reducible apply u_q); exact rfl; exact rfl; exact rfl; exact rfl) | ((with_reducible apply u_s); exact rfl; exact rfl; exact rfl) | ((with_reducible apply u_skip); exact rfl; exact rfl; exact rfl) | ((with_reducible apply u_split); exact rfl; exact rfl; all_goals first | intro hp | skip)) | ((with_reducible apply os_id); first | ((with_reducible apply os_x); exact rfl)) | ((with_reducible apply ox_id); first | ((with_reducible apply ox_boxAgg); exact rfl; intro _)) | ((with_reducible apply rd_id); first | (apply Rd.own; (repeat (first | exact P0 | apply P1)); exact rfl; done)) | ((with_reducible apply t_id); first | ((with_reducible apply t_seq)) | (apply t_region; kernel_rfl) | ((with_reducible apply t_condT); exact rfl) | ((with_reducible apply t_ret))) | with_reducible apply q_thenN | with_reducible apply q_thenR | ((with_reducible apply end_ret)) | exact rvs_nil | ((with_reducible apply rvs_cons)) | ((with_reducible apply rv_tmp); exact rfl))
    all_goals (cases q1 <;> cases q3 <;> first | rfl | simp_all)
  | true =>
    have hg : 0 ≤ gr ∧ gr ≤ 100000 := by unfold allFrom at h2; simpa using h2
    refine enterQ (c := cx w 22) Try.func31 rfl rfl rfl rfl ?_
    repeat' (first | ((with_reducible apply oq_id); first | (apply oq_fn; exact rfl; first | exact trivial | (refine ⟨?_, ?_⟩ <;> omega) | (refine ⟨?_, ?_, ?_⟩ <;> omega) | omega | skip) | ((with_reducible apply oq_load); exact rfl; exact rfl) | ((with_reducible apply oq_call (k := 66) (hc := Try.call66)); exact rfl; exact rfl; exact fun D w1 hw1 => withinQ h1 w1) | ((with_reducible apply oq_call (k := 66) (hc := Try.call66)); exact rfl; exact rfl; exact fun D w1 hw1 => withinQ h2 w1) | ((with_reducible apply oq_call (k := 66) (hc := Try.call66)); exact rfl; exact rfl; exact fun D w1 hw1 => withinQ h3 w1)) | ((with_reducible apply tl_id); first | ((with_reducible apply tl_nil)) | ((with_reducible apply u_q); exact rfl; exact rfl; exact rfl; exact rfl) | ((with_reducible apply u_s); exact rfl; exact rfl; exact rfl) | ((with_reducible apply u_skip); exact rfl; exact rfl; exact rfl) | ((with_reducible apply u_split); exact rfl; exact rfl; all_goals first | intro hp | skip)) | ((with_reducible apply os_id); first | ((with_reducible apply os_x); exact rfl)) | ((with_reducible apply ox_id); first | ((with_reducible apply ox_boxAgg); exact rfl; intro _)) | ((with_reducible apply rd_id); first | (apply Rd.own; (repeat (first | exact P0 | apply P1)); exact rfl; done)) | ((with_reducible apply t_id); first | ((with_reducible apply t_seq)) | (apply t_region; kernel_rfl) | ((with_reducible apply t_condT); exact rfl) | ((with_reducible apply t_cond); exact rfl; all_goals first | intro hp | skip) | ((with_reducible apply t_ret)) | ((with_reducible apply t_skip))) | with_reducible apply q_thenN | with_reducible apply q_thenR | ((with_reducible apply end_ret)) | exact rvs_nil | ((with_reducible apply rvs_cons)) | ((with_reducible apply rv_tmp); exact rfl))
    all_goals (cases q1 <;> cases q3 <;> first | rfl | simp_all)

theorem checkFlights_calls (ev gr du : Int) (A : Option Addr) (n c : Nat) (fs : List Int) (w : World) (hr : RdS w 1 A n (fs.map inCells)) (hn : n ≤ 1000000) : Calls Try.prog 71 #[.agg #[.int .i64 ev, .int .i64 gr, .int .i64 du], .slice A n c] w fun e w' => e = .returned (.int .i64 (caredE ev gr du fs)) ∧ Ext w w' := by
  have hl := hr.len
  simp only [List.length_map] at hl
  have HC := fun w1 => checkCare_calls ev gr du w1
  have HF := fun w1 (hx : Ext w w1) => from_calls 1 10000 A n c fs w1 (hr.ext hx) hn
  unfold careE at HC
  unfold caredE
  rw [hl]
  cases hq : careOk ev gr du with
  | false =>
    rw [hq] at HC
    simp only [Bool.false_eq_true, if_false] at HC ⊢
    refine enterQ (c := cx w 20) Try.func71 rfl rfl rfl rfl ?_
    repeat' (first | ((with_reducible apply oq_id); first | (apply oq_fn; exact rfl; first | exact trivial | (refine ⟨?_, ?_⟩ <;> omega) | (refine ⟨?_, ?_, ?_⟩ <;> omega) | omega | skip) | ((with_reducible apply oq_loadAgg); exact rfl; exact rfl) | ((with_reducible apply oq_call (k := 30) (hc := Try.call30)); exact rfl; exact rfl; exact fun D w1 hw1 => HC w1)) | ((with_reducible apply tl_id); first | ((with_reducible apply tl_nil)) | ((with_reducible apply u_q); exact rfl; exact rfl; exact rfl; exact rfl) | ((with_reducible apply u_s); exact rfl; exact rfl; exact rfl)) | ((with_reducible apply os_id); first | ((with_reducible apply os_x); exact rfl)) | ((with_reducible apply ox_id); first | ((with_reducible apply ox_boxAgg); exact rfl; intro _)) | ((with_reducible apply rd_id); first | (apply Rd.own; (repeat (first | exact P0 | apply P1)); exact rfl; done)) | ((with_reducible apply t_id); first | ((with_reducible apply t_seq)) | (apply t_region; kernel_rfl) | ((with_reducible apply t_condT); exact rfl) | ((with_reducible apply t_ret)) | ((with_reducible apply t_block))) | with_reducible apply q_thenN | with_reducible apply q_thenR | with_reducible apply q_blockR | exact Rdn.zero | apply Rdn.succ | ((with_reducible apply end_ret)) | exact rvs_nil | ((with_reducible apply rvs_cons)) | ((with_reducible apply rv_tmp); exact rfl))
    all_goals rfl
  | true =>
    rw [hq] at HC
    simp only [if_true] at HC ⊢
    cases ha : allFrom 1 10000 fs with
    | false =>
      rw [ha] at HF
      refine enterQ (c := cx w 20) Try.func71 rfl rfl rfl rfl ?_
      repeat' (first | ((with_reducible apply oq_id); first | (apply oq_fn; exact rfl; first | exact trivial | (refine ⟨?_, ?_⟩ <;> omega) | (refine ⟨?_, ?_, ?_⟩ <;> omega) | omega | skip) | ((with_reducible apply oq_loadAgg); exact rfl; exact rfl) | ((with_reducible apply oq_call (k := 30) (hc := Try.call30)); exact rfl; exact rfl; exact fun D w1 hw1 => HC w1) | ((with_reducible apply oq_call (k := 63) (hc := Try.call63)); exact rfl; exact rfl; exact fun D w1 hw1 => HF w1 hw1.ext.ext)) | ((with_reducible apply tl_id); first | ((with_reducible apply tl_nil)) | ((with_reducible apply u_q); exact rfl; exact rfl; exact rfl; exact rfl) | ((with_reducible apply u_s); exact rfl; exact rfl; exact rfl)) | ((with_reducible apply os_id); first | ((with_reducible apply os_x); exact rfl)) | ((with_reducible apply ox_id); first | ((with_reducible apply ox_boxAgg); exact rfl; intro _)) | ((with_reducible apply rd_id); first | (apply Rd.own; (repeat (first | exact P0 | apply P1)); exact rfl; done)) | ((with_reducible apply t_id); first | ((with_reducible apply t_seq)) | (apply t_region; kernel_rfl) | ((with_reducible apply t_condT); exact rfl) | ((with_reducible apply t_condF); exact rfl) | ((with_reducible apply t_condD); exact rfl; all_goals first | (intro hp; try (exfalso; omega)) | skip) | ((with_reducible apply t_ret)) | ((with_reducible apply t_block))) | with_reducible apply q_thenN | with_reducible apply q_thenR | with_reducible apply q_blockR | exact Rdn.zero | apply Rdn.succ | ((with_reducible apply end_ret)) | exact rvs_nil | ((with_reducible apply rvs_cons)) | ((with_reducible apply rv_tmp); exact rfl))
      all_goals (first | (rw [if_pos (by omega)]; rfl) | (rw [if_neg (by omega)]; rfl))
    | true =>
      rw [ha] at HF
      refine enterQ (c := cx w 20) Try.func71 rfl rfl rfl rfl ?_
      repeat' (first | ((with_reducible apply oq_id); first | (apply oq_fn; exact rfl; first | exact trivial | (refine ⟨?_, ?_⟩ <;> omega) | (refine ⟨?_, ?_, ?_⟩ <;> omega) | omega | skip) | ((with_reducible apply oq_loadAgg); exact rfl; exact rfl) | ((with_reducible apply oq_call (k := 30) (hc := Try.call30)); exact rfl; exact rfl; exact fun D w1 hw1 => HC w1) | ((with_reducible apply oq_call (k := 63) (hc := Try.call63)); exact rfl; exact rfl; exact fun D w1 hw1 => HF w1 hw1.ext.ext)) | ((with_reducible apply tl_id); first | ((with_reducible apply tl_nil)) | ((with_reducible apply u_q); exact rfl; exact rfl; exact rfl; exact rfl) | ((with_reducible apply u_s); exact rfl; exact rfl; exact rfl)) | ((with_reducible apply os_id); first | ((with_reducible apply os_x); exact rfl)) | ((with_reducible apply ox_id); first | ((with_reducible apply ox_boxAgg); exact rfl; intro _)) | ((with_reducible apply rd_id); first | (apply Rd.own; (repeat (first | exact P0 | apply P1)); exact rfl; done)) | ((with_reducible apply t_id); first | ((with_reducible apply t_seq)) | (apply t_region; kernel_rfl) | ((with_reducible apply t_condF); exact rfl) | ((with_reducible apply t_condD); exact rfl; all_goals first | (intro hp; try (exfalso; omega)) | skip) | ((with_reducible apply t_ret)) | ((with_reducible apply t_skip)) | ((with_reducible apply t_block))) | with_reducible apply q_thenN | with_reducible apply q_thenR | with_reducible apply q_blockR | with_reducible apply q_blockN | exact Rdn.zero | apply Rdn.succ | ((with_reducible apply end_ret)) | exact rvs_nil | ((with_reducible apply rvs_cons)) | ((with_reducible apply rv_tmp); exact rfl))
      all_goals (first | (rw [if_pos (by omega)]; rfl) | (rw [if_neg (by omega)]; rfl))

theorem cared_calls (ev gr du : Int) (A : Option Addr) (n c : Nat) (fs : List Int) (w : World) (hr : RdS w 1 A n (fs.map inCells)) (hn : n ≤ 1000000) : Calls Try.prog 73 #[.agg #[.int .i64 ev, .int .i64 gr, .int .i64 du], .slice A n c] w fun e w' => e = .returned (.int .i64 (caredE ev gr du fs)) ∧ Ext w w' := by
  have hl := hr.len
  simp only [List.length_map] at hl
  have HC := fun w1 => refCheckCare_calls ev gr du w1
  unfold careE at HC
  unfold caredE
  rw [hl]
  cases hq : careOk ev gr du with
  | false =>
    rw [hq] at HC
    simp only [Bool.false_eq_true, if_false] at HC ⊢
    refine enterQ (c := cx w 27) Try.func73 rfl rfl rfl rfl ?_
    repeat' (first | ((with_reducible apply oq_id); first | (apply oq_fn; exact rfl; first | exact trivial | (refine ⟨?_, ?_⟩ <;> omega) | (refine ⟨?_, ?_, ?_⟩ <;> omega) | omega | skip) | ((with_reducible apply oq_loadAgg); exact rfl; exact rfl) | ((with_reducible apply oq_call (k := 31) (hc := Try.call31)); exact rfl; exact rfl; exact fun D w1 hw1 => HC w1)) | ((with_reducible apply tl_id); first | ((with_reducible apply tl_nil)) | ((with_reducible apply u_q); exact rfl; exact rfl; exact rfl; exact rfl) | ((with_reducible apply u_s); exact rfl; exact rfl; exact rfl)) | ((with_reducible apply os_id); first | ((with_reducible apply os_x); exact rfl)) | ((with_reducible apply ox_id); first | ((with_reducible apply ox_boxAgg); exact rfl; intro _)) | ((with_reducible apply rd_id); first | (apply Rd.own; (repeat (first | exact P0 | apply P1)); exact rfl; done)) | ((with_reducible apply t_id); first | ((with_reducible apply t_seq)) | (apply t_region; kernel_rfl) | ((with_reducible apply t_condT); exact rfl) | ((with_reducible apply t_ret))) | with_reducible apply q_thenN | with_reducible apply q_thenR | exact Rdn.zero | apply Rdn.succ | ((with_reducible apply end_ret)) | exact rvs_nil | ((with_reducible apply rvs_cons)) | ((with_reducible apply rv_tmp); exact rfl))
    all_goals rfl
  | true =>
    rw [hq] at HC
    simp only [if_true] at HC ⊢
    by_cases hb : 60 < n
    · rw [if_pos hb]
      refine enterQ (c := cx w 27) Try.func73 rfl rfl rfl rfl ?_
      repeat' (first | ((with_reducible apply oq_id); first | (apply oq_fn; exact rfl; first | exact trivial | (refine ⟨?_, ?_⟩ <;> omega) | (refine ⟨?_, ?_, ?_⟩ <;> omega) | omega | skip) | ((with_reducible apply oq_loadAgg); exact rfl; exact rfl) | ((with_reducible apply oq_call (k := 31) (hc := Try.call31)); exact rfl; exact rfl; exact fun D w1 hw1 => HC w1)) | ((with_reducible apply tl_id); first | ((with_reducible apply tl_nil)) | ((with_reducible apply u_q); exact rfl; exact rfl; exact rfl; exact rfl) | ((with_reducible apply u_s); exact rfl; exact rfl; exact rfl)) | ((with_reducible apply os_id); first | ((with_reducible apply os_x); exact rfl)) | ((with_reducible apply ox_id); first | ((with_reducible apply ox_boxAgg); exact rfl; intro _)) | ((with_reducible apply rd_id); first | (apply Rd.own; (repeat (first | exact P0 | apply P1)); exact rfl; done)) | ((with_reducible apply t_id); first | ((with_reducible apply t_seq)) | (apply t_region; kernel_rfl) | ((with_reducible apply t_condF); exact rfl) | ((with_reducible apply t_condD); exact rfl; all_goals first | (intro hp; try (exfalso; omega)) | skip) | ((with_reducible apply t_ret)) | ((with_reducible apply t_skip))) | with_reducible apply q_thenN | with_reducible apply q_thenR | exact Rdn.zero | apply Rdn.succ | ((with_reducible apply end_ret)) | exact rvs_nil | ((with_reducible apply rvs_cons)) | ((with_reducible apply rv_tmp); exact rfl))
      all_goals rfl
    · rw [if_neg hb]
      refine enterQ (c := cx w 27) Try.func73 rfl rfl rfl rfl ?_
      repeat' (first | ((with_reducible apply oq_id); first | (apply oq_fn; exact rfl; first | exact trivial | (refine ⟨?_, ?_⟩ <;> omega) | (refine ⟨?_, ?_, ?_⟩ <;> omega) | omega | skip) | ((with_reducible apply oq_loadAgg); exact rfl; exact rfl) | ((with_reducible apply oq_call (k := 31) (hc := Try.call31)); exact rfl; exact rfl; exact fun D w1 hw1 => HC w1)) | ((with_reducible apply tl_id); first | ((with_reducible apply tl_nil)) | ((with_reducible apply u_q); exact rfl; exact rfl; exact rfl; exact rfl) | ((with_reducible apply u_s); exact rfl; exact rfl; exact rfl)) | ((with_reducible apply os_id); first | ((with_reducible apply os_x); exact rfl)) | ((with_reducible apply ox_id); first | ((with_reducible apply ox_boxAgg); exact rfl; intro _)) | ((with_reducible apply rd_id); first | (apply Rd.own; (repeat (first | exact P0 | apply P1)); exact rfl; done)) | ((with_reducible apply t_id); first | ((with_reducible apply t_seq)) | (apply t_region; kernel_rfl) | ((with_reducible apply t_condF); exact rfl) | ((with_reducible apply t_condD); exact rfl; all_goals first | (intro hp; try (exfalso; omega)) | skip) | ((with_reducible apply t_skip)) | ((with_reducible apply t_block))) | with_reducible apply q_thenN | exact Rdn.zero | apply Rdn.succ)
      apply t_loopK (ι := Nat) [1] (fun k => [(6, .int .i64 (k : Nat))]) (fun _ => []) (fun k => k ≤ n ∧ ∀ x ∈ fs.take k, (decide (1 ≤ x) && decide (x ≤ 10000)) = true) (fun k => n - k) (0)
      (repeat (first | exact KeepF.nil | (apply KeepF.cons; exact rfl) | apply KeepF.skip))
      (repeat (first | exact FrSub.nil | (apply FrSub.cons; exact rfl)))
      (repeat (first | exact HpSub.refl _ | (apply HpSub.consE; (repeat (first | exact P0 | apply P1)); exact rfl) | exact HpSub.nil))
      · exact ⟨by omega, by simp⟩
      rintro k ⟨hk, hkp⟩
      try simp only [List.cons_append, List.nil_append]
      by_cases hlt : k < n
      · obtain ⟨b1, o1, x, rfl, _, hx, c0⟩ := in_read hr hlt
        have HWx := fun w1 => within_calls x 1 10000 w1
        cases hpx : (decide (1 ≤ x) && decide (x ≤ 10000)) with
        | false =>
          rw [hpx] at HWx
          repeat' (first | ((with_reducible apply oq_id); first | (focus ((with_reducible apply oq_indexAddrN); exact rfl; exact rfl; exact rfl; exact rfl; omega)) | (apply oq_fn; exact rfl; first | exact trivial | (refine ⟨?_, ?_⟩ <;> omega) | (refine ⟨?_, ?_, ?_⟩ <;> omega) | omega | skip) | ((with_reducible apply oq_load); exact rfl; exact rfl) | ((with_reducible apply oq_call (k := 66) (hc := Try.call66)); exact rfl; exact rfl; exact fun D w1 hw1 => HWx w1)) | ((with_reducible apply tl_id); first | ((with_reducible apply tl_nil)) | ((with_reducible apply u_q); exact rfl; exact rfl; exact rfl; exact rfl)) | ((with_reducible apply rd_id); first | (apply Rd.old; (first | (with_reducible assumption) | exact c0 | exact c1 | exact c2 | exact c3 | exact c4 | exact c5 | exact c6 | exact c7 | exact c8 | exact d0 | exact d1 | exact d2 | exact d3 | exact d4 | exact d5); first | exact List.not_mem_nil | exact m0 | exact m1 | exact m2 | exact m3 | exact m4 | exact m5 | exact m6 | exact m7 | exact m8 | exact m9)) | ((with_reducible apply t_id); first | ((with_reducible apply t_seq)) | (apply t_region; kernel_rfl) | ((with_reducible apply t_condT); exact rfl) | ((with_reducible apply t_condD); exact rfl; all_goals first | (intro hp; try (exfalso; omega)) | skip) | ((with_reducible apply t_ret)) | ((with_reducible apply t_skip)) | ((with_reducible apply t_block))) | with_reducible apply q_thenN | with_reducible apply q_thenR | with_reducible apply q_blockR | ((with_reducible apply end_ret)) | exact rvs_nil | ((with_reducible apply rvs_cons)) | ((with_reducible apply rv_tmp); exact rfl))
          have : allFrom 1 10000 fs = false := by
            unfold allFrom
            rw [Bool.eq_false_iff, Ne, List.all_eq_true]
            intro h2
            rw [h2 x (List.mem_of_getElem? hx)] at hpx; cases hpx
          rw [this]; rfl
        | true =>
          rw [hpx] at HWx
          repeat' (first | ((with_reducible apply oq_id); first | (focus ((with_reducible apply oq_indexAddrN); exact rfl; exact rfl; exact rfl; exact rfl; omega)) | ((with_reducible apply oq_addE (k := ((k + 1 : Nat) : Int))); exact rfl; exact rfl; omega) | (apply oq_fn; exact rfl; first | exact trivial | (refine ⟨?_, ?_⟩ <;> omega) | (refine ⟨?_, ?_, ?_⟩ <;> omega) | omega | skip) | ((with_reducible apply oq_load); exact rfl; exact rfl) | ((with_reducible apply oq_call (k := 66) (hc := Try.call66)); exact rfl; exact rfl; exact fun D w1 hw1 => HWx w1)) | ((with_reducible apply tl_id); first | ((with_reducible apply tl_nil)) | ((with_reducible apply u_q); exact rfl; exact rfl; exact rfl; exact rfl)) | ((with_reducible apply rd_id); first | (apply Rd.old; (first | (with_reducible assumption) | exact c0 | exact c1 | exact c2 | exact c3 | exact c4 | exact c5 | exact c6 | exact c7 | exact c8 | exact d0 | exact d1 | exact d2 | exact d3 | exact d4 | exact d5); first | exact List.not_mem_nil | exact m0 | exact m1 | exact m2 | exact m3 | exact m4 | exact m5 | exact m6 | exact m7 | exact m8 | exact m9)) | ((with_reducible apply t_id); first | ((with_reducible apply t_seq)) | (apply t_region; kernel_rfl) | ((with_reducible apply t_condF); exact rfl) | ((with_reducible apply t_condD); exact rfl; all_goals first | (intro hp; try (exfalso; omega)) | skip) | ((with_reducible apply t_skip)) | ((with_reducible apply t_block))) | with_reducible apply q_thenN | with_reducible apply q_blockN)
          refine ⟨k + 1, ⟨by omega, fun y hy => ?_⟩, by omega, ?_, ?_⟩
          · rw [List.take_add_one, hx, List.mem_append] at hy
            rcases hy with hy | hy
            · exact hkp y hy
            · obtain rfl : y = x := by simpa using hy
              exact hpx
          · try simp only [List.cons_append, List.nil_append]
            (repeat (first | exact FrSub.nil | (apply FrSub.cons; exact rfl)))
          · try simp only [List.cons_append, List.nil_append]
            (repeat (first | exact HpSub.refl _ | (apply HpSub.consE; (repeat (first | exact P0 | apply P1)); exact rfl) | exact HpSub.nil))
      · repeat' (first | ((with_reducible apply oq_id); first | (apply oq_fn; exact rfl; first | exact trivial | (refine ⟨?_, ?_⟩ <;> omega) | (refine ⟨?_, ?_, ?_⟩ <;> omega) | omega | skip)) | ((with_reducible apply tl_id); first | ((with_reducible apply tl_nil)) | ((with_reducible apply u_q); exact rfl; exact rfl; exact rfl; exact rfl)) | ((with_reducible apply t_id); first | ((with_reducible apply t_seq)) | (apply t_region; kernel_rfl) | ((with_reducible apply t_condD); exact rfl; all_goals first | (intro hp; try (exfalso; omega)) | skip) | ((with_reducible apply t_ret)) | ((with_reducible apply t_exit))) | with_reducible apply q_thenN | with_reducible apply q_thenE | ((with_reducible apply q_blockE); exact rfl) | ((with_reducible apply end_ret)) | exact rvs_nil | ((with_reducible apply rvs_cons)) | ((with_reducible apply rv_tmp); exact rfl))
        have : allFrom 1 10000 fs = true := by
          unfold allFrom
          rw [List.all_eq_true]
          exact fun y hy => hkp y (by rw [List.take_of_length_le (by omega)]; exact hy)
        rw [this]; rfl

end Go.Proofs.Ytmlmgipngbndgaa
/- Inspections: plain laws. What is needed at least, from the back; what may be due at most, from the front: the same plans. -/
namespace Go.Proofs.Ytmlmgipngbndgaa
set_option linter.unusedVariables false
set_option linter.unusedSimpArgs false
def never : Int := 1099511627776
/-- What has to be left before a flight, after the inspection, if there is one; r: what is needed behind it. -/
def befV (gr f r : Int) : Int := max (f - gr) (r + f)
/-- What has to be left at least, with k inspections from there on. -/
def ndL (ev gr : Int) : List Int → Nat → Int
  | [], k => if k = 0 then -never else never
  | f :: t, 0 => befV gr f (ndL ev gr t 0)
  | f :: t, k + 1 => if befV gr f (ndL ev gr t k) ≤ ev then min (befV gr f (ndL ev gr t (k + 1))) (befV gr f (ndL ev gr t k) - ev) else befV gr f (ndL ev gr t (k + 1))
theorem nd_zero (ev gr f : Int) (t : List Int) : ndL ev gr (f :: t) 0 = befV gr f (ndL ev gr t 0) := rfl
theorem nd_succ (ev gr f : Int) (t : List Int) (k : Nat) : ndL ev gr (f :: t) (k + 1) = if befV gr f (ndL ev gr t k) ≤ ev then min (befV gr f (ndL ev gr t (k + 1))) (befV gr f (ndL ev gr t k) - ev) else befV gr f (ndL ev gr t (k + 1)) := rfl
theorem nd_nil (ev gr : Int) (k : Nat) : ndL ev gr [] k = if k = 0 then -never else never := rfl
def FsOk (fs : List Int) : Prop := ∀ f ∈ fs, 1 ≤ f ∧ f ≤ 10000
theorem nd_in {ev gr : Int} (he : 1 ≤ ev ∧ ev ≤ 100000) (hg : 0 ≤ gr ∧ gr ≤ 100000) : ∀ {fs : List Int}, FsOk fs → ∀ k, -never ≤ ndL ev gr fs k ∧ ndL ev gr fs k ≤ never + 10000 * (fs.length : Int)
  | [], _, k => by rw [nd_nil]; unfold never; split <;> simp
  | f :: t, h, k => by
    have hf := h f (List.mem_cons_self ..)
    have ih := fun k => nd_in he hg (fs := t) (fun x hx => h x (List.mem_cons_of_mem _ hx)) k
    have hn : never = 1099511627776 := rfl
    rw [List.length_cons]
    cases k with
    | zero =>
      have i0 := ih 0
      rw [nd_zero]
      unfold befV
      omega
    | succ k =>
      have i0 := ih k
      have i1 := ih (k + 1)
      rw [nd_succ]
      unfold befV
      split <;> omega
theorem nd_big {ev gr : Int} (he : 1 ≤ ev ∧ ev ≤ 100000) : ∀ {fs : List Int}, FsOk fs → ∀ {k : Nat}, fs.length < k → never ≤ ndL ev gr fs k
  | [], _, k, hk => by rw [nd_nil, if_neg (by simp at hk; omega)]; exact Int.le_refl _
  | f :: t, h, 0, hk => by omega
  | f :: t, h, k + 1, hk => by
    have hf := h f (List.mem_cons_self ..)
    have hn : never = 1099511627776 := rfl
    rw [List.length_cons] at hk
    have i0 := nd_big (gr := gr) he (fs := t) (fun x hx => h x (List.mem_cons_of_mem _ hx)) (k := k) (by omega)
    have i1 := nd_big (gr := gr) he (fs := t) (fun x hx => h x (List.mem_cons_of_mem _ hx)) (k := k + 1) (by omega)
    rw [nd_succ]
    unfold befV
    split <;> omega
theorem nd_iff {ev gr f L : Int} {t : List Int} {k : Nat} : ndL ev gr (f :: t) k ≤ L ↔ befV gr f (ndL ev gr t k) ≤ L ∨ ∃ j, k = j + 1 ∧ befV gr f (ndL ev gr t j) ≤ min L 0 + ev := by
  cases k with
  | zero =>
    rw [nd_zero]
    refine ⟨.inl, ?_⟩
    rintro (h | ⟨j, h, _⟩)
    · exact h
    · omega
  | succ k =>
    rw [nd_succ]
    obtain ⟨p, hp⟩ : ∃ p, befV gr f (ndL ev gr t k) = p := ⟨_, rfl⟩
    obtain ⟨q, hq⟩ : ∃ q, befV gr f (ndL ev gr t (k + 1)) = q := ⟨_, rfl⟩
    rw [hp, hq]
    constructor
    · intro h
      by_cases h2 : q ≤ L
      · exact .inl h2
      · refine .inr ⟨k, rfl, ?_⟩
        rw [hp]
        split at h <;> omega
    · rintro (h | ⟨j, hj, h⟩)
      · split <;> omega
      · obtain rfl : k = j := by omega
        rw [hp] at h
        rw [if_pos (by omega)]
        omega
/-! From the front -/
def RowOk (fl : Int) (b : List Int) : Prop := ∀ x ∈ b, x = -never ∨ (-100000 ≤ x ∧ x ≤ fl + 100000)
def atD (b : List Int) (k : Nat) : Int := b[k]?.getD (-never)
/-- An entry of the next row, before it is looked at whether the flight is late. -/
def nxC (ev fl : Int) (b : List Int) (k : Nat) : Int := if 0 < k ∧ -never < atD b (k - 1) then max (atD b k) (min fl (atD b (k - 1)) + ev) else atD b k
/-- An entry of the next row. -/
def nxV (ev gr fl f : Int) (b : List Int) (k : Nat) : Int := if nxC ev fl b k + gr < fl + f then -never else nxC ev fl b k
def nxRow (ev gr fl f : Int) (b : List Int) : List Int := (List.range (b.length + 1)).map (nxV ev gr fl f b)
def frL (ev gr : Int) : List Int → Int → List Int → List Int
  | [], _, b => b
  | f :: t, fl, b => frL ev gr t (fl + f) (nxRow ev gr fl f b)
theorem atD_ok {fl : Int} {b : List Int} (h : RowOk fl b) (k : Nat) : atD b k = -never ∨ (-100000 ≤ atD b k ∧ atD b k ≤ fl + 100000 ∧ b[k]? = some (atD b k)) := by
  unfold atD
  cases hb : b[k]? with
  | none => exact .inl rfl
  | some x =>
    rcases h x (List.mem_of_getElem? hb) with h1 | h1
    · exact .inl (by simpa using h1)
    · exact .inr ⟨by simpa using h1.1, by simpa using h1.2, rfl⟩
theorem atD_some {b : List Int} {k : Nat} {x : Int} (h : b[k]? = some x) : atD b k = x := by unfold atD; rw [h]; rfl
theorem nx_ok {ev gr fl f : Int} {b : List Int} (he : 1 ≤ ev ∧ ev ≤ 100000) (hg : 0 ≤ gr ∧ gr ≤ 100000) (hf : 1 ≤ f ∧ f ≤ 10000) (h0 : 0 ≤ fl) (h : RowOk fl b) (k : Nat) : nxV ev gr fl f b k = -never ∨ (-100000 ≤ nxV ev gr fl f b k ∧ nxV ev gr fl f b k ≤ fl + f + 100000) := by
  have h1 := atD_ok h k
  have h2 := atD_ok h (k - 1)
  have hn : never = 1099511627776 := rfl
  have h3 : nxC ev fl b k = atD b k ∨ (-never < atD b (k - 1) ∧ nxC ev fl b k = max (atD b k) (min fl (atD b (k - 1)) + ev)) := by
    unfold nxC
    split
    · rename_i hc; exact .inr ⟨hc.2, rfl⟩
    · exact .inl rfl
  unfold nxV
  split <;> omega
theorem nxRow_ok {ev gr fl f : Int} {b : List Int} (he : 1 ≤ ev ∧ ev ≤ 100000) (hg : 0 ≤ gr ∧ gr ≤ 100000) (hf : 1 ≤ f ∧ f ≤ 10000) (h0 : 0 ≤ fl) (h : RowOk fl b) : RowOk (fl + f) (nxRow ev gr fl f b) := by
  intro x hx
  unfold nxRow at hx
  obtain ⟨k, _, rfl⟩ := List.mem_map.1 hx
  exact nx_ok he hg hf h0 h k
theorem nxRow_at {ev gr fl f : Int} {b : List Int} {k : Nat} (hk : k < b.length + 1) : (nxRow ev gr fl f b)[k]? = some (nxV ev gr fl f b k) := by
  unfold nxRow
  simp [hk]
theorem nx_iff {ev gr fl f R : Int} {b : List Int} (he : 1 ≤ ev ∧ ev ≤ 100000) (hg : 0 ≤ gr ∧ gr ≤ 100000) (hf : 1 ≤ f ∧ f ≤ 10000) (h0 : 0 ≤ fl) (h : RowOk fl b) {j : Nat} :
    (-100000 ≤ nxV ev gr fl f b j ∧ R ≤ nxV ev gr fl f b j - (fl + f)) ↔ ((-100000 ≤ atD b j ∧ befV gr f R ≤ atD b j - fl) ∨ (∃ i, j = i + 1 ∧ -100000 ≤ atD b i ∧ befV gr f R ≤ min (atD b i - fl) 0 + ev)) := by
  have h1 := atD_ok h j
  have hn : never = 1099511627776 := rfl
  have hC : nxV ev gr fl f b j = (if nxC ev fl b j + gr < fl + f then -never else nxC ev fl b j) := rfl
  rw [hC]
  unfold befV
  cases j with
  | zero =>
    have e : nxC ev fl b 0 = atD b 0 := by unfold nxC; rw [if_neg (fun hc => by omega)]
    rw [e]
    constructor
    · intro hh
      refine .inl ?_
      split at hh <;> omega
    · rintro (hh | ⟨i, hi, _⟩)
      · rw [if_neg (by omega)]; omega
      · omega
  | succ i =>
    have h2 := atD_ok h i
    by_cases hv : -never < atD b i
    · have e : nxC ev fl b (i + 1) = max (atD b (i + 1)) (min fl (atD b i) + ev) := by unfold nxC; rw [Nat.add_sub_cancel, if_pos ⟨by omega, hv⟩]
      rw [e]
      constructor
      · intro hh
        by_cases hm : -100000 ≤ atD b (i + 1) ∧ max (f - gr) (R + f) ≤ atD b (i + 1) - fl
        · exact .inl hm
        · refine .inr ⟨i, rfl, ?_⟩
          split at hh <;> omega
      · rintro (hh | ⟨i', hi, hh⟩)
        · rw [if_neg (by omega)]; omega
        · obtain rfl : i = i' := by omega
          rw [if_neg (by omega)]; omega
    · have e : nxC ev fl b (i + 1) = atD b (i + 1) := by unfold nxC; rw [Nat.add_sub_cancel, if_neg (fun hc => hv hc.2)]
      rw [e]
      constructor
      · intro hh
        refine .inl ?_
        split at hh <;> omega
      · rintro (hh | ⟨i', hi, hh⟩)
        · rw [if_neg (by omega)]; omega
        · obtain rfl : i = i' := by omega
          omega
theorem frL_len {ev gr : Int} : ∀ {t : List Int} {fl : Int} {b : List Int}, (frL ev gr t fl b).length = b.length + t.length
  | [], _, _ => rfl
  | f :: t, fl, b => by
    unfold frL
    rw [frL_len]
    simp [nxRow]
    omega
theorem frL_ok {ev gr : Int} (he : 1 ≤ ev ∧ ev ≤ 100000) (hg : 0 ≤ gr ∧ gr ≤ 100000) : ∀ {t : List Int} {fl : Int} {b : List Int}, FsOk t → 0 ≤ fl → RowOk fl b → RowOk (fl + t.sum) (frL ev gr t fl b)
  | [], fl, b, _, _, h => by simpa [frL] using h
  | f :: t, fl, b, hf, h0, h => by
    have hf0 := hf f (List.mem_cons_self ..)
    have := frL_ok he hg (t := t) (fl := fl + f) (fun x hx => hf x (List.mem_cons_of_mem _ hx)) (by omega) (nxRow_ok he hg hf0 h0 h)
    unfold frL
    rw [List.sum_cons, ← Int.add_assoc]
    exact this
theorem frL_iff {ev gr : Int} (he : 1 ≤ ev ∧ ev ≤ 100000) (hg : 0 ≤ gr ∧ gr ≤ 100000) : ∀ {t : List Int} {fl : Int} {b : List Int}, FsOk t → 0 ≤ fl → fl + 10000 * (t.length : Int) ≤ 10000000 → RowOk fl b → ∀ K : Nat,
    (-100000 ≤ atD (frL ev gr t fl b) K ↔ ∃ j, j ≤ K ∧ -100000 ≤ atD b j ∧ ndL ev gr t (K - j) ≤ atD b j - fl)
  | [], fl, b, _, h0, hu, h, K => by
    have hn : never = 1099511627776 := rfl
    simp only [List.length_nil] at hu
    unfold frL
    constructor
    · intro hk
      refine ⟨K, Nat.le_refl _, hk, ?_⟩
      rw [Nat.sub_self]
      rw [nd_nil, if_pos rfl]
      omega
    · rintro ⟨j, hj, hv, hd⟩
      rw [nd_nil] at hd
      rcases (by omega : K = j ∨ j < K) with rfl | hlt
      · exact hv
      · rw [if_neg (by omega)] at hd
        have := atD_ok h j
        omega
  | f :: t, fl, b, hf, h0, hu, h, K => by
    have hf0 := hf f (List.mem_cons_self ..)
    have ih := frL_iff he hg (t := t) (fl := fl + f) (b := nxRow ev gr fl f b) (fun x hx => hf x (List.mem_cons_of_mem _ hx))
    rw [List.length_cons] at hu
    have hi := ih (by omega) (by omega) (nxRow_ok he hg hf0 h0 h) K
    have hn : never = 1099511627776 := rfl
    rw [show frL ev gr (f :: t) fl b = frL ev gr t (fl + f) (nxRow ev gr fl f b) from rfl, hi]
    -- an entry of the next row
    have hat : ∀ j, -100000 ≤ atD (nxRow ev gr fl f b) j ↔ (-100000 ≤ nxV ev gr fl f b j ∧ atD (nxRow ev gr fl f b) j = nxV ev gr fl f b j) := fun j => by
      rcases Nat.lt_or_ge j (b.length + 1) with hj | hj
      · rw [atD_some (nxRow_at hj)]; simp
      · have e1 : atD (nxRow ev gr fl f b) j = -never := by
          unfold atD
          rw [List.getElem?_eq_none (by unfold nxRow; simpa using hj)]; rfl
        have e2 : atD b j = -never := by unfold atD; rw [List.getElem?_eq_none (by omega)]; rfl
        have e3 : atD b (j - 1) = -never := by unfold atD; rw [List.getElem?_eq_none (by omega)]; rfl
        have e4 : nxV ev gr fl f b j = -never := by
          have e5 : nxC ev fl b j = -never := by unfold nxC; rw [e2, e3, if_neg (fun hc => by omega)]
          unfold nxV
          rw [e5]
          split <;> rfl
        rw [e1, e4]; simp
    constructor
    · rintro ⟨j, hj, hv, hd⟩
      obtain ⟨hv2, he2⟩ := (hat j).1 hv
      rw [he2] at hd
      rcases (nx_iff he hg hf0 h0 h).1 ⟨hv2, hd⟩ with ⟨a1, a2⟩ | ⟨i, rfl, a1, a2⟩
      · exact ⟨j, hj, a1, nd_iff.2 (.inl a2)⟩
      · exact ⟨i, by omega, a1, nd_iff.2 (.inr ⟨K - (i + 1), by omega, a2⟩)⟩
    · rintro ⟨j, hj, hv, hd⟩
      rcases nd_iff.1 hd with a | ⟨r, hr, a⟩
      · obtain ⟨c1, c2⟩ := (nx_iff he hg hf0 h0 h (j := j)).2 (.inl ⟨hv, a⟩)
        have h3 : -100000 ≤ atD (nxRow ev gr fl f b) j ∧ atD (nxRow ev gr fl f b) j = nxV ev gr fl f b j := by
          have hjl : j < b.length := by
            refine Decidable.by_contra fun hc => ?_
            have : atD b j = -never := by unfold atD; rw [List.getElem?_eq_none (by omega)]; rfl
            omega
          rw [atD_some (nxRow_at (by omega))]; exact ⟨c1, rfl⟩
        exact ⟨j, hj, h3.1, by rw [h3.2]; exact c2⟩
      · obtain ⟨c1, c2⟩ := (nx_iff he hg hf0 h0 h (j := j + 1)).2 (.inr ⟨j, rfl, hv, a⟩)
        have h3 : -100000 ≤ atD (nxRow ev gr fl f b) (j + 1) ∧ atD (nxRow ev gr fl f b) (j + 1) = nxV ev gr fl f b (j + 1) := by
          have hjl : j < b.length := by
            refine Decidable.by_contra fun hc => ?_
            have : atD b j = -never := by unfold atD; rw [List.getElem?_eq_none (by omega)]; rfl
            omega
          rw [atD_some (nxRow_at (by omega))]; exact ⟨c1, rfl⟩
        refine ⟨j + 1, by omega, h3.1, ?_⟩
        rw [h3.2, show K - (j + 1) = r by omega]; exact c2
/-! The plan -/
/-- Is there a plan with so many inspections? -/
def canB (ev gr L : Int) (fs : List Int) (k : Nat) : Bool := decide (ndL ev gr fs k ≤ L)
/-- The fewest inspections; below zero: there is no plan. -/
def fewV (ev gr du : Int) (fs : List Int) : Int := idxV (fun x => decide (x ≤ du)) ((List.range (fs.length + 1)).map (ndL ev gr fs))
def insG (ev gr : Int) : List Int → Nat → Nat → Int → List Int
  | [], _, _, _ => []
  | f :: t, i, k, L => if befV gr f (ndL ev gr t k) ≤ L then insG ev gr t (i + 1) k (L - f) else (i : Int) :: insG ev gr t (i + 1) (k - 1) (min L 0 + ev - f)
/-- What Inspect returns: the plan, and the error. -/
def insE (ev gr du : Int) (fs : List Int) : Int := if caredE ev gr du fs = 0 then (if fewV ev gr du fs < 0 then 6 else 0) else caredE ev gr du fs
def insV (ev gr du : Int) (fs : List Int) : List Int := insG ev gr fs 0 (fewV ev gr du fs).toNat du
end Go.Proofs.Ytmlmgipngbndgaa
/- Own lists of numbers: reading, writing, making. -/
namespace Go.Proofs.Ytmlmgipngbndgaa
set_option linter.unusedVariables false
set_option linter.unusedSimpArgs false
open Go.RowKit
def iv (z : Int) : Value := .int .i64 z
theorem iv_one (l : List Int) : ∀ v ∈ l.map iv, v.oneCell' = true := by
  intro v hv
  obtain ⟨z, _, rfl⟩ := List.mem_map.1 hv
  rfl
theorem iv_flat (l : List Int) : (l.map inCells).flatten = l.map iv := by
  induction l with
  | nil => rfl
  | cons z l ih => simp [inCells, iv] at ih ⊢; exact ih
theorem int_rows {w0 : World} {M : Ms} {H H' : Hp} {w : World} {g n : Nat} {l : List Int} {tg : Tg} (hl : l.length = n) (h : Has w0 M H w) (q : Pick H g (l.map iv) tg H') : RdS w 1 (some ⟨g, 0, none⟩) n (l.map inCells) :=
  Blk.rows (by rw [iv_flat]; exact (h.blk _ q.mem).2) (by simpa using hl) (by simp only [List.mem_map]; rintro r ⟨x, _, rfl⟩; rfl)
section
variable {c : Cx} {F : Fr} {H H' : Hp} {K : Value → Hp → Prop} {d : Option Tmp} {ty : TypeId} {pos : String} {af : Array Edge} {gd : Option (Nat × Bool)} {t : TypeId} {x y : Operand} {a0 : Bool} {z0 : List Value} {k0 : TyK} {g k : Nat} {tg : Tg} {row A : List Int} {B : List Value} {z u : Int}
theorem rdI (hx : row[k]? = some z) (p : Pick H g (row.map iv) tg H') : Rd c H ⟨g, 0 + k * 1, none⟩ (.int .i64 z) := Rd.own p (by rw [Nat.zero_add, Nat.mul_one, List.getElem?_map, hx]; rfl)
theorem mid_at (h : A.length = k) : (A.map iv ++ Value.int .i64 z :: B)[0 + k * 1]? = some (Value.int .i64 z) := by
  rw [Nat.zero_add, Nat.mul_one, ← h]
  simp
theorem mid_set (h : A.length = k) : (A.map iv ++ Value.int .i64 z :: B).set (0 + k * 1) (Value.int .i64 u) = A.map iv ++ Value.int .i64 u :: B := by
  rw [Nat.zero_add, Nat.mul_one, ← h]
  rw [List.set_append_right _ _ (by simp)]
  simp
theorem rdM (h : A.length = k) (p : Pick H g (A.map iv ++ Value.int .i64 z :: B) tg H') : Rd c H ⟨g, 0 + k * 1, none⟩ (.int .i64 z) := Rd.own p (mid_at h)
theorem os_storeM (h : A.length = k) (ht : tyAt c.tys t = some ⟨a0, 1, z0, k0⟩) (hx : ev F x = some (.pointer (some ⟨g, 0 + k * 1, none⟩))) (hy : ev F y = some (.int .i64 u)) (hp : Pick H g (A.map iv ++ Value.int .i64 z :: B) tg H')
    (kk : K undef ((g, A.map iv ++ Value.int .i64 u :: B, tg) :: H')) : OS c ⟨d, .store t x y, ty, pos, af, gd⟩ F H K :=
  store_gen (vs := [.int .i64 u]) ht hx hy rfl rfl (by simp [Value.oneCell']) hp (by simp; omega) (by
    have e : setL (A.map iv ++ Value.int .i64 z :: B) (0 + k * 1) [Value.int .i64 u] = A.map iv ++ Value.int .i64 u :: B := by simp only [setL]; exact mid_set h
    rw [e]; exact kk)
theorem os_storeI (h : k < row.length) (ht : tyAt c.tys t = some ⟨a0, 1, z0, k0⟩) (hx : ev F x = some (.pointer (some ⟨g, 0 + k * 1, none⟩))) (hy : ev F y = some (.int .i64 u)) (hp : Pick H g (row.map iv) tg H')
    (kk : K undef ((g, (row.set k u).map iv, tg) :: H')) : OS c ⟨d, .store t x y, ty, pos, af, gd⟩ F H K :=
  store_gen (vs := [.int .i64 u]) ht hx hy rfl rfl (by simp [Value.oneCell']) hp (by simp; omega) (by
    have e : setL (row.map iv) (0 + k * 1) [Value.int .i64 u] = (row.set k u).map iv := by simp only [setL]; rw [Nat.zero_add, Nat.mul_one, List.map_set]; rfl
    rw [e]; exact kk)
theorem ox_makeI {n : Nat} {tt : TypeId} {bytes : Nat} (hk : AppOk c.P tt 3 1 bytes) (hz : (c.P.info? 3).map (fun i => i.zero) = some (some (.int .i64 0)))
    (hx : ev F x = some (.int .i64 (n : Int))) (hy : ev F y = some (.int .i64 (n : Int))) (hb : bytes * n ≤ 281474976710656) (hn : n ≤ maxLen) (k : ∀ b, K (.slice (some ⟨b, 0, none⟩) n n) ((b, List.replicate n (Value.int .i64 0), some (3, 1, n)) :: H)) : OX c ⟨d, .makeSlice tt x y, ty, pos, af, gd⟩ F H K := by
  refine ox_make (zs := [.int .i64 0]) hk hz rfl rfl hx hy hb hn fun b => ?_
  have e : (List.replicate n [Value.int .i64 0]).flatten = List.replicate n (Value.int .i64 0) := by simp
  rw [e]
  exact k b
theorem os_makeI {n : Nat} {tt : TypeId} {bytes : Nat} (hk : AppOk c.P tt 3 1 bytes) (hz : (c.P.info? 3).map (fun i => i.zero) = some (some (.int .i64 0)))
    (hx : ev F x = some (.int .i64 (n : Int))) (hy : ev F y = some (.int .i64 (n : Int))) (hb : bytes * n ≤ 281474976710656) (hn : n ≤ maxLen) (k : ∀ b, K (.slice (some ⟨b, 0, none⟩) n n) ((b, List.replicate n (Value.int .i64 0), some (3, 1, n)) :: H)) : OS c ⟨d, .makeSlice tt x y, ty, pos, af, gd⟩ F H K := .ofX (ox_makeI hk hz hx hy hb hn k)
end
end Go.Proofs.Ytmlmgipngbndgaa
/- The office: plain laws. -/
namespace Go.Proofs.Ytmlmgipngbndgaa
set_option linter.unusedVariables false
set_option linter.unusedSimpArgs false
structure Dep where
  seats : Int
  price : Int
  leaves : Int
  state : Int
structure Bk where
  flight : Int
  state : Int
  kept : Int
def depCells (x : Dep) : List Value := [.int .i64 x.seats, .int .i64 x.price, .int .i64 x.leaves, .int .u8 x.state]
def bkCells (x : Bk) : List Value := [.int .i64 x.flight, .int .u8 x.state, .int .i64 x.kept]
theorem dep_read {w : World} {A : Option Addr} {n : Nat} {l : List Dep} (h : RdS w 4 A n (l.map depCells)) {i : Nat} (hi : i < n) :
    ∃ b o x, A = some ⟨b, o, none⟩ ∧ b < w.heap.size ∧ l[i]? = some x ∧ w.cell? ⟨b, o + i * 4, none⟩ = some (.int .i64 x.seats) ∧ w.cell? ⟨b, o + i * 4 + 1, none⟩ = some (.int .i64 x.price) ∧ w.cell? ⟨b, o + i * 4 + 2, none⟩ = some (.int .i64 x.leaves) ∧ w.cell? ⟨b, o + i * 4 + 3, none⟩ = some (.int .u8 x.state) := by
  obtain ⟨b, o, cs, hA, hb, hx, _, hc⟩ := h.row hi
  simp only [List.getElem?_map, Option.map_eq_some_iff] at hx
  obtain ⟨x, hx, rfl⟩ := hx
  exact ⟨b, o, x, hA, hb, hx, hc 0 _ rfl, hc 1 _ rfl, hc 2 _ rfl, hc 3 _ rfl⟩
theorem bk_read {w : World} {A : Option Addr} {n : Nat} {l : List Bk} (h : RdS w 3 A n (l.map bkCells)) {i : Nat} (hi : i < n) :
    ∃ b o x, A = some ⟨b, o, none⟩ ∧ b < w.heap.size ∧ l[i]? = some x ∧ w.cell? ⟨b, o + i * 3, none⟩ = some (.int .i64 x.flight) ∧ w.cell? ⟨b, o + i * 3 + 1, none⟩ = some (.int .u8 x.state) ∧ w.cell? ⟨b, o + i * 3 + 2, none⟩ = some (.int .i64 x.kept) := by
  obtain ⟨b, o, cs, hA, hb, hx, _, hc⟩ := h.row hi
  simp only [List.getElem?_map, Option.map_eq_some_iff] at hx
  obtain ⟨x, hx, rfl⟩ := hx
  exact ⟨b, o, x, hA, hb, hx, hc 0 _ rfl, hc 1 _ rfl, hc 2 _ rfl⟩
def depOk (x : Dep) : Bool := decide (0 ≤ x.seats) && decide (x.seats ≤ 50) && (decide (0 ≤ x.price) && decide (x.price ≤ 1000000)) && (decide (0 ≤ x.leaves) && decide (x.leaves ≤ 1000000)) && decide (x.state ≤ 2)
/-- Is a booking of a departure, and in a state? -/
def isB (f s : Int) (x : Bk) : Bool := decide (x.flight = f) && decide (x.state = s)
def manyTo (bk : List Bk) (f s : Int) (k : Nat) : Int := (((bk.take k).filter (isB f s)).length : Nat)
def manyV (bk : List Bk) (f s : Int) : Int := ((bk.filter (isB f s)).length : Nat)
theorem many_zero (bk : List Bk) (f s : Int) : manyTo bk f s 0 = 0 := by simp [manyTo]
theorem many_yes {bk : List Bk} {f s : Int} {k : Nat} {x : Bk} (h : bk[k]? = some x) (hi : isB f s x = true) : manyTo bk f s (k + 1) = manyTo bk f s k + 1 := by
  unfold manyTo
  rw [List.take_add_one, h, List.filter_append]
  simp [hi]
theorem many_no {bk : List Bk} {f s : Int} {k : Nat} {x : Bk} (h : bk[k]? = some x) (hi : isB f s x = false) : manyTo bk f s (k + 1) = manyTo bk f s k := by
  unfold manyTo
  rw [List.take_add_one, h, List.filter_append]
  simp [hi]
theorem many_all {bk : List Bk} {f s : Int} {k : Nat} (h : bk.length ≤ k) : manyTo bk f s k = manyV bk f s := by
  unfold manyTo manyV
  rw [List.take_of_length_le h]
theorem many_in (bk : List Bk) (f s : Int) (k : Nat) : 0 ≤ manyTo bk f s k ∧ manyTo bk f s k ≤ (k : Int) := by
  unfold manyTo
  have h1 := List.length_filter_le (isB f s) (bk.take k)
  have h2 := List.length_take_le k bk
  omega
/-- What may be kept of the price of a departure. -/
def feeV (price fee : Int) : Int := (price * fee).tdiv 100
theorem fee_in {price fee : Int} (h1 : 0 ≤ price ∧ price ≤ 1000000) (h2 : 0 ≤ fee ∧ fee ≤ 100) : 0 ≤ price * fee ∧ price * fee ≤ 1000000 * 100 ∧ 0 ≤ feeV price fee ∧ feeV price fee ≤ 1000000 := by
  have a := Int.mul_nonneg h1.1 h2.1
  have b := Int.mul_le_mul h1.2 h2.2 h2.1 (by omega)
  unfold feeV
  rw [Int.tdiv_eq_ediv_of_nonneg a]
  omega
/-- May a booking of a departure in state g be in state s? -/
def fitB (g s : Int) : Bool := (decide (g = 0) && (decide (s = 1) || decide (s = 2))) || (decide (g = 1) && decide (s = 3))
def bookedB (fl : List Dep) (fee : Int) (x : Bk) : Bool :=
  if 0 ≤ x.flight ∧ x.flight < (fl.length : Int) then
    match fl[x.flight.toNat]? with
    | none => false
    | some d => if x.state = 4 then decide (0 ≤ x.kept) && decide (x.kept ≤ feeV d.price fee) else fitB d.state x.state && decide (x.kept = 0)
  else false
def prc (fl : List Dep) (x : Bk) : Int := match fl[x.flight.toNat]? with | some d => d.price | none => 0
structure Sum4 where
  held : Int
  earned : Int
  kept : Int
  back : Int
def addB (fl : List Dep) (p : Sum4) (x : Bk) : Sum4 :=
  if x.state = 1 ∨ x.state = 2 then ⟨p.held + prc fl x, p.earned, p.kept, p.back⟩
  else if x.state = 3 then ⟨p.held, p.earned + prc fl x, p.kept, p.back⟩
  else if x.state = 4 then ⟨p.held, p.earned, p.kept + x.kept, p.back + (prc fl x - x.kept)⟩
  else p
def sumsTo (fl : List Dep) (bk : List Bk) (k : Nat) : Sum4 := (bk.take k).foldl (addB fl) ⟨0, 0, 0, 0⟩
def sumsV (fl : List Dep) (bk : List Bk) : Sum4 := bk.foldl (addB fl) ⟨0, 0, 0, 0⟩
theorem sums_succ {fl : List Dep} {bk : List Bk} {k : Nat} {x : Bk} (h : bk[k]? = some x) : sumsTo fl bk (k + 1) = addB fl (sumsTo fl bk k) x := by
  unfold sumsTo
  rw [List.take_add_one, h, List.foldl_append]
  rfl
theorem sums_all {fl : List Dep} {bk : List Bk} {k : Nat} (h : bk.length ≤ k) : sumsTo fl bk k = sumsV fl bk := by
  unfold sumsTo sumsV
  rw [List.take_of_length_le h]
/-- Are the seats of a departure given as they have to be? -/
def seatB (fl : List Dep) (bk : List Bk) (i : Nat) : Bool := match fl[i]? with
  | none => true
  | some d => let s := manyV bk i 1 + manyV bk i 3
    decide (s ≤ d.seats) && (decide (s = d.seats) || decide (manyV bk i 2 ≤ 0))
structure Off where
  now : Int
  notice : Int
  fee : Int
  inn : Int
  out : Int
  fl : List Dep
  bk : List Bk
def headB (o : Off) : Bool := decide (0 ≤ o.now ∧ o.now ≤ 1000000 ∧ 0 ≤ o.notice ∧ o.notice ≤ 1000000 ∧ 0 ≤ o.fee ∧ o.fee ≤ 100 ∧ o.fl.length ≤ 10 ∧ o.bk.length ≤ 120)
def moneyB (o : Off) : Bool := decide (o.inn = (sumsV o.fl o.bk).held + (sumsV o.fl o.bk).earned + (sumsV o.fl o.bk).kept + (sumsV o.fl o.bk).back) && decide (o.out = (sumsV o.fl o.bk).back)
/-- Is an office valid? -/
def officeB (o : Off) : Bool := headB o && (o.fl.all depOk && (o.bk.all (bookedB o.fl o.fee) && ((List.range o.fl.length).all (seatB o.fl o.bk) && moneyB o)))
def offCells (o : Off) (A : Option Addr) (cf : Nat) (B : Option Addr) (cb : Nat) : List Value := [.int .i64 o.now, .int .i64 o.notice, .int .i64 o.fee, .slice A o.fl.length cf, .slice B o.bk.length cb, .int .i64 o.inn, .int .i64 o.out]
end Go.Proofs.Ytmlmgipngbndgaa
/- The office, the reference's: departures, bookings, how many. -/
namespace Go.Proofs.Ytmlmgipngbndgaa
open Go.RowKit
attribute [local irreducible] OQ OS OX Rd T TL GX GL AL AI RV wpG SAny Calls
set_option maxRecDepth 100000
set_option maxHeartbeats 2000000
set_option linter.unusedVariables false
set_option linter.unusedSimpArgs false

theorem departure_calls (a b c s : Int) (w : World) : Calls Try.prog 98 #[.agg #[.int .i64 a, .int .i64 b, .int .i64 c, .int .u8 s]] w fun e w' => e = .returned (.bool (depOk ⟨a, b, c, s⟩)) ∧ Ext w w' := by
  obtain ⟨q1, h1⟩ : ∃ q, allFrom 0 50 [a] = q := ⟨_, rfl⟩
  obtain ⟨q2, h2⟩ : ∃ q, allFrom 0 1000000 [b] = q := ⟨_, rfl⟩
  obtain ⟨q3, h3⟩ : ∃ q, allFrom 0 1000000 [c] = q := ⟨_, rfl⟩
  have key : depOk ⟨a, b, c, s⟩ = (q1 && q2 && q3 && decide (s ≤ 2)) := by
    rw [← h1, ← h2, ← h3]
    unfold depOk allFrom
    simp
  rw [key]
  refine enterQ (c := cx w 21) Try.func98 rfl rfl rfl rfl ?_
  repeat' (first | ((with_reducible apply oq_id); first | (apply oq_fn; exact rfl; first | exact trivial | (refine ⟨?_, ?_⟩ <;> omega) | (refine ⟨?_, ?_, ?_⟩ <;> omega) | omega | skip) | ((with_reducible apply oq_load); exact rfl; exact rfl) | ((with_reducible apply oq_call (k := 66) (hc := Try.call66)); exact rfl; exact rfl; exact fun D w1 hw1 => withinQ h1 w1) | ((with_reducible apply oq_call (k := 66) (hc := Try.call66)); exact rfl; exact rfl; exact fun D w1 hw1 => withinQ h2 w1) | ((with_reducible apply oq_call (k := 66) (hc := Try.call66)); exact rfl; exact rfl; exact fun D w1 hw1 => withinQ h3 w1)) | ((with_reducible apply tl_id); first | ((with_reducible apply tl_nil)) | ((with_reducible apply u_q); exact rfl; exact rfl; exact rfl; exact rfl) | ((with_reducible apply u_s); exact rfl; exact rfl; exact rfl) | ((with_reducible apply u_skip); exact rfl; exact rfl; exact rfl) | ((with_reducible apply u_split); exact rfl; exact rfl; all_goals first | intro hp | skip)) | ((with_reducible apply os_id); first | ((with_reducible apply os_x); exact rfl)) | ((with_reducible apply ox_id); first | ((with_reducible apply ox_boxAgg); exact rfl; intro _)) | ((with_reducible apply rd_id); first | (apply Rd.own; (repeat (first | exact P0 | apply P1)); exact rfl; done)) | ((with_reducible apply t_id); first | ((with_reducible apply t_seq)) | (apply t_region; kernel_rfl) | ((with_reducible apply t_ret))) | with_reducible apply q_thenN | ((with_reducible apply end_ret)) | exact rvs_nil | ((with_reducible apply rvs_cons)) | ((with_reducible apply rv_tmp); exact rfl))
  all_goals (cases q1 <;> cases q2 <;> cases q3 <;> first | rfl | simp_all)

theorem many_calls (o : Off) (A : Option Addr) (cf : Nat) (B : Option Addr) (cb : Nat) (w : World) (hA : RdS w 4 A o.fl.length (o.fl.map depCells)) (hB : RdS w 3 B o.bk.length (o.bk.map bkCells)) (hn : o.bk.length ≤ 1000000) (f s : Int) : Calls Try.prog 67 #[.agg ⟨offCells o A cf B cb⟩, .int .i64 f, .int .u8 s] w fun e w' => e = .returned (.int .i64 (manyV o.bk f s)) ∧ Ext w w' := by
  refine enterQ (c := cx w 37) Try.func67 rfl rfl rfl rfl ?_
  repeat' (first | ((with_reducible apply oq_id); first | (apply oq_fn; exact rfl; first | exact trivial | (refine ⟨?_, ?_⟩ <;> omega) | (refine ⟨?_, ?_, ?_⟩ <;> omega) | omega | skip)) | ((with_reducible apply tl_id); first | ((with_reducible apply tl_nil)) | ((with_reducible apply u_q); exact rfl; exact rfl; exact rfl; exact rfl) | ((with_reducible apply u_s); exact rfl; exact rfl; exact rfl)) | ((with_reducible apply os_id); first | ((with_reducible apply os_x); exact rfl)) | ((with_reducible apply ox_id); first | ((with_reducible apply ox_boxAgg); exact rfl; intro _)) | ((with_reducible apply t_id); first | ((with_reducible apply t_seq)) | (apply t_region; kernel_rfl) | ((with_reducible apply t_block))) | with_reducible apply q_thenN)
  apply t_loopK (ι := Nat) [1, 2, 3, 6, 36] (fun k => [(8, .int .i64 (k : Nat)), (7, .int .i64 (manyTo o.bk f s k))]) (fun _ => []) (fun k => k ≤ o.bk.length) (fun k => o.bk.length - k) (0)
  (repeat (first | exact KeepF.nil | (apply KeepF.cons; exact rfl) | apply KeepF.skip))
  (repeat (first | exact FrSub.nil | (apply FrSub.cons; exact rfl)))
  (repeat (first | exact HpSub.refl _ | (apply HpSub.consE; (repeat (first | exact P0 | apply P1)); exact rfl) | exact HpSub.nil))
  · exact Nat.zero_le _
  rintro k hk
  try simp only [List.cons_append, List.nil_append]
  have hin := many_in o.bk f s k
  obtain ⟨mk, hmk⟩ : ∃ q, manyTo o.bk f s k = q := ⟨_, rfl⟩
  rw [hmk] at hin ⊢
  by_cases hlt : k < o.bk.length
  · obtain ⟨b1, o1, x, rfl, _, hx, c0, c1, c2⟩ := bk_read hB hlt
    cases hi : isB f s x with
    | true =>
      have hs := many_yes hx hi
      rw [hmk] at hs
      unfold isB at hi
      simp only [Bool.and_eq_true, decide_eq_true_eq] at hi
      repeat' (first | ((with_reducible apply oq_id); first | (focus ((with_reducible apply oq_indexAddrN); exact rfl; exact rfl; exact rfl; exact rfl; omega)) | (apply oq_fn; exact rfl; first | exact trivial | (refine ⟨?_, ?_⟩ <;> omega) | (refine ⟨?_, ?_, ?_⟩ <;> omega) | omega | skip) | ((with_reducible apply oq_load); exact rfl; exact rfl)) | ((with_reducible apply tl_id); first | ((with_reducible apply tl_nil)) | ((with_reducible apply u_q); exact rfl; exact rfl; exact rfl; exact rfl) | ((with_reducible apply u_splitD); exact rfl; exact rfl; all_goals first | (intro hp; try (exfalso; omega)) | skip)) | ((with_reducible apply rd_id); first | (apply Rd.own; (repeat (first | exact P0 | apply P1)); exact rfl; done) | (apply Rd.old; (first | (with_reducible assumption) | exact c0 | exact c1 | exact c2 | exact c3 | exact c4 | exact c5 | exact c6 | exact c7 | exact c8 | exact d0 | exact d1 | exact d2 | exact d3 | exact d4 | exact d5); first | exact List.not_mem_nil | exact m0 | exact m1 | exact m2 | exact m3 | exact m4 | exact m5 | exact m6 | exact m7 | exact m8 | exact m9)) | ((with_reducible apply t_id); first | ((with_reducible apply t_seq)) | (apply t_region; kernel_rfl) | ((with_reducible apply t_condD); exact rfl; all_goals first | (intro hp; try (exfalso; omega)) | skip) | ((with_reducible apply t_skip)) | ((with_reducible apply t_block))) | with_reducible apply q_thenN | with_reducible apply q_blockN)
      all_goals (refine ⟨k + 1, by omega, by omega, ?_, ?_⟩)
      all_goals ((try simp only [List.cons_append, List.nil_append]); (repeat' (first | exact FrSub.nil | (apply FrSub.cons; exact rfl) | (apply FrSub.consE; exact rfl; (rw [hs])) | exact HpSub.refl _)))
    | false =>
      have hs := many_no hx hi
      rw [hmk] at hs
      unfold isB at hi
      by_cases hf : x.flight = f
      · have hss : x.state ≠ s := by simpa [hf] using hi
        repeat' (first | ((with_reducible apply oq_id); first | (focus ((with_reducible apply oq_indexAddrN); exact rfl; exact rfl; exact rfl; exact rfl; omega)) | (apply oq_fn; exact rfl; first | exact trivial | (refine ⟨?_, ?_⟩ <;> omega) | (refine ⟨?_, ?_, ?_⟩ <;> omega) | omega | skip) | ((with_reducible apply oq_load); exact rfl; exact rfl)) | ((with_reducible apply tl_id); first | ((with_reducible apply tl_nil)) | ((with_reducible apply u_q); exact rfl; exact rfl; exact rfl; exact rfl) | ((with_reducible apply u_splitD); exact rfl; exact rfl; all_goals first | (intro hp; try (exfalso; omega)) | skip)) | ((with_reducible apply rd_id); first | (apply Rd.own; (repeat (first | exact P0 | apply P1)); exact rfl; done) | (apply Rd.old; (first | (with_reducible assumption) | exact c0 | exact c1 | exact c2 | exact c3 | exact c4 | exact c5 | exact c6 | exact c7 | exact c8 | exact d0 | exact d1 | exact d2 | exact d3 | exact d4 | exact d5); first | exact List.not_mem_nil | exact m0 | exact m1 | exact m2 | exact m3 | exact m4 | exact m5 | exact m6 | exact m7 | exact m8 | exact m9)) | ((with_reducible apply t_id); first | ((with_reducible apply t_seq)) | (apply t_region; kernel_rfl) | ((with_reducible apply t_condD); exact rfl; all_goals first | (intro hp; try (exfalso; omega)) | skip) | ((with_reducible apply t_skip)) | ((with_reducible apply t_block))) | with_reducible apply q_thenN | with_reducible apply q_blockN)
        all_goals (refine ⟨k + 1, by omega, by omega, ?_, ?_⟩)
        all_goals ((try simp only [List.cons_append, List.nil_append]); (repeat' (first | exact FrSub.nil | (apply FrSub.cons; exact rfl) | (apply FrSub.consE; exact rfl; (rw [hs])) | exact HpSub.refl _)))
      · repeat' (first | ((with_reducible apply oq_id); first | (focus ((with_reducible apply oq_indexAddrN); exact rfl; exact rfl; exact rfl; exact rfl; omega)) | (apply oq_fn; exact rfl; first | exact trivial | (refine ⟨?_, ?_⟩ <;> omega) | (refine ⟨?_, ?_, ?_⟩ <;> omega) | omega | skip) | ((with_reducible apply oq_load); exact rfl; exact rfl)) | ((with_reducible apply tl_id); first | ((with_reducible apply tl_nil)) | ((with_reducible apply u_q); exact rfl; exact rfl; exact rfl; exact rfl) | ((with_reducible apply u_skip); exact rfl; exact rfl; exact rfl) | ((with_reducible apply u_splitD); exact rfl; exact rfl; all_goals first | (intro hp; try (exfalso; omega)) | skip)) | ((with_reducible apply rd_id); first | (apply Rd.own; (repeat (first | exact P0 | apply P1)); exact rfl; done) | (apply Rd.old; (first | (with_reducible assumption) | exact c0 | exact c1 | exact c2 | exact c3 | exact c4 | exact c5 | exact c6 | exact c7 | exact c8 | exact d0 | exact d1 | exact d2 | exact d3 | exact d4 | exact d5); first | exact List.not_mem_nil | exact m0 | exact m1 | exact m2 | exact m3 | exact m4 | exact m5 | exact m6 | exact m7 | exact m8 | exact m9)) | ((with_reducible apply t_id); first | ((with_reducible apply t_seq)) | (apply t_region; kernel_rfl) | ((with_reducible apply t_condF); exact rfl) | ((with_reducible apply t_condD); exact rfl; all_goals first | (intro hp; try (exfalso; omega)) | skip) | ((with_reducible apply t_skip)) | ((with_reducible apply t_block))) | with_reducible apply q_thenN | with_reducible apply q_blockN)
        all_goals (refine ⟨k + 1, by omega, by omega, ?_, ?_⟩)
        all_goals ((try simp only [List.cons_append, List.nil_append]); (repeat' (first | exact FrSub.nil | (apply FrSub.cons; exact rfl) | (apply FrSub.consE; exact rfl; (rw [hs])) | exact HpSub.refl _)))
  · repeat' (first | ((with_reducible apply oq_id); first | (apply oq_fn; exact rfl; first | exact trivial | (refine ⟨?_, ?_⟩ <;> omega) | (refine ⟨?_, ?_, ?_⟩ <;> omega) | omega | skip) | ((with_reducible apply oq_load); exact rfl; exact rfl)) | ((with_reducible apply tl_id); first | ((with_reducible apply tl_nil)) | ((with_reducible apply u_q); exact rfl; exact rfl; exact rfl; exact rfl)) | ((with_reducible apply rd_id); first | (apply Rd.own; (repeat (first | exact P0 | apply P1)); exact rfl; done)) | ((with_reducible apply t_id); first | ((with_reducible apply t_seq)) | (apply t_region; kernel_rfl) | ((with_reducible apply t_condD); exact rfl; all_goals first | (intro hp; try (exfalso; omega)) | skip) | ((with_reducible apply t_ret)) | ((with_reducible apply t_exit))) | with_reducible apply q_thenN | with_reducible apply q_thenE | ((with_reducible apply q_blockE); exact rfl) | ((with_reducible apply end_ret)) | exact rvs_nil | ((with_reducible apply rvs_cons)) | ((with_reducible apply rv_tmp); exact rfl))
    all_goals (rw [← many_all (show o.bk.length ≤ k by omega), hmk]; rfl)

end Go.Proofs.Ytmlmgipngbndgaa
/- The office, plainly: what is valid, and what is asked of it. -/
namespace Go.Proofs.Ytmlmgipngbndgaa
open Go.RowKit
attribute [local irreducible] OQ OS OX Rd T TL GX GL AL AI RV wpG SAny Calls
set_option maxRecDepth 100000
set_option maxHeartbeats 2000000
set_option linter.unusedVariables false
set_option linter.unusedSimpArgs false

theorem depOk_in {d : Dep} (h : depOk d = true) : 0 ≤ d.seats ∧ d.seats ≤ 50 ∧ 0 ≤ d.price ∧ d.price ≤ 1000000 ∧ 0 ≤ d.leaves ∧ d.leaves ≤ 1000000 ∧ d.state ≤ 2 := by
  unfold depOk at h
  simp only [Bool.and_eq_true, decide_eq_true_eq] at h
  omega
/-- All departures are valid, their states are no negative numbers. -/
def DepsOk (fl : List Dep) : Prop := ∀ d ∈ fl, depOk d = true ∧ 0 ≤ d.state
theorem oq_mulE {c : Cx} {F : Fr} {H : Hp} {d : Option Tmp} {ty t t' : TypeId} {pos : String} {af : Array Edge} {g : Option (Nat × Bool)} {x y : Operand} {m n k : Int} (hx : ev F x = some (.int .i64 m)) (hy : ev F y = some (.int .i64 n)) (e : m * n = k) (hk : -9223372036854775808 ≤ k ∧ k ≤ 9223372036854775807) : OQ c ⟨d, .binOp .mul t x y t', ty, pos, af, g⟩ F H (.int .i64 k) := by
  subst e
  exact oq_mul hx hy ⟨hk.1, hk.2⟩
/-- All bookings are of a departure, what is kept is no more than any price. -/
def BksOk (fl : List Dep) (bk : List Bk) : Prop := ∀ x ∈ bk, 0 ≤ x.flight ∧ x.flight < (fl.length : Int) ∧ 0 ≤ x.kept ∧ x.kept ≤ 1000000
theorem bookedB_ok {fl : List Dep} (hd : DepsOk fl) {fee : Int} (hf : 0 ≤ fee ∧ fee ≤ 100) {x : Bk} (h : bookedB fl fee x = true) : 0 ≤ x.flight ∧ x.flight < (fl.length : Int) ∧ 0 ≤ x.kept ∧ x.kept ≤ 1000000 := by
  unfold bookedB at h
  split at h
  · rename_i hin
    cases hx : fl[x.flight.toNat]? with
    | none => rw [hx] at h; cases h
    | some d =>
      rw [hx] at h
      simp only at h
      have hdi := depOk_in (hd d (List.mem_of_getElem? hx)).1
      have := fee_in (price := d.price) (fee := fee) (by omega) hf
      split at h
      · simp only [Bool.and_eq_true, decide_eq_true_eq] at h
        omega
      · simp only [Bool.and_eq_true, decide_eq_true_eq] at h
        omega
  · cases h
theorem prc_at {fl : List Dep} {x : Bk} {i : Nat} {d : Dep} (h : x.flight = (i : Int)) (hd : fl[i]? = some d) : prc fl x = d.price := by
  unfold prc
  rw [h, Int.toNat_natCast, hd]
def Small (p : Sum4) (k : Nat) : Prop := 0 ≤ p.held ∧ p.held ≤ 1000000 * (k : Int) ∧ 0 ≤ p.earned ∧ p.earned ≤ 1000000 * (k : Int) ∧ 0 ≤ p.kept ∧ p.kept ≤ 1000000 * (k : Int) ∧ -1000000 * (k : Int) ≤ p.back ∧ p.back ≤ 1000000 * (k : Int)
theorem sums_in {fl : List Dep} (hd : DepsOk fl) {bk : List Bk} (hb : BksOk fl bk) : ∀ {k : Nat}, k ≤ bk.length → Small (sumsTo fl bk k) k
  | 0, _ => by unfold sumsTo Small; simp
  | k + 1, h => by
    have ih := sums_in hd hb (k := k) (by omega)
    have hx : bk[k]? = some bk[k] := List.getElem?_eq_getElem (by omega)
    have hxb := hb bk[k] (List.getElem_mem (by omega))
    rw [sums_succ hx]
    have hp : 0 ≤ prc fl bk[k] ∧ prc fl bk[k] ≤ 1000000 := by
      unfold prc
      split
      · rename_i d hd2
        have := depOk_in (hd d (List.mem_of_getElem? hd2)).1
        omega
      · omega
    obtain ⟨a, b, c, d⟩ : ∃ q, sumsTo fl bk k = q := ⟨_, rfl⟩
    unfold Small at ih ⊢
    unfold addB
    split
    · simp only; omega
    · split
      · simp only; omega
      · split
        · simp only; omega
        · omega

theorem headB_in {o : Off} (h : headB o = true) : 0 ≤ o.now ∧ o.now ≤ 1000000 ∧ 0 ≤ o.notice ∧ o.notice ≤ 1000000 ∧ 0 ≤ o.fee ∧ o.fee ≤ 100 ∧ o.fl.length ≤ 10 ∧ o.bk.length ≤ 120 := by
  unfold headB at h
  simpa using h
theorem allFrom_t {lo hi z : Int} (h : lo ≤ z ∧ z ≤ hi) : allFrom lo hi [z] = true := by unfold allFrom; simp [h.1, h.2]
theorem allFrom_f {lo hi z : Int} (h : ¬ (lo ≤ z ∧ z ≤ hi)) : allFrom lo hi [z] = false := by
  unfold allFrom
  rw [Bool.eq_false_iff]
  intro h2
  simp only [List.all_cons, List.all_nil, Bool.and_true, Bool.and_eq_true, decide_eq_true_eq] at h2
  exact h h2
theorem all_no {α : Type} {p : α → Bool} {l : List α} {k : Nat} {x : α} (h : l[k]? = some x) (hp : p x = false) : l.all p = false := by
  rw [Bool.eq_false_iff, Ne, List.all_eq_true]
  intro h2
  rw [h2 x (List.mem_of_getElem? h)] at hp; cases hp
theorem all_yes {α : Type} {p : α → Bool} {l : List α} {k : Nat} (hk : l.length ≤ k) (h : ∀ x ∈ l.take k, p x = true) : l.all p = true := by
  rw [List.all_eq_true]
  exact fun y hy => h y (by rw [List.take_of_length_le hk]; exact hy)
theorem officeB_in {o : Off} (hu : ∀ d ∈ o.fl, 0 ≤ d.state) (h : officeB o = true) : headB o = true ∧ DepsOk o.fl ∧ BksOk o.fl o.bk ∧ o.bk.all (bookedB o.fl o.fee) = true ∧ (List.range o.fl.length).all (seatB o.fl o.bk) = true ∧ moneyB o = true := by
  unfold officeB at h
  simp only [Bool.and_eq_true] at h
  obtain ⟨h1, h2, h3, h4, h5⟩ := h
  have hd : DepsOk o.fl := fun d hdm => ⟨List.all_eq_true.1 h2 d hdm, hu d hdm⟩
  have hi := headB_in h1
  exact ⟨h1, hd, fun x hx => bookedB_ok hd ⟨hi.2.2.2.2.1, hi.2.2.2.2.2.1⟩ (List.all_eq_true.1 h3 x hx), h3, h4, h5⟩
def countsS (o : Off) (f : Int) : Int × Int × Int × Int × Int :=
  if officeB o then (if 0 ≤ f ∧ f < (o.fl.length : Int) then (manyV o.bk f 1, manyV o.bk f 2, manyV o.bk f 3, manyV o.bk f 4, 0) else (0, 0, 0, 0, 2)) else (0, 0, 0, 0, 84)
def purseS (o : Off) : Int × Int × Int × Int × Int :=
  if officeB o then ((sumsV o.fl o.bk).held, (sumsV o.fl o.bk).earned, (sumsV o.fl o.bk).kept, (sumsV o.fl o.bk).back, 0) else (0, 0, 0, 0, 84)
def turnS (o : Off) (i : Int) : Int × Int :=
  if officeB o then (if 0 ≤ i ∧ i < (o.bk.length : Int) then
    (match o.bk[i.toNat]? with
      | none => (0, 0)
      | some x => if x.state = 1 then (0, 0) else if x.state = 2 then (manyTo o.bk x.flight 2 i.toNat + 1, 0) else (0, 85))
    else (0, 2)) else (0, 84)
end Go.Proofs.Ytmlmgipngbndgaa
