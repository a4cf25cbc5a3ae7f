/- How many bookings of a departure are in some state. -/
import Derived.Test.YtmlmgipngbndgaaIter
namespace Go.Proofs.Ytmlmgipngbndgaa
open Go.RowKit
attribute [local irreducible] OQ OS OX Rd T TL GX GL AL AI RV wpG SAny Calls
set_option maxRecDepth 100000
set_option maxHeartbeats 2000000
set_option linter.unusedVariables false
set_option linter.unusedSimpArgs false

def bnd {n : Nat} (pre : List (Ix n)) : Nat := pre.foldr (fun p m => max (p.1 + 1) m) 0
theorem behind_iff {n : Nat} {pre : List (Ix n)} {j : Nat} : behind pre j ↔ bnd pre ≤ j := by
  unfold behind bnd
  induction pre with
  | nil => simp
  | cons p pre ih =>
    simp only [List.foldr_cons, List.forall_mem_cons, ih]
    omega
theorem bnd_nil {n : Nat} : bnd ([] : List (Ix n)) = 0 := rfl
theorem bnd_snoc {n : Nat} {pre : List (Ix n)} {x : Ix n} (h : behind pre x.1) : bnd (pre ++ [x]) = x.1 + 1 := by
  have h1 : ∀ j, bnd (pre ++ [x]) ≤ j ↔ x.1 + 1 ≤ j := fun j => by
    rw [← behind_iff]
    constructor
    · intro hh; exact hh x (List.mem_append_right _ (List.mem_singleton.2 rfl))
    · intro hj p hp
      rcases List.mem_append.1 hp with hp | hp
      · have := h p hp; omega
      · rw [List.mem_singleton.1 hp]; exact hj
  exact Nat.le_antisymm ((h1 _).2 (Nat.le_refl _)) ((h1 _).1 (Nat.le_refl _))
def cntTo (p : Bk → Bool) (bk : List Bk) (k : Nat) : Nat := ((bk.take k).filter p).length
def cntV (p : Bk → Bool) (bk : List Bk) : Nat := (bk.filter p).length
theorem cnt_hit {p : Bk → Bool} {bk : List Bk} {k : Nat} {y : Bk} (h : bk[k]? = some y) (hp : p y = true) : cntTo p bk (k + 1) = cntTo p bk k + 1 := by
  unfold cntTo
  rw [List.take_add_one, h, List.filter_append]
  simp [hp]
theorem cnt_gap {p : Bk → Bool} {bk : List Bk} {a : Nat} : ∀ {b : Nat}, a ≤ b → (∀ j y, a ≤ j → j < b → bk[j]? = some y → p y = false) → cntTo p bk b = cntTo p bk a := by
  intro b hab h
  induction b with
  | zero => obtain rfl : a = 0 := by omega
            rfl
  | succ b ih =>
    by_cases e : a = b + 1
    · rw [e]
    · rw [← ih (by omega) (fun j y h1 h2 h3 => h j y h1 (by omega) h3)]
      unfold cntTo
      rw [List.take_add_one, List.filter_append, List.length_append]
      cases hy : bk[b]? with
      | none => simp
      | some y => simp [h b y (by omega) (by omega) hy]
theorem cnt_all {p : Bk → Bool} {bk : List Bk} {a : Nat} (h : ∀ j y, a ≤ j → bk[j]? = some y → p y = false) : cntTo p bk a = cntV p bk := by
  by_cases hab : a ≤ bk.length
  · rw [← cnt_gap (b := bk.length) hab (fun j y h1 _ h3 => h j y h1 h3)]
    unfold cntTo cntV
    rw [List.take_length]
  · unfold cntTo cntV
    rw [List.take_of_length_le (by omega)]
theorem cnt_le (p : Bk → Bool) (bk : List Bk) (k : Nat) : cntTo p bk k ≤ bk.length := Nat.le_trans (List.length_filter_le _ _) (by rw [List.length_take]; omega)
theorem cntV_le (p : Bk → Bool) (bk : List Bk) : cntV p bk ≤ bk.length := List.length_filter_le _ _
/-- What 'of' hands out: an iterator. -/
def OfV (bd : Nat) (f : Int) (S : Option Addr) (ns cs : Nat) (v : Value) (H : Hp) : Prop :=
  ∃ b0 b1 b2, v = .func (.func 100) #[] #[.pointer (some ⟨b0, 0, none⟩), .pointer (some ⟨b1, 0, none⟩), .pointer (some ⟨b2, 0, none⟩)] ∧
    H = [(b2, [.slice S ns cs], some (109, 1, 1)), (b1, [.int .i64 f], some (3, 1, 1)), (b0, [.pointer (some ⟨bd, 0, none⟩)], some (121, 1, 1))]
theorem of_T (bd : Nat) (f : Int) (S : Option Addr) (ns cs : Nat) (w : World) : Calls Try.prog 70 #[.pointer (some ⟨bd, 0, none⟩), .int .i64 f, .slice S ns cs] w fun e w' => ∃ v H', e = .returned v ∧ OfV bd f S ns cs v H' ∧ Has w ⟨[], []⟩ H' w' := by
  refine enter (c := cx w 8) (H := []) (F := frOf 0 _) Try.func70 rfl rfl rfl (fun d v hv => (look_frOf _ 0 d v hv).2) (Has.start _) ?_
  repeat' (first | ((with_reducible apply oq_id); first | (apply oq_fn; exact rfl; first | exact trivial | (refine ⟨?_, ?_⟩ <;> omega) | (refine ⟨?_, ?_, ?_⟩ <;> omega) | omega | skip)) | ((with_reducible apply tl_id); first | ((with_reducible apply tl_nil)) | ((with_reducible apply u_q); exact rfl; exact rfl; exact rfl; exact rfl) | ((with_reducible apply u_s); exact rfl; exact rfl; exact rfl)) | ((with_reducible apply os_id); first | ((with_reducible apply os_x); exact rfl)) | ((with_reducible apply ox_id); first | ((with_reducible apply ox_box); exact rfl; exact rfl; intro _)) | ((with_reducible apply t_id); first | ((with_reducible apply t_seq)) | (apply t_region; kernel_rfl) | ((with_reducible apply t_ret))) | with_reducible apply q_thenN | ((with_reducible apply end_ret)) | exact rvs_nil | ((with_reducible apply rvs_cons)) | ((with_reducible apply rv_tmp); exact rfl))
  exact ⟨_, _, _, rfl, rfl⟩

/-- Where a slice that is read lies. -/
theorem RdS.place {w : World} {k : Nat} {A : Option Addr} {n : Nat} {xs : List (List Value)} (h : RdS w k A n xs) : ∃ g o, (0 < n → A = some ⟨g, o, none⟩ ∧ g < w.heap.size) := by
  by_cases hn : 0 < n
  · obtain ⟨b, o, h1, h2, _⟩ := h.at_ hn
    exact ⟨b, o, fun _ => ⟨h1, h2⟩⟩
  · exact ⟨0, 0, fun h => absurd h hn⟩
theorem count_calls (bd : Nat) (o : Off) (A : Option Addr) (cf : Nat) (B : Option Addr) (cb : Nat) (w : World) (hD : Desk w bd o A cf B cb) (hn : o.bk.length ≤ 1000000) (f : Int) (S : Option Addr) (ns cs : Nat) (sts : List Int) (hS : RdS w 1 S ns (sts.map u8Cells)) (hns : ns ≤ 1000000) :
    Calls Try.prog 64 #[.pointer (some ⟨bd, 0, none⟩), .int .i64 f, .slice S ns cs] w fun e w' => e = .returned (.int .i64 (cntV (mtB f sts) o.bk : Nat)) ∧ Ext w w' := by
  have hlen := hD.bk.len
  simp only [List.length_map] at hlen
  obtain ⟨gB, oB, hpl⟩ := hD.bk.place
  refine enterQ (c := cx w 16) Try.func64 rfl rfl rfl rfl ?_
  repeat' (first | ((with_reducible apply oq_id); first | (apply oq_fn; exact rfl; first | exact trivial | (refine ⟨?_, ?_⟩ <;> omega) | (refine ⟨?_, ?_, ?_⟩ <;> omega) | omega | skip)) | ((with_reducible apply tl_id); first | ((with_reducible apply tl_nil)) | ((with_reducible apply u_s); exact rfl; exact rfl; exact rfl; (with_reducible apply os_callF (PV := OfV bd f S ns cs) (k := 70) (hc := Try.call70)); exact rfl; exact rfl; exact fun D w1 hw1 => of_T _ _ _ _ _ w1; rintro v H' ⟨b0, b1, b2, rfl, rfl⟩; simp only [List.cons_append, List.nil_append]) | ((with_reducible apply u_q); exact rfl; exact rfl; exact rfl; exact rfl) | ((with_reducible apply u_s0); exact rfl; exact rfl) | ((with_reducible apply u_s); exact rfl; exact rfl; exact rfl)) | ((with_reducible apply os_id); first | ((with_reducible apply os_x); exact rfl) | ((with_reducible apply os_store); exact rfl; exact rfl; exact rfl; exact rfl)) | ((with_reducible apply ox_id); first | ((with_reducible apply ox_alloc); exact rfl; intro _)) | ((with_reducible apply t_id); first | ((with_reducible apply t_seq)) | (apply t_region; kernel_rfl) | ((with_reducible apply t_block))) | with_reducible apply q_thenN | exact P0 | ((with_reducible apply Norm.nil); exact rfl) | ((with_reducible apply Norm.cons); exact rfl) | exact Nat.le_of_ble_eq_true rfl)
  rename_i bn
  refine t_rangeV (m := 1) (α := Ix o.bk.length) (β := Unit) (κ := Unit) (ι := Nat) (encs := fun x => [.pointer (some ⟨gB, oB + x.1 * 3, none⟩)]) (Rq := fun _ W => OfAt b0 b1 b2 bd B o.bk.length cb f S ns cs sts W) (G := OfG B o.bk.length f sts) (E := OfE B o.bk.length f sts)
    (hk := [(b2, [.slice S ns cs], some (109, 1, 1)), (b1, [.int .i64 f], some (3, 1, 1)), (b0, [.pointer (some ⟨bd, 0, none⟩)], some (121, 1, 1))]) (fun i => [(bn, [.int .i64 (i : Nat)], some (3, 1, 1))]) (fun pre i => i = cntTo (mtB f sts) o.bk (bnd pre)) (fun _ _ => []) (fun _ _ => [(7, .pointer (some ⟨bn, 0, none⟩))]) (fun _ => []) (fun _ _ _ => False) 0 rfl Try.call100
    (of1_seqV 2 b0 b1 b2 bd gB oB B o.bk.length cb f S ns cs sts (fun h => (hpl h).1) hn hns) (fun n0 x => OfG.abide _ _ _ _ n0 x) (fun n0 => OfE.abide _ _ _ _ n0) ?rq ?h0 ?sub ?ok ?done (fun _ _ _ h => h.elim)
  case rq =>
    intro pre i D W _ hw
    simp only [List.cons_append, List.nil_append] at hw
    have hx : Ext w W := hw.ext.ext
    exact ⟨hw.cellAt (by (repeat (first | exact P0 | apply P1))) rfl, hw.cellAt (by (repeat (first | exact P0 | apply P1))) rfl, hw.cellAt (by (repeat (first | exact P0 | apply P1))) rfl, hS.ext hx, hx.cell hD.bks, _, hD.bk.ext hx⟩
  case h0 => rfl
  case sub =>
    simp only [List.cons_append, List.nil_append]
    (repeat (first | exact HpSub.refl _ | (apply HpSub.consE; (repeat (first | exact P0 | apply P1)); exact rfl) | exact HpSub.nil))
  case ok =>
    refine ⟨fun _ => rfl, rfl, fun x W => .inl ⟨rfl, (), ?_, ?_⟩, fun x b i n W D hb hw _ y hy => (List.not_mem_nil hy).elim, fun l' pre x i b W D hi hw hG hl' => ?_⟩
    · (repeat (first | exact FrSub.nil | (apply FrSub.cons; exact rfl)))
    · (repeat (first | exact HpSub.refl _ | (apply HpSub.consE; (repeat (first | exact P0 | apply P1)); exact rfl) | exact HpSub.nil))
    · obtain ⟨hbe, bk', hr', hm, hno⟩ := hG
      simp only [List.cons_append, List.nil_append] at hw ⊢
      have hx : Ext w W := hw.ext.ext
      obtain rfl : bk' = o.bk := bk_inj (hr'.inj (hD.bk.ext hx))
      have hxl : x.1 < o.bk.length := x.2
      have hgx := List.getElem?_eq_getElem hxl
      have hs : cntTo (mtB f sts) o.bk (bnd (pre ++ [x])) = i + 1 := by
        rw [bnd_snoc hbe, cnt_hit hgx (hm _ hgx), cnt_gap (behind_iff.1 hbe) (fun j y h1 h2 h3 => hno j y (behind_iff.2 h1) h2 h3), ← hi]
      have hle := cnt_le (mtB f sts) o.bk (bnd (pre ++ [x]))
      have c0 : W.cell? ⟨bn, 0, none⟩ = some (.int .i64 (i : Nat)) := hw.cellAt (by (repeat (first | exact P0 | apply P1))) rfl
      repeat' (first | ((with_reducible apply oq_id); first | (apply oq_fn; exact rfl; first | exact trivial | (refine ⟨?_, ?_⟩ <;> omega) | (refine ⟨?_, ?_, ?_⟩ <;> omega) | omega | skip) | ((with_reducible apply oq_load); exact rfl; exact rfl)) | ((with_reducible apply tl_id); first | ((with_reducible apply tl_nil)) | ((with_reducible apply u_q); exact rfl; exact rfl; exact rfl; exact rfl) | ((with_reducible apply u_s0); exact rfl; exact rfl)) | ((with_reducible apply os_id); first | ((with_reducible apply os_store); exact rfl; exact rfl; exact rfl; exact rfl)) | ((with_reducible apply rd_id); first | (apply Rd.own; (repeat (first | exact P0 | apply P1)); exact rfl; done)) | ((with_reducible apply t_id); first | (apply t_region; kernel_rfl) | ((with_reducible apply t_block))) | with_reducible apply q_blockN | exact P0 | ((with_reducible apply Norm.nil); exact rfl) | ((with_reducible apply Norm.cons); exact rfl) | exact Nat.le_of_ble_eq_true rfl)
      refine ⟨i + 1, hs.symm, ?_⟩
      (repeat (first | exact HpSub.refl _ | (apply HpSub.consE; (repeat (first | exact P0 | apply P1)); first | exact rfl | (simp only [Int.natCast_add, Int.natCast_one])) | exact HpSub.nil))
  case done =>
    rintro D xs i W ⟨bk', hr', hno⟩ hi hw
    simp only [List.cons_append, List.nil_append] at hw ⊢
    have hx : Ext w W := hw.ext.ext
    obtain rfl : bk' = o.bk := bk_inj (hr'.inj (hD.bk.ext hx))
    have hv : i = cntV (mtB f sts) o.bk := by rw [hi, cnt_all (fun j y h1 h2 => hno j y (behind_iff.2 h1) h2)]
    subst hv
    repeat' (first | ((with_reducible apply oq_id); first | (apply oq_fn; exact rfl; first | exact trivial | (refine ⟨?_, ?_⟩ <;> omega) | (refine ⟨?_, ?_, ?_⟩ <;> omega) | omega | skip) | ((with_reducible apply oq_load); exact rfl; exact rfl)) | ((with_reducible apply tl_id); first | ((with_reducible apply tl_nil)) | ((with_reducible apply u_q); exact rfl; exact rfl; exact rfl; exact rfl)) | ((with_reducible apply rd_id); first | (apply Rd.own; (repeat (first | exact P0 | apply P1)); exact rfl; done)) | ((with_reducible apply t_id); first | ((with_reducible apply t_seq)) | (apply t_region; kernel_rfl) | ((with_reducible apply t_ret))) | with_reducible apply q_thenN | with_reducible apply q_blockN | ((with_reducible apply end_ret)) | exact rvs_nil | ((with_reducible apply rvs_cons)) | ((with_reducible apply rv_tmp); exact rfl))
    rfl

end Go.Proofs.Ytmlmgipngbndgaa
