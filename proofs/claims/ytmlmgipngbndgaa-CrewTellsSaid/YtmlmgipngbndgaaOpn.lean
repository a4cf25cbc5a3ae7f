/- An office is opened: a desk in new memory, if the office is valid. -/
import Derived.Test.YtmlmgipngbndgaaCln
namespace Go.Proofs.Ytmlmgipngbndgaa
open Go.RowKit
attribute [local irreducible] OQ OS OX Rd T TL GX GL AL AI RV wpG SAny Calls
set_option maxRecDepth 100000
set_option maxHeartbeats 2000000
set_option linter.unusedVariables false
set_option linter.unusedSimpArgs false

theorem PA {b : Nat} {C : List Value} {g : Tg} {H H' : Hp} : ∀ {G : Hp}, Pick H b C g H' → Pick (G ++ H) b C g (G ++ H')
  | [], h => h
  | x :: G, h => .tail (PA h)
theorem HpSub.skipX {x : Nat × List Value × Tg} {H G : Hp} (h : HpSub H G) : HpSub (x :: H) G := by
  induction h with
  | nil => exact .nil
  | cons p _ ih => exact .cons (.tail p) ih
theorem flat_at {α : Type} {f : α → List Value} {s : Nat} (hf : ∀ x, (f x).length = s) : ∀ {l : List α} {i : Nat} {x : α}, l[i]? = some x → ∀ {j : Nat} {v : Value}, (f x)[j]? = some v → ((l.map f).flatten)[i * s + j]? = some v
  | [], i, x, h, _, _, _ => by simp at h
  | y :: l, 0, x, h, j, v, hv => by
    obtain rfl : y = x := by simpa using h
    have hj := (List.getElem?_eq_some_iff.1 hv).1
    rw [List.map_cons, List.flatten_cons, Nat.zero_mul, Nat.zero_add, List.getElem?_append_left hj]
    exact hv
  | y :: l, i + 1, x, h, j, v, hv => by
    have h' : l[i]? = some x := by simpa using h
    have := flat_at hf h' hv
    rw [List.map_cons, List.flatten_cons, List.getElem?_append_right (by rw [hf]; rw [Nat.succ_mul]; omega), hf]
    rw [show (i + 1) * s + j - s = i * s + j by rw [Nat.succ_mul]; omega]
    exact this
theorem dep_at {l : List Dep} {k : Nat} {x : Dep} (h : l[k]? = some x) : ((l.map depCells).flatten)[0 + k * 4]? = some (.int .i64 x.seats) ∧ ((l.map depCells).flatten)[0 + k * 4 + 1]? = some (.int .i64 x.price) ∧ ((l.map depCells).flatten)[0 + k * 4 + 2]? = some (.int .i64 x.leaves) ∧ ((l.map depCells).flatten)[0 + k * 4 + 3]? = some (.int .u8 x.state) := by
  rw [Nat.zero_add]
  exact ⟨flat_at (f := depCells) (s := 4) (fun _ => rfl) h (j := 0) rfl, flat_at (f := depCells) (s := 4) (fun _ => rfl) h (j := 1) rfl, flat_at (f := depCells) (s := 4) (fun _ => rfl) h (j := 2) rfl, flat_at (f := depCells) (s := 4) (fun _ => rfl) h (j := 3) rfl⟩
theorem bk_at {l : List Bk} {k : Nat} {x : Bk} (h : l[k]? = some x) : ((l.map bkCells).flatten)[0 + k * 3]? = some (.int .i64 x.flight) ∧ ((l.map bkCells).flatten)[0 + k * 3 + 1]? = some (.int .u8 x.state) ∧ ((l.map bkCells).flatten)[0 + k * 3 + 2]? = some (.int .i64 x.kept) := by
  rw [Nat.zero_add]
  exact ⟨flat_at (f := bkCells) (s := 3) (fun _ => rfl) h (j := 0) rfl, flat_at (f := bkCells) (s := 3) (fun _ => rfl) h (j := 1) rfl, flat_at (f := bkCells) (s := 3) (fun _ => rfl) h (j := 2) rfl⟩
theorem clA_some (g c : Nat) : clA (some (g, c)) = some ⟨g, 0, none⟩ := rfl
theorem clC_some (g c : Nat) : clC (some (g, c)) = c := rfl
theorem clH_some (e s g c : Nat) (C : List Value) : clH e s C (some (g, c)) = [(g, C, some (e, s, c))] := rfl
abbrev flH (o : Off) (x : Option (Nat × Nat)) : Hp := clH 106 4 (o.fl.map depCells).flatten x
abbrev bkH (o : Off) (y : Option (Nat × Nat)) : Hp := clH 71 3 (o.bk.map bkCells).flatten y
theorem clH_rows {w0 : World} {M : Ms} {w : World} {e s n : Nat} {α : Type} {f : α → List Value} {l : List α} {x : Option (Nat × Nat)} (h : Has w0 M (clH e s (l.map f).flatten x) w) (hf : ∀ y, (f y).length = s) (hl : l.length = n) (hx : x = none → n = 0) : RdS w s (clA x) n (l.map f) := by
  cases x with
  | none =>
    obtain rfl := hx rfl
    obtain rfl := List.eq_nil_of_length_eq_zero hl
    exact RdS.nil _ _ _
  | some p =>
    exact Blk.rows (h.blk _ (List.mem_cons_self ..)).2 (by simpa using hl) (by simp only [List.mem_map]; rintro r ⟨x, _, rfl⟩; exact hf x)
theorem Has.right {w0 : World} {M : Ms} {w : World} {G H : Hp} (h : Has w0 M (G ++ H) w) : Has w0 M H w :=
  ⟨h.ext, fun x hx => h.blk x (List.mem_append_right _ hx), by have := h.nodup; rw [List.map_append, List.nodup_append] at this; exact this.2.1, h.marks⟩
theorem Has.left {w0 : World} {M : Ms} {w : World} {G H : Hp} (h : Has w0 M (G ++ H) w) : Has w0 M G w :=
  ⟨h.ext, fun x hx => h.blk x (List.mem_append_left _ hx), by have := h.nodup; rw [List.map_append, List.nodup_append] at this; exact this.1, h.marks⟩
/-- The blocks of an office at work. -/
def deskH (bd : Nat) (o : Off) (x y : Option (Nat × Nat)) : Hp := (bd, offCells o (clA x) (clC x) (clA y) (clC y), some (135, 7, 1)) :: (flH o x ++ bkH o y)
theorem desk_of {w0 : World} {M : Ms} {w : World} {H : Hp} {bd : Nat} {o : Off} {x y : Option (Nat × Nat)} (h : Has w0 M H w) (p : HpSub H (deskH bd o x y)) (hx : x = none → o.fl.length = 0) (hy : y = none → o.bk.length = 0) : Desk w bd o (clA x) (clC x) (clA y) (clC y) := by
  have h1 := h.sub p
  have hb := (h1.blk _ (List.mem_cons_self ..)).2
  have h2 : Has w0 M (flH o x ++ bkH o y) w := Has.right (G := [_]) h1
  exact ⟨hb.cell rfl, hb.cell rfl, hb.cell rfl, hb.cell rfl, hb.cell rfl, hb.cell rfl, hb.cell rfl, clH_rows h2.left (fun _ => rfl) rfl hx, clH_rows h2.right (fun _ => rfl) rfl hy⟩
/-- What 'open' hands out. -/
def OpenV (o : Off) (v : Value) (H : Hp) : Prop :=
  (officeB o = false ∧ ∃ p, v = .tuple #[.pointer p, .bool false] ∧ H = []) ∨
  (officeB o = true ∧ ∃ bd x y, (x = none → o.fl.length = 0) ∧ (y = none → o.bk.length = 0) ∧ v = .tuple #[.pointer (some ⟨bd, 0, none⟩), .bool true] ∧ H = deskH bd o x y)
theorem booked_st {fl : List Dep} {fee : Int} (hd : DepsOk fl) {x : Bk} (h : bookedB fl fee x = true) : x.state = 1 ∨ x.state = 2 ∨ x.state = 3 ∨ x.state = 4 := by
  unfold bookedB at h
  split at h
  · split at h
    · cases h
    · split at h
      · exact .inr (.inr (.inr ‹_›))
      · simp only [Bool.and_eq_true] at h
        have := h.1
        unfold fitB at this
        simp at this
        omega
  · cases h
theorem fromTwo {w0 : World} {M : Ms} {H H' : Hp} {w : World} {g : Nat} {lo hi z1 z2 : Int} {tg : Tg} {cp : Nat} {q : Bool} (hq : allFrom lo hi [z1, z2] = q) (h : Has w0 M H w) (p : Pick H g [.int .i64 z1, .int .i64 z2] tg H') :
    Calls Try.prog 63 #[.int .i64 lo, .int .i64 hi, .slice (some ⟨g, 0, none⟩) 2 cp] w fun e w' => e = .returned (.bool q) ∧ Ext w w' :=
  hq ▸ from_calls lo hi (some ⟨g, 0, none⟩) 2 cp [z1, z2] w (Blk.rows (h.blk _ p.mem).2 rfl (by simp only [List.mem_map]; rintro r ⟨x, _, rfl⟩; rfl)) (by omega)
theorem two_t {lo hi a b : Int} (h1 : lo ≤ a ∧ a ≤ hi) (h2 : lo ≤ b ∧ b ≤ hi) : allFrom lo hi [a, b] = true := by unfold allFrom; simp [h1.1, h1.2, h2.1, h2.2]
theorem two_f {lo hi a b : Int} (h : ¬ ((lo ≤ a ∧ a ≤ hi) ∧ (lo ≤ b ∧ b ≤ hi))) : allFrom lo hi [a, b] = false := by
  unfold allFrom
  rw [Bool.eq_false_iff]
  intro h2
  simp only [List.all_cons, List.all_nil, Bool.and_true, Bool.and_eq_true, decide_eq_true_eq] at h2
  exact h h2
theorem mt_many (bk : List Bk) (f s : Int) : ((cntV (mtB f [s]) bk : Nat) : Int) = manyV bk f s := by
  unfold cntV manyV
  congr 3
  funext x
  unfold mtB isB
  simp
theorem mt_many2 (bk : List Bk) (f s t : Int) (hst : s ≠ t) : ((cntV (mtB f [s, t]) bk : Nat) : Int) = manyV bk f s + manyV bk f t := by
  unfold cntV manyV
  induction bk with
  | nil => rfl
  | cons x l ih =>
    have e : mtB f [s, t] x = (isB f s x || isB f t x) := by unfold mtB isB; simp [Bool.and_or_distrib_left]
    by_cases h1 : isB f s x = true
    · have h2 : isB f t x = false := by
        unfold isB at h1 ⊢
        simp only [Bool.and_eq_true, decide_eq_true_eq] at h1
        simp [h1.1, h1.2, hst]
      simp only [List.filter_cons, e, h1, h2, Bool.true_or, if_true, List.length_cons, Bool.false_eq_true, if_false]
      omega
    · simp only [Bool.not_eq_true] at h1
      by_cases h2 : isB f t x = true
      · simp only [List.filter_cons, e, h1, h2, Bool.false_or, if_true, List.length_cons, Bool.false_eq_true, if_false]
        omega
      · simp only [Bool.not_eq_true] at h2
        simp only [List.filter_cons, e, h1, h2, Bool.or_self, Bool.false_eq_true, if_false]
        exact ih

theorem open_T (o : Off) (A : Option Addr) (cf : Nat) (B : Option Addr) (cb : Nat) (w : World) (hA : RdS w 4 A o.fl.length (o.fl.map depCells)) (hB : RdS w 3 B o.bk.length (o.bk.map bkCells)) (hnA : A = none → o.fl.length = 0 ∧ cf = 0) (hnB : B = none → o.bk.length = 0 ∧ cb = 0)
    (hu : ∀ d ∈ o.fl, 0 ≤ d.state) (hn : o.fl.length ≤ 1000000) (hn2 : o.bk.length ≤ 1000000) : Calls Try.prog 62 #[.agg ⟨offCells o A cf B cb⟩] w fun e w' => ∃ v H', e = .returned v ∧ OpenV o v H' ∧ Has w ⟨[], []⟩ H' w' := by
  refine enterF (c := cx w 126) Try.func62 rfl rfl rfl rfl ?_
  refine t_cut (ι := Nat) (fun b => [(1, .pointer (some ⟨b, 0, none⟩))]) (fun b => [(b, offCells o A cf B cb, some (25, 7, 1))]) (fun _ => True) ?_ ?_
  · repeat' (first | ((with_reducible apply oq_id); first | (apply oq_fn; exact rfl; first | exact trivial | (refine ⟨?_, ?_⟩ <;> omega) | (refine ⟨?_, ?_, ?_⟩ <;> omega) | omega | skip)) | ((with_reducible apply tl_id); first | ((with_reducible apply tl_nil)) | ((with_reducible apply u_q); exact rfl; exact rfl; exact rfl; exact rfl) | ((with_reducible apply u_s); exact rfl; exact rfl; exact rfl)) | ((with_reducible apply os_id); first | ((with_reducible apply os_x); exact rfl)) | ((with_reducible apply ox_id); first | ((with_reducible apply ox_boxAgg); exact rfl; intro _)) | ((with_reducible apply t_id); first | (apply t_region; kernel_rfl)))
    all_goals exact ⟨rfl, _, trivial, by (repeat (first | exact FrSub.nil | (apply FrSub.cons; exact rfl))), by (repeat (first | exact HpSub.refl _ | (apply HpSub.consE; (repeat (first | exact P0 | apply P1 | apply PA)); exact rfl) | exact HpSub.nil))⟩
  rintro bo -
  refine t_cut (ι := Option (Nat × Nat) × Option (Nat × Nat)) (fun _ => [(1, .pointer (some ⟨bo, 0, none⟩))]) (fun i => (bo, offCells o (clA i.1) (clC i.1) (clA i.2) (clC i.2), some (25, 7, 1)) :: (flH o i.1 ++ bkH o i.2)) (fun i => (i.1 = none → o.fl.length = 0) ∧ (i.2 = none → o.bk.length = 0)) ?_ ?_
  · repeat' (first | ((with_reducible apply oq_id); first | (apply oq_fn; exact rfl; first | exact trivial | (refine ⟨?_, ?_⟩ <;> omega) | (refine ⟨?_, ?_, ?_⟩ <;> omega) | omega | skip) | ((with_reducible apply oq_load); exact rfl; exact rfl)) | ((with_reducible apply gx_id); first | ((with_reducible apply v_nil)) | ((with_reducible apply v_q); exact rfl; exact rfl; exact rfl)) | ((with_reducible apply os_id); first | ((with_reducible apply os_store); exact rfl; exact rfl; exact rfl; exact rfl)) | ((with_reducible apply ai_id); first | ((with_reducible apply ai_n); exact rfl; exact rfl; exact rfl; exact rfl; (with_reducible apply os_callF (PV := CloneV 106 4 (o.fl.map depCells).flatten o.fl.length) (k := 92) (hc := Try.call92)); exact rfl; exact rfl; exact fun D w1 hw1 => cloneF_T A _ cf o.fl w1 (hA.ext hw1.ext.ext) hnA hn; rintro v H' ⟨x, hxn, rfl, rfl⟩; (try simp only [List.cons_append, List.nil_append])) | ((with_reducible apply ai_n); exact rfl; exact rfl; exact rfl; exact rfl; (with_reducible apply os_callF (PV := CloneV 71 3 (o.bk.map bkCells).flatten o.bk.length) (k := 93) (hc := Try.call93)); exact rfl; exact rfl; exact fun D w1 hw1 => cloneB_T B _ cb o.bk w1 (hB.ext hw1.ext.ext) hnB hn2; rintro v H' ⟨y, hyn, rfl, rfl⟩; (try simp only [List.cons_append, List.nil_append])) | ((with_reducible apply ai_q); exact rfl; exact rfl; exact rfl; exact rfl; exact rfl) | ((with_reducible apply ai_s0); exact rfl; exact rfl; exact rfl; exact rfl)) | ((with_reducible apply al_keep); focus (repeat (first | exact HpSub.refl _ | (apply HpSub.cons; (repeat (first | exact P0 | apply P1 | apply PA))) | apply HpSub.skipX | exact HpSub.nil))) | ((with_reducible apply rd_id); first | (apply Rd.own; (repeat (first | exact P0 | apply P1 | apply PA)); exact rfl; done)) | ((with_reducible apply t_id); first | (apply t_mix (id := 1) [0, 1, 3, 4] 6 #[false, false, false, false, false, false, false, true, false, true]; kernel_rfl; kernel_rfl; exact rfl)) | exact P0 | (first | (with_reducible apply P1) | (with_reducible apply PA)) | ((with_reducible apply Norm.nil); exact rfl) | ((with_reducible apply Norm.cons); exact rfl) | ((with_reducible apply al_id); first | (apply al_done; decide +kernel) | (apply al_one 2; decide +kernel) | (apply al_one 5; decide +kernel) | (apply al_one 6; decide +kernel) | (apply al_one 7; decide +kernel) | (apply al_one 8; decide +kernel) | (apply al_one 9; decide +kernel) | (apply al_two 5 6; decide +kernel)) | exact Nat.le_of_ble_eq_true rfl)
    all_goals (refine ⟨by trivial, (x, y), ⟨hxn, hyn⟩, by (repeat (first | exact FrSub.nil | (apply FrSub.cons; exact rfl))), ?_⟩)
    all_goals (rcases x with _ | ⟨g1, c1⟩ <;> rcases y with _ | ⟨g2, c2⟩ <;> simp only [flH, bkH, clH, clA, clC, List.cons_append, List.nil_append, List.append_nil])
    all_goals (repeat (first | exact HpSub.refl _ | (apply HpSub.consE; (repeat (first | exact P0 | apply P1 | apply PA)); exact rfl) | exact HpSub.nil))
  rintro ⟨x, y⟩ ⟨hxn, hyn⟩
  simp only at hxn hyn ⊢
  by_cases hh : headB o = true
  · obtain ⟨a1, a2, b1, b2, f1, f2, nf, nb⟩ := headB_in hh
    have hw2 := two_t (lo := 0) (hi := 1000000) (a := o.now) (b := o.notice) ⟨a1, a2⟩ ⟨b1, b2⟩
    have hw1f := allFrom_t (lo := 0) (hi := 100) (z := o.fee) ⟨f1, f2⟩
    refine t_cut (ι := Nat) (fun bd => [(1, .pointer (some ⟨bo, 0, none⟩)), (4, .pointer (some ⟨bd, 0, none⟩))]) (fun bd => (bd, offCells o (clA x) (clC x) (clA y) (clC y), some (135, 7, 1)) :: (bo, offCells o (clA x) (clC x) (clA y) (clC y), some (25, 7, 1)) :: (flH o x ++ bkH o y)) (fun _ => True) ?_ ?_
    · repeat' (first | ((with_reducible apply oq_id); first | (apply oq_fn; exact rfl; first | exact trivial | (refine ⟨?_, ?_⟩ <;> omega) | (refine ⟨?_, ?_, ?_⟩ <;> omega) | omega | skip) | ((with_reducible apply oq_loadAgg); exact rfl; exact rfl) | ((with_reducible apply oq_build); exact rfl; exact rfl; exact rfl)) | ((with_reducible apply tl_id); first | ((with_reducible apply tl_nil)) | ((with_reducible apply u_q); exact rfl; exact rfl; exact rfl; exact rfl) | ((with_reducible apply u_s); exact rfl; exact rfl; exact rfl)) | ((with_reducible apply os_id); first | ((with_reducible apply os_x); exact rfl)) | ((with_reducible apply ox_id); first | ((with_reducible apply ox_boxAgg); exact rfl; intro _)) | ((with_reducible apply rd_id); first | (apply Rd.own; (repeat (first | exact P0 | apply P1 | apply PA)); exact rfl; done)) | ((with_reducible apply t_id); first | (apply t_region; kernel_rfl)) | exact Rdn.zero | apply Rdn.succ | ((with_reducible apply Norm.nil); exact rfl) | ((with_reducible apply Norm.cons); exact rfl))
      all_goals exact ⟨rfl, _, trivial, by (repeat (first | exact FrSub.nil | (apply FrSub.cons; exact rfl))), by (repeat (first | exact HpSub.refl _ | (apply HpSub.consE; (repeat (first | exact P0 | apply P1 | apply PA)); exact rfl) | apply HpSub.skipX | exact HpSub.nil))⟩
    rintro bd -
    refine t_cut (ι := Unit) (fun _ => [(1, .pointer (some ⟨bo, 0, none⟩)), (4, .pointer (some ⟨bd, 0, none⟩))]) (fun _ => (bd, offCells o (clA x) (clC x) (clA y) (clC y), some (135, 7, 1)) :: (bo, offCells o (clA x) (clC x) (clA y) (clC y), some (25, 7, 1)) :: (flH o x ++ bkH o y)) (fun _ => True) ?_ ?_
    · repeat' (first | ((with_reducible apply oq_id); first | (apply oq_fn; exact rfl; first | exact trivial | (refine ⟨?_, ?_⟩ <;> omega) | (refine ⟨?_, ?_, ?_⟩ <;> omega) | omega | skip) | ((with_reducible apply oq_load); exact rfl; exact rfl) | ((with_reducible apply oq_call (k := 63) (hc := Try.call63)); exact rfl; exact rfl; exact fun D w1 hw1 => fromTwo hw2 hw1 (by (repeat (first | exact P0 | apply P1 | apply PA)))) | ((with_reducible apply oq_call (k := 63) (hc := Try.call63)); exact rfl; exact rfl; exact fun D w1 hw1 => fromOne hw1f hw1 (by (repeat (first | exact P0 | apply P1 | apply PA))))) | ((with_reducible apply tl_id); first | ((with_reducible apply tl_nil)) | ((with_reducible apply u_q); exact rfl; exact rfl; exact rfl; exact rfl) | ((with_reducible apply u_s); exact rfl; exact rfl; exact rfl) | ((with_reducible apply u_splitD); exact rfl; exact rfl; all_goals first | (intro hp; try (exfalso; omega)) | skip)) | ((with_reducible apply os_id); first | ((with_reducible apply os_x); exact rfl)) | ((with_reducible apply ox_id); first | ((with_reducible apply ox_buildSlice1); exact rfl; exact rfl; exact rfl; exact rfl; exact rfl; exact rfl; intro _)) | ((with_reducible apply rd_id); first | (apply Rd.own; (repeat (first | exact P0 | apply P1 | apply PA)); exact rfl; done)) | ((with_reducible apply t_id); first | ((with_reducible apply t_seq)) | (apply t_region; kernel_rfl) | ((with_reducible apply t_condD); exact rfl; all_goals first | (intro hp; try (exfalso; omega)) | skip) | ((with_reducible apply t_skip))) | with_reducible apply q_thenN)
      all_goals exact ⟨by trivial, (), trivial, by (repeat (first | exact FrSub.nil | (apply FrSub.cons; exact rfl))), by (repeat (first | exact HpSub.refl _ | (apply HpSub.consE; (repeat (first | exact P0 | apply P1 | apply PA)); exact rfl) | apply HpSub.skipX | exact HpSub.nil))⟩
    rintro - -
    repeat' (first | ((with_reducible apply oq_id); first | (apply oq_fn; exact rfl; first | exact trivial | (refine ⟨?_, ?_⟩ <;> omega) | (refine ⟨?_, ?_, ?_⟩ <;> omega) | omega | skip) | ((with_reducible apply oq_load); exact rfl; exact rfl)) | ((with_reducible apply tl_id); first | ((with_reducible apply tl_nil)) | ((with_reducible apply u_q); exact rfl; exact rfl; exact rfl; exact rfl)) | ((with_reducible apply rd_id); first | (apply Rd.own; (repeat (first | exact P0 | apply P1 | apply PA)); exact rfl; done)) | ((with_reducible apply t_id); first | ((with_reducible apply t_seq)) | (apply t_region; kernel_rfl) | ((with_reducible apply t_block))) | with_reducible apply q_thenN)
    apply t_loopK (ι := Nat) [1, 4, 8, 9, 10, 11, 12, 51, 52, 61, 62, 63, 64, 65, 66, 67, 68, 69, 70, 71, 72, 73, 74, 75, 76, 77, 78, 79, 80, 81, 82, 83, 84, 85, 86, 87, 88, 89, 90, 91, 92, 93, 94, 95, 96, 97, 98, 99, 100, 101, 102, 103, 104, 105, 106, 107, 108, 109, 110, 111, 112, 113, 114, 115, 116, 117, 118, 119, 120, 121, 122, 123, 124, 125] (fun k => [(53, .int .i64 (k : Nat))]) (fun _ => []) (fun k => k ≤ o.fl.length ∧ ∀ d ∈ o.fl.take k, depOk d = true) (fun k => o.fl.length - k) (0)
    (repeat (first | exact KeepF.nil | (apply KeepF.cons; exact rfl) | apply KeepF.skip))
    (repeat (first | exact FrSub.nil | (apply FrSub.cons; exact rfl)))
    (repeat (first | exact HpSub.refl _ | (apply HpSub.consE; (repeat (first | exact P0 | apply P1 | apply PA)); exact rfl) | apply HpSub.skipX | exact HpSub.nil))
    · exact ⟨Nat.zero_le _, by simp⟩
    rintro k ⟨hk, hkp⟩
    try simp only [List.cons_append, List.nil_append]
    by_cases hlt : k < o.fl.length
    · rcases x with _ | ⟨g1, c1⟩
      · exact absurd (hxn rfl) (by omega)
      obtain ⟨e, hx⟩ : ∃ e, o.fl[k]? = some e := ⟨_, List.getElem?_eq_getElem hlt⟩
      obtain ⟨r0, r1, r2, r3⟩ := dep_at hx
      have HX := fun w1 => fine_calls e.seats e.price e.leaves e.state w1
      try simp only [clA_some, clC_some, flH, bkH, clH_some, List.cons_append, List.nil_append]
      cases hpx : depOk e with
      | false =>
        rw [show depOk ⟨e.seats, e.price, e.leaves, e.state⟩ = false from hpx] at HX
        repeat' (first | ((with_reducible apply oq_id); first | (focus ((with_reducible apply oq_indexAddrN); exact rfl; exact rfl; exact rfl; exact rfl; omega)) | (apply oq_fn; exact rfl; first | exact trivial | (refine ⟨?_, ?_⟩ <;> omega) | (refine ⟨?_, ?_, ?_⟩ <;> omega) | omega | skip) | ((with_reducible apply oq_loadAgg); exact rfl; exact rfl) | ((with_reducible apply oq_call (k := 94) (hc := Try.call94)); exact rfl; exact rfl; exact fun D w1 hw1 => HX w1)) | ((with_reducible apply tl_id); first | ((with_reducible apply tl_nil)) | ((with_reducible apply u_q); exact rfl; exact rfl; exact rfl; exact rfl) | ((with_reducible apply u_s0); exact rfl; exact rfl) | ((with_reducible apply u_s); exact rfl; exact rfl; exact rfl)) | ((with_reducible apply os_id); first | ((with_reducible apply os_x); exact rfl) | ((with_reducible apply os_storeAgg); exact rfl; exact rfl; exact rfl; exact rfl; exact rfl)) | ((with_reducible apply ox_id); first | ((with_reducible apply ox_alloc); exact rfl; intro _)) | ((with_reducible apply rd_id); first | (apply Rd.own; (repeat (first | exact P0 | apply P1 | apply PA)); first | exact r0 | exact r1 | exact r2 | exact r3; done) | (apply Rd.own; (repeat (first | exact P0 | apply P1 | apply PA)); exact rfl; done)) | ((with_reducible apply t_id); first | ((with_reducible apply t_seq)) | (apply t_region; kernel_rfl) | ((with_reducible apply t_condT); exact rfl) | ((with_reducible apply t_condD); exact rfl; all_goals first | (intro hp; try (exfalso; omega)) | skip) | ((with_reducible apply t_ret)) | ((with_reducible apply t_skip)) | ((with_reducible apply t_block))) | with_reducible apply q_thenN | with_reducible apply q_thenR | with_reducible apply q_blockR | exact P0 | exact Rdn.zero | apply Rdn.succ | ((with_reducible apply Norm.nil); exact rfl) | ((with_reducible apply Norm.cons); exact rfl) | ((with_reducible apply end_ret)) | exact rvs_nil | ((with_reducible apply rvs_cons)) | ((with_reducible apply rv_tmp); exact rfl) | exact Nat.le_of_ble_eq_true rfl)
        all_goals exact ⟨_, .inl ⟨by unfold officeB; rw [all_no hx hpx]; simp, _, rfl, rfl⟩, HpSub.nil⟩
      | true =>
        rw [show depOk ⟨e.seats, e.price, e.leaves, e.state⟩ = true from hpx] at HX
        repeat' (first | ((with_reducible apply oq_id); first | (focus ((with_reducible apply oq_indexAddrN); exact rfl; exact rfl; exact rfl; exact rfl; omega)) | (apply oq_fn; exact rfl; first | exact trivial | (refine ⟨?_, ?_⟩ <;> omega) | (refine ⟨?_, ?_, ?_⟩ <;> omega) | omega | skip) | ((with_reducible apply oq_loadAgg); exact rfl; exact rfl) | ((with_reducible apply oq_call (k := 94) (hc := Try.call94)); exact rfl; exact rfl; exact fun D w1 hw1 => HX w1)) | ((with_reducible apply tl_id); first | ((with_reducible apply tl_nil)) | ((with_reducible apply u_q); exact rfl; exact rfl; exact rfl; exact rfl) | ((with_reducible apply u_s0); exact rfl; exact rfl) | ((with_reducible apply u_s); exact rfl; exact rfl; exact rfl)) | ((with_reducible apply os_id); first | ((with_reducible apply os_x); exact rfl) | ((with_reducible apply os_storeAgg); exact rfl; exact rfl; exact rfl; exact rfl; exact rfl)) | ((with_reducible apply ox_id); first | ((with_reducible apply ox_alloc); exact rfl; intro _)) | ((with_reducible apply rd_id); first | (apply Rd.own; (repeat (first | exact P0 | apply P1 | apply PA)); first | exact r0 | exact r1 | exact r2 | exact r3; done) | (apply Rd.own; (repeat (first | exact P0 | apply P1 | apply PA)); exact rfl; done)) | ((with_reducible apply t_id); first | ((with_reducible apply t_seq)) | (apply t_region; kernel_rfl) | ((with_reducible apply t_condF); exact rfl) | ((with_reducible apply t_condD); exact rfl; all_goals first | (intro hp; try (exfalso; omega)) | skip) | ((with_reducible apply t_skip)) | ((with_reducible apply t_block))) | with_reducible apply q_thenN | with_reducible apply q_blockN | exact P0 | exact Rdn.zero | apply Rdn.succ | ((with_reducible apply Norm.nil); exact rfl) | ((with_reducible apply Norm.cons); exact rfl) | exact Nat.le_of_ble_eq_true rfl)
        all_goals (refine ⟨k + 1, ⟨by omega, fun y hy => ?_⟩, by omega, ?_, ?_⟩)
        · rw [List.take_add_one, hx, List.mem_append] at hy
          rcases hy with hy | hy
          · exact hkp y hy
          · obtain rfl : y = e := by simpa using hy
            exact hpx
        · try simp only [List.cons_append, List.nil_append]
          (repeat (first | exact FrSub.nil | (apply FrSub.cons; exact rfl)))
        · try simp only [List.cons_append, List.nil_append]
          (repeat (first | exact HpSub.refl _ | (apply HpSub.consE; (repeat (first | exact P0 | apply P1 | apply PA)); exact rfl) | apply HpSub.skipX | exact HpSub.nil))
    · have hda : o.fl.all depOk = true := all_yes (by omega) hkp
      have hd : DepsOk o.fl := fun d hdm => ⟨List.all_eq_true.1 hda d hdm, hu d hdm⟩
      clear hkp hw2 hw1f
      repeat' (first | ((with_reducible apply oq_id); first | (apply oq_fn; exact rfl; first | exact trivial | (refine ⟨?_, ?_⟩ <;> omega) | (refine ⟨?_, ?_, ?_⟩ <;> omega) | omega | skip) | ((with_reducible apply oq_load); exact rfl; exact rfl)) | ((with_reducible apply tl_id); first | ((with_reducible apply tl_nil)) | ((with_reducible apply u_q); exact rfl; exact rfl; exact rfl; exact rfl)) | ((with_reducible apply rd_id); first | (apply Rd.own; (repeat (first | exact P0 | apply P1 | apply PA)); exact rfl; done)) | ((with_reducible apply t_id); first | ((with_reducible apply t_seq)) | (apply t_region; kernel_rfl) | ((with_reducible apply t_condD); exact rfl; all_goals first | (intro hp; try (exfalso; omega)) | skip) | ((with_reducible apply t_exit)) | ((with_reducible apply t_block))) | with_reducible apply q_thenN | with_reducible apply q_thenE | ((with_reducible apply q_blockE); exact rfl))
      apply t_loopK (ι := Nat) [1, 4, 9, 10, 11, 12, 62, 63, 73, 74, 75, 76, 77, 78, 79, 80, 81, 82, 83, 84, 85, 86, 87, 88, 89, 90, 91, 92, 93, 94, 95, 96, 97, 98, 99, 100, 101, 102, 103, 104, 105, 106, 107, 108, 109, 110, 111, 112, 113, 114, 115, 116, 117, 118, 119, 120, 121, 122, 123, 124, 125] (fun k => [(64, .int .i64 (k : Nat))]) (fun _ => []) (fun k => k ≤ o.bk.length ∧ ∀ x ∈ o.bk.take k, bookedB o.fl o.fee x = true) (fun k => o.bk.length - k) (0)
      (repeat (first | exact KeepF.nil | (apply KeepF.cons; exact rfl) | apply KeepF.skip))
      (repeat (first | exact FrSub.nil | (apply FrSub.cons; exact rfl)))
      (repeat (first | exact HpSub.refl _ | (apply HpSub.consE; (repeat (first | exact P0 | apply P1 | apply PA)); exact rfl) | apply HpSub.skipX | exact HpSub.nil))
      · exact ⟨Nat.zero_le _, by simp⟩
      rintro k ⟨hk, hkp⟩
      try simp only [List.cons_append, List.nil_append]
      by_cases hlt : k < o.bk.length
      · rcases y with _ | ⟨g2, c2⟩
        · exact absurd (hyn rfl) (by omega)
        obtain ⟨e, hx⟩ : ∃ e, o.bk[k]? = some e := ⟨_, List.getElem?_eq_getElem hlt⟩
        obtain ⟨r0, r1, r2⟩ := bk_at hx
        have HX := fun w1 hD1 => sold_calls bd o (clA x) (clC x) (clA (some (g2, c2))) (clC (some (g2, c2))) w1 hD1 hd ⟨f1, f2⟩ (by omega) e.flight e.state e.kept
        try simp only [clA_some, clC_some, flH, bkH, clH_some, List.cons_append, List.nil_append]
        cases hpx : bookedB o.fl o.fee e with
        | false =>
          rw [show bookedB o.fl o.fee ⟨e.flight, e.state, e.kept⟩ = false from hpx] at HX
          repeat' (first | ((with_reducible apply oq_id); first | (focus ((with_reducible apply oq_indexAddrN); exact rfl; exact rfl; exact rfl; exact rfl; omega)) | (apply oq_fn; exact rfl; first | exact trivial | (refine ⟨?_, ?_⟩ <;> omega) | (refine ⟨?_, ?_, ?_⟩ <;> omega) | omega | skip) | ((with_reducible apply oq_loadAgg); exact rfl; exact rfl) | ((with_reducible apply oq_call (k := 95) (hc := Try.call95)); exact rfl; exact rfl; exact fun D w1 hw1 => HX w1 (desk_of hw1 (by (repeat (first | exact HpSub.refl _ | (apply HpSub.consE; (repeat (first | exact P0 | apply P1 | apply PA)); exact rfl) | apply HpSub.skipX | apply HpSub.skipX | exact HpSub.nil))) hxn hyn))) | ((with_reducible apply tl_id); first | ((with_reducible apply tl_nil)) | ((with_reducible apply u_q); exact rfl; exact rfl; exact rfl; exact rfl) | ((with_reducible apply u_s0); exact rfl; exact rfl) | ((with_reducible apply u_s); exact rfl; exact rfl; exact rfl)) | ((with_reducible apply os_id); first | ((with_reducible apply os_x); exact rfl) | ((with_reducible apply os_storeAgg); exact rfl; exact rfl; exact rfl; exact rfl; exact rfl)) | ((with_reducible apply ox_id); first | ((with_reducible apply ox_alloc); exact rfl; intro _)) | ((with_reducible apply rd_id); first | (apply Rd.own; (repeat (first | exact P0 | apply P1 | apply PA)); first | exact r0 | exact r1 | exact r2 | exact r3; done) | (apply Rd.own; (repeat (first | exact P0 | apply P1 | apply PA)); exact rfl; done)) | ((with_reducible apply t_id); first | ((with_reducible apply t_seq)) | (apply t_region; kernel_rfl) | ((with_reducible apply t_condT); exact rfl) | ((with_reducible apply t_condD); exact rfl; all_goals first | (intro hp; try (exfalso; omega)) | skip) | ((with_reducible apply t_ret)) | ((with_reducible apply t_skip)) | ((with_reducible apply t_block))) | with_reducible apply q_thenN | with_reducible apply q_thenR | with_reducible apply q_blockR | exact P0 | exact Rdn.zero | apply Rdn.succ | ((with_reducible apply Norm.nil); exact rfl) | ((with_reducible apply Norm.cons); exact rfl) | ((with_reducible apply end_ret)) | exact rvs_nil | ((with_reducible apply rvs_cons)) | ((with_reducible apply rv_tmp); exact rfl) | exact Nat.le_of_ble_eq_true rfl)
          all_goals exact ⟨_, .inl ⟨by unfold officeB; rw [all_no hx hpx]; simp, _, rfl, rfl⟩, HpSub.nil⟩
        | true =>
          rw [show bookedB o.fl o.fee ⟨e.flight, e.state, e.kept⟩ = true from hpx] at HX
          repeat' (first | ((with_reducible apply oq_id); first | (focus ((with_reducible apply oq_indexAddrN); exact rfl; exact rfl; exact rfl; exact rfl; omega)) | (apply oq_fn; exact rfl; first | exact trivial | (refine ⟨?_, ?_⟩ <;> omega) | (refine ⟨?_, ?_, ?_⟩ <;> omega) | omega | skip) | ((with_reducible apply oq_loadAgg); exact rfl; exact rfl) | ((with_reducible apply oq_call (k := 95) (hc := Try.call95)); exact rfl; exact rfl; exact fun D w1 hw1 => HX w1 (desk_of hw1 (by (repeat (first | exact HpSub.refl _ | (apply HpSub.consE; (repeat (first | exact P0 | apply P1 | apply PA)); exact rfl) | apply HpSub.skipX | apply HpSub.skipX | exact HpSub.nil))) hxn hyn))) | ((with_reducible apply tl_id); first | ((with_reducible apply tl_nil)) | ((with_reducible apply u_q); exact rfl; exact rfl; exact rfl; exact rfl) | ((with_reducible apply u_s0); exact rfl; exact rfl) | ((with_reducible apply u_s); exact rfl; exact rfl; exact rfl)) | ((with_reducible apply os_id); first | ((with_reducible apply os_x); exact rfl) | ((with_reducible apply os_storeAgg); exact rfl; exact rfl; exact rfl; exact rfl; exact rfl)) | ((with_reducible apply ox_id); first | ((with_reducible apply ox_alloc); exact rfl; intro _)) | ((with_reducible apply rd_id); first | (apply Rd.own; (repeat (first | exact P0 | apply P1 | apply PA)); first | exact r0 | exact r1 | exact r2 | exact r3; done) | (apply Rd.own; (repeat (first | exact P0 | apply P1 | apply PA)); exact rfl; done)) | ((with_reducible apply t_id); first | ((with_reducible apply t_seq)) | (apply t_region; kernel_rfl) | ((with_reducible apply t_condF); exact rfl) | ((with_reducible apply t_condD); exact rfl; all_goals first | (intro hp; try (exfalso; omega)) | skip) | ((with_reducible apply t_skip)) | ((with_reducible apply t_block))) | with_reducible apply q_thenN | with_reducible apply q_blockN | exact P0 | exact Rdn.zero | apply Rdn.succ | ((with_reducible apply Norm.nil); exact rfl) | ((with_reducible apply Norm.cons); exact rfl) | exact Nat.le_of_ble_eq_true rfl)
          all_goals (refine ⟨k + 1, ⟨by omega, fun y hy => ?_⟩, by omega, ?_, ?_⟩)
          · rw [List.take_add_one, hx, List.mem_append] at hy
            rcases hy with hy | hy
            · exact hkp y hy
            · obtain rfl : y = e := by simpa using hy
              exact hpx
          · try simp only [List.cons_append, List.nil_append]
            (repeat (first | exact FrSub.nil | (apply FrSub.cons; exact rfl)))
          · try simp only [List.cons_append, List.nil_append]
            (repeat (first | exact HpSub.refl _ | (apply HpSub.consE; (repeat (first | exact P0 | apply P1 | apply PA)); exact rfl) | apply HpSub.skipX | exact HpSub.nil))
      · have hba : o.bk.all (bookedB o.fl o.fee) = true := all_yes (by omega) hkp
        have hb : BksOk o.fl o.bk := fun x hxm => bookedB_ok hd ⟨f1, f2⟩ (List.all_eq_true.1 hba x hxm)
        have hb2 := fun x hxm => booked_st hd (List.all_eq_true.1 hba x hxm)
        clear hkp
        repeat' (first | ((with_reducible apply oq_id); first | (apply oq_fn; exact rfl; first | exact trivial | (refine ⟨?_, ?_⟩ <;> omega) | (refine ⟨?_, ?_, ?_⟩ <;> omega) | omega | skip) | ((with_reducible apply oq_load); exact rfl; exact rfl)) | ((with_reducible apply tl_id); first | ((with_reducible apply tl_nil)) | ((with_reducible apply u_q); exact rfl; exact rfl; exact rfl; exact rfl)) | ((with_reducible apply rd_id); first | (apply Rd.own; (repeat (first | exact P0 | apply P1 | apply PA)); exact rfl; done)) | ((with_reducible apply t_id); first | ((with_reducible apply t_seq)) | (apply t_region; kernel_rfl) | ((with_reducible apply t_condD); exact rfl; all_goals first | (intro hp; try (exfalso; omega)) | skip) | ((with_reducible apply t_exit)) | ((with_reducible apply t_block))) | with_reducible apply q_thenN | with_reducible apply q_thenE | ((with_reducible apply q_blockE); exact rfl))
        apply t_loopK (ι := Nat) [1, 4, 12, 74, 75, 102, 103, 104, 105, 106, 107, 108, 109, 110, 111, 112, 113, 114, 115, 116, 117, 118, 119, 120, 121, 122, 123, 124, 125] (fun k => [(76, .int .i64 (k : Nat))]) (fun _ => []) (fun k => k ≤ o.fl.length ∧ ∀ j, j < k → seatB o.fl o.bk j = true) (fun k => o.fl.length - k) (0)
        (repeat (first | exact KeepF.nil | (apply KeepF.cons; exact rfl) | apply KeepF.skip))
        (repeat (first | exact FrSub.nil | (apply FrSub.cons; exact rfl)))
        (repeat (first | exact HpSub.refl _ | (apply HpSub.consE; (repeat (first | exact P0 | apply P1 | apply PA)); exact rfl) | apply HpSub.skipX | exact HpSub.nil))
        · exact ⟨Nat.zero_le _, fun j hj => by omega⟩
        rintro k ⟨hk, hkp⟩
        try simp only [List.cons_append, List.nil_append]
        by_cases hlt : k < o.fl.length
        · rcases x with _ | ⟨g1, c1⟩
          · exact absurd (hxn rfl) (by omega)
          obtain ⟨e, hx⟩ : ∃ e, o.fl[k]? = some e := ⟨_, List.getElem?_eq_getElem hlt⟩
          obtain ⟨r0, r1, r2, r3⟩ := dep_at hx
          have HM1 := fun g cp w1 hD1 hS => count_calls bd o (clA (some (g1, c1))) (clC (some (g1, c1))) (clA y) (clC y) w1 hD1 hn2 (k : Int) (some ⟨g, 0, none⟩) 2 cp [1, 3] hS (by omega)
          have HM2 := fun g cp w1 hD1 hS => count_calls bd o (clA (some (g1, c1))) (clC (some (g1, c1))) (clA y) (clC y) w1 hD1 hn2 (k : Int) (some ⟨g, 0, none⟩) 1 cp [2] hS (by omega)
          have hm1 := many_in o.bk (k : Int) 1 o.bk.length
          have hm2 := many_in o.bk (k : Int) 2 o.bk.length
          have hm3 := many_in o.bk (k : Int) 3 o.bk.length
          rw [many_all (Nat.le_refl _)] at hm1 hm2 hm3
          rw [mt_many2 _ _ _ _ (by decide)] at HM1
          rw [mt_many] at HM2
          have hsv : seatB o.fl o.bk k = (decide (manyV o.bk k 1 + manyV o.bk k 3 ≤ e.seats) && (decide (manyV o.bk k 1 + manyV o.bk k 3 = e.seats) || decide (manyV o.bk k 2 ≤ 0))) := by unfold seatB; rw [hx]
          have hei := depOk_in (hd e (List.mem_of_getElem? hx)).1
          obtain ⟨m1, e1⟩ : ∃ q, manyV o.bk (k : Int) 1 = q := ⟨_, rfl⟩
          obtain ⟨m2, e2⟩ : ∃ q, manyV o.bk (k : Int) 2 = q := ⟨_, rfl⟩
          obtain ⟨m3, e3⟩ : ∃ q, manyV o.bk (k : Int) 3 = q := ⟨_, rfl⟩
          rw [e1, e3] at HM1
          rw [e2] at HM2
          rw [e1] at hm1
          rw [e2] at hm2
          rw [e3] at hm3
          rw [e1, e2, e3] at hsv
          try simp only [clA_some, clC_some, flH, bkH, clH_some, List.cons_append, List.nil_append]
          cases hpx : seatB o.fl o.bk k with
          | false =>
            have hv : e.seats < m1 + m3 ∨ (m1 + m3 < e.seats ∧ 0 < m2) := by
              refine Decidable.by_contra fun hc => ?_
              rw [hpx] at hsv
              have : (decide (m1 + m3 ≤ e.seats) && (decide (m1 + m3 = e.seats) || decide (m2 ≤ 0))) = true := by
                simp only [Bool.and_eq_true, Bool.or_eq_true, decide_eq_true_eq]; omega
              rw [this] at hsv; cases hsv
            repeat' (first | ((with_reducible apply oq_id); first | (focus ((with_reducible apply oq_indexAddrN); exact rfl; exact rfl; exact rfl; exact rfl; omega)) | (apply oq_fn; exact rfl; first | exact trivial | (refine ⟨?_, ?_⟩ <;> omega) | (refine ⟨?_, ?_, ?_⟩ <;> omega) | omega | skip) | ((with_reducible apply oq_load); exact rfl; exact rfl) | ((with_reducible apply oq_loadAgg); exact rfl; exact rfl) | ((with_reducible apply oq_call (k := 64) (hc := Try.call64)); exact rfl; exact rfl; exact fun D w1 hw1 => HM1 _ _ w1 (desk_of hw1 (by (repeat (first | exact HpSub.refl _ | (apply HpSub.consE; (repeat (first | exact P0 | apply P1 | apply PA)); exact rfl) | apply HpSub.skipX | apply HpSub.skipX | exact HpSub.nil))) hxn hyn) (two8 hw1 (by (repeat (first | exact P0 | apply P1 | apply PA))))) | ((with_reducible apply oq_call (k := 64) (hc := Try.call64)); exact rfl; exact rfl; exact fun D w1 hw1 => HM2 _ _ w1 (desk_of hw1 (by (repeat (first | exact HpSub.refl _ | (apply HpSub.consE; (repeat (first | exact P0 | apply P1 | apply PA)); exact rfl) | apply HpSub.skipX | apply HpSub.skipX | exact HpSub.nil))) hxn hyn) (one8 hw1 (by (repeat (first | exact P0 | apply P1 | apply PA)))))) | ((with_reducible apply tl_id); first | ((with_reducible apply tl_nil)) | ((with_reducible apply u_q); exact rfl; exact rfl; exact rfl; exact rfl) | ((with_reducible apply u_s0); exact rfl; exact rfl) | ((with_reducible apply u_s); exact rfl; exact rfl; exact rfl) | ((with_reducible apply u_skip); exact rfl; exact rfl; exact rfl) | ((with_reducible apply u_splitD); exact rfl; exact rfl; all_goals first | (intro hp; try (exfalso; omega)) | skip)) | ((with_reducible apply gx_id); first | ((with_reducible apply v_nil)) | ((with_reducible apply v_q); exact rfl; exact rfl; exact rfl)) | ((with_reducible apply os_id); first | ((with_reducible apply os_x); exact rfl) | ((with_reducible apply os_storeAgg); exact rfl; exact rfl; exact rfl; exact rfl; exact rfl)) | ((with_reducible apply ox_id); first | ((with_reducible apply ox_alloc); exact rfl; intro _) | ((with_reducible apply ox_buildSlice1); exact rfl; exact rfl; exact rfl; exact rfl; exact rfl; exact rfl; intro _)) | ((with_reducible apply ai_id); first | ((with_reducible apply ai_q); exact rfl; exact rfl; exact rfl; exact rfl; exact rfl) | ((with_reducible apply ai_x); exact rfl; exact rfl; exact rfl; exact rfl; exact rfl)) | ((with_reducible apply rd_id); first | (apply Rd.own; (repeat (first | exact P0 | apply P1 | apply PA)); first | exact r0 | exact r1 | exact r2 | exact r3; done) | (apply Rd.own; (repeat (first | exact P0 | apply P1 | apply PA)); exact rfl; done)) | ((with_reducible apply t_id); first | (apply t_mix (id := 20) [0, 1, 2, 3] 4 #[false, false, false, false, false, false, false, false]; kernel_rfl; kernel_rfl; exact rfl) | ((with_reducible apply t_seq)) | (apply t_region; kernel_rfl) | ((with_reducible apply t_condT); exact rfl) | ((with_reducible apply t_condD); exact rfl; all_goals first | (intro hp; try (exfalso; omega)) | skip) | ((with_reducible apply t_ret)) | ((with_reducible apply t_skip)) | ((with_reducible apply t_block))) | with_reducible apply q_thenN | with_reducible apply q_thenR | with_reducible apply q_blockR | exact P0 | exact Rdn.zero | apply Rdn.succ | ((with_reducible apply Norm.nil); exact rfl) | ((with_reducible apply Norm.cons); exact rfl) | ((with_reducible apply end_ret)) | exact rvs_nil | ((with_reducible apply rvs_cons)) | ((with_reducible apply rv_tmp); exact rfl) | ((with_reducible apply al_id); first | (apply al_done; decide +kernel) | (apply al_one 4; decide +kernel) | (apply al_one 5; decide +kernel) | (apply al_one 6; decide +kernel) | (apply al_one 7; decide +kernel)) | exact Nat.le_of_ble_eq_true rfl)
            all_goals exact ⟨_, .inl ⟨by unfold officeB; rw [all_no (l := List.range o.fl.length) (k := k) (x := k) (by simp [hlt]) hpx]; simp, _, rfl, rfl⟩, HpSub.nil⟩
          | true =>
            have hv : m1 + m3 ≤ e.seats ∧ (m1 + m3 = e.seats ∨ m2 ≤ 0) := by
              rw [hpx] at hsv
              have h2 := hsv.symm
              simp only [Bool.and_eq_true, Bool.or_eq_true, decide_eq_true_eq] at h2
              exact h2
            have hkp2 : ∀ y, y < k + 1 → seatB o.fl o.bk y = true := fun y hy => by
              rcases (by omega : y < k ∨ y = k) with h | rfl
              · exact hkp y h
              · exact hpx
            repeat' (first | ((with_reducible apply oq_id); first | (focus ((with_reducible apply oq_indexAddrN); exact rfl; exact rfl; exact rfl; exact rfl; omega)) | (apply oq_fn; exact rfl; first | exact trivial | (refine ⟨?_, ?_⟩ <;> omega) | (refine ⟨?_, ?_, ?_⟩ <;> omega) | omega | skip) | ((with_reducible apply oq_load); exact rfl; exact rfl) | ((with_reducible apply oq_loadAgg); exact rfl; exact rfl) | ((with_reducible apply oq_call (k := 64) (hc := Try.call64)); exact rfl; exact rfl; exact fun D w1 hw1 => HM1 _ _ w1 (desk_of hw1 (by (repeat (first | exact HpSub.refl _ | (apply HpSub.consE; (repeat (first | exact P0 | apply P1 | apply PA)); exact rfl) | apply HpSub.skipX | apply HpSub.skipX | exact HpSub.nil))) hxn hyn) (two8 hw1 (by (repeat (first | exact P0 | apply P1 | apply PA))))) | ((with_reducible apply oq_call (k := 64) (hc := Try.call64)); exact rfl; exact rfl; exact fun D w1 hw1 => HM2 _ _ w1 (desk_of hw1 (by (repeat (first | exact HpSub.refl _ | (apply HpSub.consE; (repeat (first | exact P0 | apply P1 | apply PA)); exact rfl) | apply HpSub.skipX | apply HpSub.skipX | exact HpSub.nil))) hxn hyn) (one8 hw1 (by (repeat (first | exact P0 | apply P1 | apply PA)))))) | ((with_reducible apply tl_id); first | ((with_reducible apply tl_nil)) | ((with_reducible apply u_q); exact rfl; exact rfl; exact rfl; exact rfl) | ((with_reducible apply u_s0); exact rfl; exact rfl) | ((with_reducible apply u_s); exact rfl; exact rfl; exact rfl) | ((with_reducible apply u_skip); exact rfl; exact rfl; exact rfl) | ((with_reducible apply u_splitD); exact rfl; exact rfl; all_goals first | (intro hp; try (exfalso; omega)) | skip)) | ((with_reducible apply gx_id); first | ((with_reducible apply v_nil)) | ((with_reducible apply v_q); exact rfl; exact rfl; exact rfl)) | ((with_reducible apply os_id); first | ((with_reducible apply os_x); exact rfl) | ((with_reducible apply os_storeAgg); exact rfl; exact rfl; exact rfl; exact rfl; exact rfl)) | ((with_reducible apply ox_id); first | ((with_reducible apply ox_alloc); exact rfl; intro _) | ((with_reducible apply ox_buildSlice1); exact rfl; exact rfl; exact rfl; exact rfl; exact rfl; exact rfl; intro _)) | ((with_reducible apply ai_id); first | ((with_reducible apply ai_q); exact rfl; exact rfl; exact rfl; exact rfl; exact rfl) | ((with_reducible apply ai_x); exact rfl; exact rfl; exact rfl; exact rfl; exact rfl)) | ((with_reducible apply rd_id); first | (apply Rd.own; (repeat (first | exact P0 | apply P1 | apply PA)); first | exact r0 | exact r1 | exact r2 | exact r3; done) | (apply Rd.own; (repeat (first | exact P0 | apply P1 | apply PA)); exact rfl; done)) | ((with_reducible apply t_id); first | (apply t_mix (id := 20) [0, 1, 2, 3] 4 #[false, false, false, false, false, false, false, false]; kernel_rfl; kernel_rfl; exact rfl) | ((with_reducible apply t_seq)) | (apply t_region; kernel_rfl) | ((with_reducible apply t_condF); exact rfl) | ((with_reducible apply t_condD); exact rfl; all_goals first | (intro hp; try (exfalso; omega)) | skip) | ((with_reducible apply t_skip)) | ((with_reducible apply t_block))) | with_reducible apply q_thenN | with_reducible apply q_blockN | exact P0 | exact Rdn.zero | apply Rdn.succ | ((with_reducible apply Norm.nil); exact rfl) | ((with_reducible apply Norm.cons); exact rfl) | ((with_reducible apply al_id); first | (apply al_done; decide +kernel) | (apply al_one 4; decide +kernel) | (apply al_one 5; decide +kernel) | (apply al_one 6; decide +kernel) | (apply al_one 7; decide +kernel)) | exact Nat.le_of_ble_eq_true rfl)
            all_goals (refine ⟨k + 1, ⟨by omega, hkp2⟩, by omega, ?_, ?_⟩)
            all_goals ((try simp only [List.cons_append, List.nil_append]); (repeat' (first | exact FrSub.nil | (apply FrSub.cons; exact rfl) | exact HpSub.refl _ | (apply HpSub.consE; (repeat (first | exact P0 | apply P1 | apply PA)); exact rfl) | apply HpSub.skipX)))
        · have hsa : (List.range o.fl.length).all (seatB o.fl o.bk) = true := by
            rw [List.all_eq_true]
            exact fun j hj => hkp j (by have := List.mem_range.1 hj; omega)
          have HS := fun w1 hD1 => purse_calls bd o (clA x) (clC x) (clA y) (clC y) w1 hD1 hd hb hb2 (by omega)
          have hin := sums_in hd hb (Nat.le_refl o.bk.length)
          rw [sums_all (Nat.le_refl _)] at hin
          have hof : officeB o = moneyB o := by unfold officeB; rw [hh, hda, hba, hsa]; rfl
          unfold OpenV
          rw [hof]
          unfold moneyB
          obtain ⟨⟨s1, s2, s3, s4⟩, hSS⟩ : ∃ q, sumsV o.fl o.bk = q := ⟨_, rfl⟩
          rw [hSS] at HS ⊢ hin
          unfold Small at hin
          simp only at HS hin ⊢
          by_cases q1 : o.inn = s1 + s2 + s3 + s4
          · by_cases q2 : o.out = s4
            · repeat' (first | ((with_reducible apply oq_id); first | (apply oq_fn; exact rfl; first | exact trivial | (refine ⟨?_, ?_⟩ <;> omega) | (refine ⟨?_, ?_, ?_⟩ <;> omega) | omega | skip) | ((with_reducible apply oq_load); exact rfl; exact rfl) | ((with_reducible apply oq_call (k := 68) (hc := Try.call68)); exact rfl; exact rfl; exact fun D w1 hw1 => HS w1 (desk_of hw1 (by (repeat (first | exact HpSub.refl _ | (apply HpSub.consE; (repeat (first | exact P0 | apply P1 | apply PA)); exact rfl) | apply HpSub.skipX | apply HpSub.skipX | exact HpSub.nil))) hxn hyn))) | ((with_reducible apply tl_id); first | ((with_reducible apply tl_nil)) | ((with_reducible apply u_q); exact rfl; exact rfl; exact rfl; exact rfl) | ((with_reducible apply u_s0); exact rfl; exact rfl) | ((with_reducible apply u_s); exact rfl; exact rfl; exact rfl)) | ((with_reducible apply gx_id); first | ((with_reducible apply v_nil)) | ((with_reducible apply v_q); exact rfl; exact rfl; exact rfl) | ((with_reducible apply v_splitD); exact rfl; exact rfl; all_goals first | (intro hp; try (exfalso; omega)) | skip)) | ((with_reducible apply os_id); first | ((with_reducible apply os_x); exact rfl) | ((with_reducible apply os_storeAgg); exact rfl; exact rfl; exact rfl; exact rfl; exact rfl)) | ((with_reducible apply ox_id); first | ((with_reducible apply ox_alloc); exact rfl; intro _)) | ((with_reducible apply rd_id); first | (apply Rd.own; (repeat (first | exact P0 | apply P1 | apply PA)); exact rfl; done)) | ((with_reducible apply t_id); first | ((with_reducible apply t_seq)) | (apply t_region; kernel_rfl) | (apply t_drawn; kernel_rfl; decide +kernel; try simp only [List.append_eq, List.cons_append, List.nil_append]) | ((with_reducible apply t_condD); exact rfl; all_goals first | (intro hp; try (exfalso; omega)) | skip) | ((with_reducible apply t_ret)) | ((with_reducible apply t_exit))) | with_reducible apply q_thenN | with_reducible apply q_thenE | ((with_reducible apply q_blockE); exact rfl) | exact P0 | ((with_reducible apply Norm.nil); exact rfl) | ((with_reducible apply Norm.cons); exact rfl) | ((with_reducible apply end_ret)) | exact rvs_nil | ((with_reducible apply rvs_cons)) | ((with_reducible apply rv_tmp); exact rfl) | exact Nat.le_of_ble_eq_true rfl)
              all_goals exact ⟨_, .inr ⟨by simp [q1, q2], bd, x, y, hxn, hyn, (by first | rfl | (rw [decide_eq_true q2]; rfl)), rfl⟩, by (repeat (first | exact HpSub.refl _ | (apply HpSub.consE; (repeat (first | exact P0 | apply P1 | apply PA)); exact rfl) | apply HpSub.skipX | exact HpSub.nil))⟩
            · repeat' (first | ((with_reducible apply oq_id); first | (apply oq_fn; exact rfl; first | exact trivial | (refine ⟨?_, ?_⟩ <;> omega) | (refine ⟨?_, ?_, ?_⟩ <;> omega) | omega | skip) | ((with_reducible apply oq_load); exact rfl; exact rfl) | ((with_reducible apply oq_call (k := 68) (hc := Try.call68)); exact rfl; exact rfl; exact fun D w1 hw1 => HS w1 (desk_of hw1 (by (repeat (first | exact HpSub.refl _ | (apply HpSub.consE; (repeat (first | exact P0 | apply P1 | apply PA)); exact rfl) | apply HpSub.skipX | apply HpSub.skipX | exact HpSub.nil))) hxn hyn))) | ((with_reducible apply tl_id); first | ((with_reducible apply tl_nil)) | ((with_reducible apply u_q); exact rfl; exact rfl; exact rfl; exact rfl) | ((with_reducible apply u_s0); exact rfl; exact rfl) | ((with_reducible apply u_s); exact rfl; exact rfl; exact rfl)) | ((with_reducible apply gx_id); first | ((with_reducible apply v_nil)) | ((with_reducible apply v_q); exact rfl; exact rfl; exact rfl) | ((with_reducible apply v_splitD); exact rfl; exact rfl; all_goals first | (intro hp; try (exfalso; omega)) | skip)) | ((with_reducible apply os_id); first | ((with_reducible apply os_x); exact rfl) | ((with_reducible apply os_storeAgg); exact rfl; exact rfl; exact rfl; exact rfl; exact rfl)) | ((with_reducible apply ox_id); first | ((with_reducible apply ox_alloc); exact rfl; intro _)) | ((with_reducible apply rd_id); first | (apply Rd.own; (repeat (first | exact P0 | apply P1 | apply PA)); exact rfl; done)) | ((with_reducible apply t_id); first | ((with_reducible apply t_seq)) | (apply t_region; kernel_rfl) | (apply t_drawn; kernel_rfl; decide +kernel; try simp only [List.append_eq, List.cons_append, List.nil_append]) | ((with_reducible apply t_condD); exact rfl; all_goals first | (intro hp; try (exfalso; omega)) | skip) | ((with_reducible apply t_ret)) | ((with_reducible apply t_exit))) | with_reducible apply q_thenN | with_reducible apply q_thenE | ((with_reducible apply q_blockE); exact rfl) | exact P0 | ((with_reducible apply Norm.nil); exact rfl) | ((with_reducible apply Norm.cons); exact rfl) | ((with_reducible apply end_ret)) | exact rvs_nil | ((with_reducible apply rvs_cons)) | ((with_reducible apply rv_tmp); exact rfl) | exact Nat.le_of_ble_eq_true rfl)
              all_goals exact ⟨_, .inl ⟨by simp [q2], some ⟨bd, 0, none⟩, (by first | rfl | (rw [decide_eq_false q2]; rfl)), rfl⟩, HpSub.nil⟩
          · repeat' (first | ((with_reducible apply oq_id); first | (apply oq_fn; exact rfl; first | exact trivial | (refine ⟨?_, ?_⟩ <;> omega) | (refine ⟨?_, ?_, ?_⟩ <;> omega) | omega | skip) | ((with_reducible apply oq_load); exact rfl; exact rfl) | ((with_reducible apply oq_call (k := 68) (hc := Try.call68)); exact rfl; exact rfl; exact fun D w1 hw1 => HS w1 (desk_of hw1 (by (repeat (first | exact HpSub.refl _ | (apply HpSub.consE; (repeat (first | exact P0 | apply P1 | apply PA)); exact rfl) | apply HpSub.skipX | apply HpSub.skipX | exact HpSub.nil))) hxn hyn))) | ((with_reducible apply tl_id); first | ((with_reducible apply tl_nil)) | ((with_reducible apply u_q); exact rfl; exact rfl; exact rfl; exact rfl) | ((with_reducible apply u_s0); exact rfl; exact rfl) | ((with_reducible apply u_s); exact rfl; exact rfl; exact rfl)) | ((with_reducible apply gx_id); first | ((with_reducible apply v_nil)) | ((with_reducible apply v_q); exact rfl; exact rfl; exact rfl) | ((with_reducible apply v_skip); exact rfl; exact rfl; exact rfl) | ((with_reducible apply v_splitD); exact rfl; exact rfl; all_goals first | (intro hp; try (exfalso; omega)) | skip)) | ((with_reducible apply os_id); first | ((with_reducible apply os_x); exact rfl) | ((with_reducible apply os_storeAgg); exact rfl; exact rfl; exact rfl; exact rfl; exact rfl)) | ((with_reducible apply ox_id); first | ((with_reducible apply ox_alloc); exact rfl; intro _)) | ((with_reducible apply rd_id); first | (apply Rd.own; (repeat (first | exact P0 | apply P1 | apply PA)); exact rfl; done)) | ((with_reducible apply t_id); first | ((with_reducible apply t_seq)) | (apply t_region; kernel_rfl) | (apply t_drawn; kernel_rfl; decide +kernel; try simp only [List.append_eq, List.cons_append, List.nil_append]) | ((with_reducible apply t_condD); exact rfl; all_goals first | (intro hp; try (exfalso; omega)) | skip) | ((with_reducible apply t_ret)) | ((with_reducible apply t_exit))) | with_reducible apply q_thenN | with_reducible apply q_thenE | ((with_reducible apply q_blockE); exact rfl) | exact P0 | ((with_reducible apply Norm.nil); exact rfl) | ((with_reducible apply Norm.cons); exact rfl) | ((with_reducible apply end_ret)) | exact rvs_nil | ((with_reducible apply rvs_cons)) | ((with_reducible apply rv_tmp); exact rfl) | exact Nat.le_of_ble_eq_true rfl)
            all_goals exact ⟨_, .inl ⟨by simp [q1], _, rfl, rfl⟩, HpSub.nil⟩
  · have hof : officeB o = false := by
      unfold officeB
      rw [show headB o = false by simpa using hh]
      rfl
    have hno : ¬ (0 ≤ o.now ∧ o.now ≤ 1000000 ∧ 0 ≤ o.notice ∧ o.notice ≤ 1000000 ∧ 0 ≤ o.fee ∧ o.fee ≤ 100 ∧ o.fl.length ≤ 10 ∧ o.bk.length ≤ 120) := fun h => hh (by unfold headB; simpa using h)
    by_cases h1 : (0 ≤ o.now ∧ o.now ≤ 1000000) ∧ (0 ≤ o.notice ∧ o.notice ≤ 1000000)
    · have hw2 := two_t h1.1 h1.2
      by_cases h3 : 0 ≤ o.fee ∧ o.fee ≤ 100
      · have hw1f := allFrom_t (lo := 0) (hi := 100) (z := o.fee) h3
        repeat' (first | ((with_reducible apply oq_id); first | (apply oq_fn; exact rfl; first | exact trivial | (refine ⟨?_, ?_⟩ <;> omega) | (refine ⟨?_, ?_, ?_⟩ <;> omega) | omega | skip) | ((with_reducible apply oq_load); exact rfl; exact rfl) | ((with_reducible apply oq_loadAgg); exact rfl; exact rfl) | ((with_reducible apply oq_call (k := 63) (hc := Try.call63)); exact rfl; exact rfl; exact fun D w1 hw1 => fromTwo hw2 hw1 (by (repeat (first | exact P0 | apply P1 | apply PA)))) | ((with_reducible apply oq_call (k := 63) (hc := Try.call63)); exact rfl; exact rfl; exact fun D w1 hw1 => fromOne hw1f hw1 (by (repeat (first | exact P0 | apply P1 | apply PA)))) | ((with_reducible apply oq_build); exact rfl; exact rfl; exact rfl)) | ((with_reducible apply tl_id); first | ((with_reducible apply tl_nil)) | ((with_reducible apply u_q); exact rfl; exact rfl; exact rfl; exact rfl) | ((with_reducible apply u_s); exact rfl; exact rfl; exact rfl) | ((with_reducible apply u_skip); exact rfl; exact rfl; exact rfl) | ((with_reducible apply u_splitD); exact rfl; exact rfl; all_goals first | (intro hp; try (exfalso; omega)) | skip)) | ((with_reducible apply os_id); first | ((with_reducible apply os_x); exact rfl)) | ((with_reducible apply ox_id); first | ((with_reducible apply ox_boxAgg); exact rfl; intro _) | ((with_reducible apply ox_buildSlice1); exact rfl; exact rfl; exact rfl; exact rfl; exact rfl; exact rfl; intro _)) | ((with_reducible apply rd_id); first | (apply Rd.own; (repeat (first | exact P0 | apply P1 | apply PA)); exact rfl; done)) | ((with_reducible apply t_id); first | ((with_reducible apply t_seq)) | (apply t_region; kernel_rfl) | ((with_reducible apply t_condT); exact rfl) | ((with_reducible apply t_condD); exact rfl; all_goals first | (intro hp; try (exfalso; omega)) | skip) | ((with_reducible apply t_ret))) | with_reducible apply q_thenN | with_reducible apply q_thenR | exact Rdn.zero | apply Rdn.succ | ((with_reducible apply Norm.nil); exact rfl) | ((with_reducible apply Norm.cons); exact rfl) | ((with_reducible apply end_ret)) | exact rvs_nil | ((with_reducible apply rvs_cons)) | ((with_reducible apply rv_tmp); exact rfl))
        all_goals exact ⟨_, .inl ⟨hof, _, rfl, rfl⟩, HpSub.nil⟩
      · have hw1f := allFrom_f (lo := 0) (hi := 100) (z := o.fee) h3
        repeat' (first | ((with_reducible apply oq_id); first | (apply oq_fn; exact rfl; first | exact trivial | (refine ⟨?_, ?_⟩ <;> omega) | (refine ⟨?_, ?_, ?_⟩ <;> omega) | omega | skip) | ((with_reducible apply oq_load); exact rfl; exact rfl) | ((with_reducible apply oq_loadAgg); exact rfl; exact rfl) | ((with_reducible apply oq_call (k := 63) (hc := Try.call63)); exact rfl; exact rfl; exact fun D w1 hw1 => fromTwo hw2 hw1 (by (repeat (first | exact P0 | apply P1 | apply PA)))) | ((with_reducible apply oq_call (k := 63) (hc := Try.call63)); exact rfl; exact rfl; exact fun D w1 hw1 => fromOne hw1f hw1 (by (repeat (first | exact P0 | apply P1 | apply PA)))) | ((with_reducible apply oq_build); exact rfl; exact rfl; exact rfl)) | ((with_reducible apply tl_id); first | ((with_reducible apply tl_nil)) | ((with_reducible apply u_q); exact rfl; exact rfl; exact rfl; exact rfl) | ((with_reducible apply u_s); exact rfl; exact rfl; exact rfl) | ((with_reducible apply u_skip); exact rfl; exact rfl; exact rfl)) | ((with_reducible apply os_id); first | ((with_reducible apply os_x); exact rfl)) | ((with_reducible apply ox_id); first | ((with_reducible apply ox_boxAgg); exact rfl; intro _) | ((with_reducible apply ox_buildSlice1); exact rfl; exact rfl; exact rfl; exact rfl; exact rfl; exact rfl; intro _)) | ((with_reducible apply rd_id); first | (apply Rd.own; (repeat (first | exact P0 | apply P1 | apply PA)); exact rfl; done)) | ((with_reducible apply t_id); first | ((with_reducible apply t_seq)) | (apply t_region; kernel_rfl) | ((with_reducible apply t_condT); exact rfl) | ((with_reducible apply t_ret))) | with_reducible apply q_thenN | with_reducible apply q_thenR | exact Rdn.zero | apply Rdn.succ | ((with_reducible apply Norm.nil); exact rfl) | ((with_reducible apply Norm.cons); exact rfl) | ((with_reducible apply end_ret)) | exact rvs_nil | ((with_reducible apply rvs_cons)) | ((with_reducible apply rv_tmp); exact rfl))
        all_goals exact ⟨_, .inl ⟨hof, _, rfl, rfl⟩, HpSub.nil⟩
    · have hw2 := two_f h1
      repeat' (first | ((with_reducible apply oq_id); first | (apply oq_fn; exact rfl; first | exact trivial | (refine ⟨?_, ?_⟩ <;> omega) | (refine ⟨?_, ?_, ?_⟩ <;> omega) | omega | skip) | ((with_reducible apply oq_load); exact rfl; exact rfl) | ((with_reducible apply oq_loadAgg); exact rfl; exact rfl) | ((with_reducible apply oq_call (k := 63) (hc := Try.call63)); exact rfl; exact rfl; exact fun D w1 hw1 => fromTwo hw2 hw1 (by (repeat (first | exact P0 | apply P1 | apply PA)))) | ((with_reducible apply oq_build); exact rfl; exact rfl; exact rfl)) | ((with_reducible apply tl_id); first | ((with_reducible apply tl_nil)) | ((with_reducible apply u_q); exact rfl; exact rfl; exact rfl; exact rfl) | ((with_reducible apply u_s); exact rfl; exact rfl; exact rfl) | ((with_reducible apply u_skip); exact rfl; exact rfl; exact rfl)) | ((with_reducible apply os_id); first | ((with_reducible apply os_x); exact rfl)) | ((with_reducible apply ox_id); first | ((with_reducible apply ox_boxAgg); exact rfl; intro _) | ((with_reducible apply ox_buildSlice1); exact rfl; exact rfl; exact rfl; exact rfl; exact rfl; exact rfl; intro _)) | ((with_reducible apply rd_id); first | (apply Rd.own; (repeat (first | exact P0 | apply P1 | apply PA)); exact rfl; done)) | ((with_reducible apply t_id); first | ((with_reducible apply t_seq)) | (apply t_region; kernel_rfl) | ((with_reducible apply t_condT); exact rfl) | ((with_reducible apply t_ret))) | with_reducible apply q_thenN | with_reducible apply q_thenR | exact Rdn.zero | apply Rdn.succ | ((with_reducible apply Norm.nil); exact rfl) | ((with_reducible apply Norm.cons); exact rfl) | ((with_reducible apply end_ret)) | exact rvs_nil | ((with_reducible apply rvs_cons)) | ((with_reducible apply rv_tmp); exact rfl))
      all_goals exact ⟨_, .inl ⟨hof, _, rfl, rfl⟩, HpSub.nil⟩

end Go.Proofs.Ytmlmgipngbndgaa
