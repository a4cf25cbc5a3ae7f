/- Walks of the small functions that the chapter's code and its reference share: ranges, reports. -/
import Derived.Test.YtalidommelefaaaChecked
import Derived.Test.YtalidommelefaaaNews
import Derived.Test.YtalidommelefaaaReg
namespace Go.Proofs.Ytalidommelefaaa
set_option linter.unusedVariables false
set_option linter.unusedSimpArgs false
open Go.RowKit
attribute [local irreducible] wpG SAny

/-! ### from: are all numbers from lo to hi? -/
theorem from_in (n lo hi : Int) (a b : Addr) (w : World) (ha : w.cell? a = some (.int .i64 lo)) (hb : w.cell? b = some (.int .i64 hi)) :
    Calls Try.prog 125 #[.int .i64 n, .pointer (some a), .pointer (some b)] w fun e w' => e = .returned (.bool (decide (n < lo) || decide (hi < n))) ∧ w = w' := by
  by_cases h1 : n < lo
  · go_enter Try.func125, Try.ntmps125
    go_wp2
    go_ret
    simp [h1]
  · go_enter Try.func125, Try.ntmps125
    go_wp2
    go_ret
    simp
    omega

/-- A predicate on ints, as a closure. -/
structure PredInt (w : World) (g : Nat) (caps : Array Value) (p : Int → Bool) : Prop where
  run : ∀ args w', (callFunc g args).run Try.prog w' = .ok (.enter g args) w'
  calls : ∀ (n : Int) (w' : World), Ext w w' → Calls Try.prog g (#[.int .i64 n] ++ caps) w' fun e w'' => e = .returned (.bool (p n)) ∧ Ext w' w''

def idxOf {α : Type} (p : α → Bool) (zs : List α) : Int := match zs.findIdx? p with | some i => (i : Int) | none => -1
theorem idx_yes {α : Type} (p : α → Bool) (zs : List α) (k : Nat) (z : α) (hk : zs[k]? = some z) (hz : ∀ z ∈ zs.take k, p z = false) (h : p z = true) : idxOf p zs = k := by
  obtain ⟨hlt, rfl⟩ := List.getElem?_eq_some_iff.1 hk
  unfold idxOf
  have : zs.findIdx? p = some k := by
    rw [List.findIdx?_eq_some_iff_getElem]
    refine ⟨hlt, h, fun j hj => ?_⟩
    have := hz (zs[j]) (List.mem_take_iff_getElem.2 ⟨j, by omega, rfl⟩)
    simp [this]
  rw [this]
theorem idx_no {α : Type} (p : α → Bool) (zs : List α) (hz : ∀ z ∈ zs, p z = false) : idxOf p zs = -1 := by
  unfold idxOf
  have : zs.findIdx? p = none := by
    rw [List.findIdx?_eq_none_iff]; exact hz
  rw [this]
theorem take_more {α : Type} (p : α → Bool) (b : Bool) (zs : List α) (k : Nat) (z : α) (hk : zs[k]? = some z) (hz : ∀ z ∈ zs.take k, p z = b) (h : p z = b) : ∀ z ∈ zs.take (k + 1), p z = b := by
  obtain ⟨hlt, rfl⟩ := List.getElem?_eq_some_iff.1 hk
  intro z hzm
  rw [List.take_succ_eq_append_getElem hlt] at hzm
  rcases List.mem_append.1 hzm with h1 | h1
  · exact hz z h1
  · simp at h1; rw [h1]; exact h
theorem any_idx {α : Type} (p : α → Bool) (zs : List α) : decide (0 ≤ idxOf p zs) = zs.any p := by
  unfold idxOf
  cases h : zs.findIdx? p with
  | none =>
    rw [List.findIdx?_eq_none_iff] at h
    symm
    simpa using h
  | some i =>
    rw [List.findIdx?_eq_some_iff_getElem] at h
    obtain ⟨h1, h2, _⟩ := h
    symm
    simp
    exact ⟨_, List.getElem_mem h1, h2⟩

theorem indexFunc_int (A : Option Addr) (n c : Nat) (zs : List Int) (g : Nat) (caps : Array Value) (p : Int → Bool) (w : World)
    (hr : RdS w 1 A n (zs.map fun z => [.int .i64 z])) (hp : PredInt w g caps p) (hn : n ≤ 1000000000) :
    Calls Try.prog 144 #[.slice A n c, .func (.func g) #[] caps] w fun e w' => e = .returned (.int .i64 (idxOf p zs)) ∧ Ext w w' := by
  have hrun := hp.run
  have hl := hr.len
  simp at hl
  go_enter Try.func144, Try.ntmps144
  go_wp2
  go_loopw [8] (fun i wr => ∃ k : Nat, k ≤ n ∧ i = .int .i64 k ∧ (∀ z ∈ zs.take k, p z = false) ∧ Ext w wr) (fun i _ => n - (intOf i).toNat)
  case atStart => exact ⟨0, by omega, rfl, by simp, Ext.refl _⟩
  case round =>
    obtain ⟨k, hk, rfl, hz, hx⟩ := hrel
    by_cases hlt : k < n
    · obtain ⟨b, o, cs, rfl, hb, hcs, _, hc⟩ := (hr.ext hx).row hlt
      simp only [List.getElem?_map, Option.map_eq_some_iff] at hcs
      obtain ⟨z, hkz, rfl⟩ := hcs
      have hcell := hc 0 _ rfl
      simp only [Nat.mul_one, Nat.add_zero] at hcell
      have hp1 := hp.calls z wr hx
      have H := Lib.hid (And.intro hz (And.intro hl (And.intro hr (And.intro hp (And.intro hx hkz)))))
      clear hz hl hc hr hp hx hkz
      go_wp2_with fail
      refine hp1.mono ?_
      rintro e w' ⟨rfl, hx'⟩
      by_cases hpk : p z = true
      · go_wp2
        go_ret
        obtain ⟨hz, hl, hr, hp, hx, hkz⟩ := H.out
        exact ⟨by rw [idx_yes p zs k z hkz hz hpk]; rfl, hx.trans hx'⟩
      · go_wp2
        go_roundw
        case rel =>
          obtain ⟨hz, hl, hr, hp, hx, hkz⟩ := H.out
          exact ⟨k + 1, by omega, by go_num, take_more p false zs k z hkz hz (by simpa using hpk), hx.trans hx'⟩
        case measure => simp [intOf]; omega
    · go_wp2
      go_ret
      exact ⟨by rw [idx_no p zs (by rw [List.take_of_length_le (by omega)] at hz; exact hz)]; rfl, hx⟩

theorem containsFunc_int (A : Option Addr) (n c : Nat) (zs : List Int) (g : Nat) (caps : Array Value) (p : Int → Bool) (w : World)
    (hr : RdS w 1 A n (zs.map fun z => [.int .i64 z])) (hp : PredInt w g caps p) (hn : n ≤ 1000000000) :
    Calls Try.prog 124 #[.slice A n c, .func (.func g) #[] caps] w fun e w' => e = .returned (.bool (zs.any p)) ∧ Ext w w' := by
  have hc := indexFunc_int A n c zs g caps p w hr hp hn
  have H := Lib.hid hc
  clear hc hr hp hn
  go_enter Try.func124, Try.ntmps124
  go_wp2_with (go_at_call 144; refine H.out.mono ?_; rintro e w' ⟨rfl, hx⟩)
  go_ret
  refine ⟨?_, hx⟩
  show Ending.returned (.bool (decide (0 ≤ idxOf p zs))) = _
  rw [any_idx]

def allFrom (lo hi : Int) (zs : List Int) : Bool := zs.all fun z => decide (lo ≤ z ∧ z ≤ hi)
theorem allFrom_any (lo hi : Int) (zs : List Int) : (!zs.any fun n => decide (n < lo) || decide (hi < n)) = allFrom lo hi zs := by
  unfold allFrom
  induction zs with
  | nil => rfl
  | cons z zs ih =>
    simp only [List.any_cons, List.all_cons, Bool.not_or, ih]
    congr 1
    by_cases h1 : z < lo <;> by_cases h2 : hi < z <;> simp [h1, h2] <;> omega

theorem from_calls (lo hi : Int) (A : Option Addr) (n c : Nat) (zs : List Int) (w : World)
    (hr : RdS w 1 A n (zs.map fun z => [.int .i64 z])) (hn : n ≤ 1000000000) :
    Calls Try.prog 71 #[.int .i64 lo, .int .i64 hi, .slice A n c] w fun e w' => e = .returned (.bool (allFrom lo hi zs)) ∧ Ext w w' := by
  have hc := fun caps w1 hx hp => containsFunc_int A n c zs 125 caps (fun n => decide (n < lo) || decide (hi < n)) w1 (hr.ext hx) hp hn
  have H := Lib.hid hc
  clear hc hr hn
  go_enter Try.func71, Try.ntmps71
  go_wp2_with fail
  refine (H.out _ _ (((Ext.refl w).alloc _).alloc _) ⟨fun args w' => by go_simp, fun n w' hx => ?_⟩).mono ?_
  · refine (from_in n lo hi _ _ w' (hx.cell ?_) (hx.cell ?_)).mono fun e w'' ⟨h1, h2⟩ => ⟨h1, h2 ▸ Ext.refl _⟩
    · go_simp
    · go_simp
  · rintro e w' ⟨rfl, hx⟩
    go_wp2
    go_ret
    refine ⟨?_, hx.of_alloc.of_alloc⟩
    show Ending.returned (.bool (!zs.any fun n => decide (n < lo) || decide (hi < n))) = _
    rw [allFrom_any]

theorem from1 (lo hi x0 : Int) (b : Nat) (t : TypeId) (w : World) (hb : b = w.heap.size) :
    Calls Try.prog 71 #[.int .i64 lo, .int .i64 hi, .slice (some ⟨b, 0, none⟩) 1 1] (w.alloc (.cells #[.int .i64 x0] t)) fun e w' => e = .returned (.bool (allFrom lo hi [x0])) ∧ Ext w w' := by
  have hr : RdS (w.alloc (.cells #[.int .i64 x0] t)) 1 (some ⟨b, 0, none⟩) 1 ([x0].map fun z => [Value.int .i64 z]) := RdS.row1 (xs := [.int .i64 x0]) hb rfl
  exact (from_calls lo hi (some ⟨b, 0, none⟩) 1 1 [x0] _ hr (by omega)).mono fun e w' ⟨h1, h2⟩ => ⟨h1, h2.of_alloc⟩
theorem from2 (lo hi x0 x1 : Int) (b : Nat) (t : TypeId) (w : World) (hb : b = w.heap.size) :
    Calls Try.prog 71 #[.int .i64 lo, .int .i64 hi, .slice (some ⟨b, 0, none⟩) 2 2] (w.alloc (.cells #[.int .i64 x0, .int .i64 x1] t)) fun e w' => e = .returned (.bool (allFrom lo hi [x0, x1])) ∧ Ext w w' := by
  have hr : RdS (w.alloc (.cells #[.int .i64 x0, .int .i64 x1] t)) 1 (some ⟨b, 0, none⟩) 2 ([x0, x1].map fun z => [Value.int .i64 z]) := RdS.row1 (xs := [.int .i64 x0, .int .i64 x1]) hb rfl
  exact (from_calls lo hi (some ⟨b, 0, none⟩) 2 2 [x0, x1] _ hr (by omega)).mono fun e w' ⟨h1, h2⟩ => ⟨h1, h2.of_alloc⟩
theorem from3 (lo hi x0 x1 x2 : Int) (b : Nat) (t : TypeId) (w : World) (hb : b = w.heap.size) :
    Calls Try.prog 71 #[.int .i64 lo, .int .i64 hi, .slice (some ⟨b, 0, none⟩) 3 3] (w.alloc (.cells #[.int .i64 x0, .int .i64 x1, .int .i64 x2] t)) fun e w' => e = .returned (.bool (allFrom lo hi [x0, x1, x2])) ∧ Ext w w' := by
  have hr : RdS (w.alloc (.cells #[.int .i64 x0, .int .i64 x1, .int .i64 x2] t)) 1 (some ⟨b, 0, none⟩) 3 ([x0, x1, x2].map fun z => [Value.int .i64 z]) := RdS.row1 (xs := [.int .i64 x0, .int .i64 x1, .int .i64 x2]) hb rfl
  exact (from_calls lo hi (some ⟨b, 0, none⟩) 3 3 [x0, x1, x2] _ hr (by omega)).mono fun e w' ⟨h1, h2⟩ => ⟨h1, h2.of_alloc⟩
theorem from4 (lo hi x0 x1 x2 x3 : Int) (b : Nat) (t : TypeId) (w : World) (hb : b = w.heap.size) :
    Calls Try.prog 71 #[.int .i64 lo, .int .i64 hi, .slice (some ⟨b, 0, none⟩) 4 4] (w.alloc (.cells #[.int .i64 x0, .int .i64 x1, .int .i64 x2, .int .i64 x3] t)) fun e w' => e = .returned (.bool (allFrom lo hi [x0, x1, x2, x3])) ∧ Ext w w' := by
  have hr : RdS (w.alloc (.cells #[.int .i64 x0, .int .i64 x1, .int .i64 x2, .int .i64 x3] t)) 1 (some ⟨b, 0, none⟩) 4 ([x0, x1, x2, x3].map fun z => [Value.int .i64 z]) := RdS.row1 (xs := [.int .i64 x0, .int .i64 x1, .int .i64 x2, .int .i64 x3]) hb rfl
  exact (from_calls lo hi (some ⟨b, 0, none⟩) 4 4 [x0, x1, x2, x3] _ hr (by omega)).mono fun e w' ⟨h1, h2⟩ => ⟨h1, h2.of_alloc⟩

def insideB (x y lo hi : Int) : Bool := decide (x ≤ y ∧ lo ≤ x ∧ y ≤ hi)
theorem inside_calls (x y lo hi : Int) (w : World) :
    Calls Try.prog 72 #[.agg #[.int .i64 x, .int .i64 y], .int .i64 lo, .int .i64 hi] w fun e w' => e = .returned (.bool (insideB x y lo hi)) ∧ Ext w w' := by
  by_cases h : x ≤ y
  · go_enter Try.func72, Try.ntmps72
    go_wp2_with (go_at_call 71; (with_reducible refine (from2 _ _ _ _ _ _ _ ?_).mono ?_); (next => (go_simp; done)); rintro e w1 ⟨rfl, hx⟩; (first | (with_reducible refine Ext.use6 hx ?_; intro hE; (try replace c0 := Ext.cell hE c0; try replace c1 := Ext.cell hE c1; try replace c2 := Ext.cell hE c2; try replace c3 := Ext.cell hE c3; try replace c4 := Ext.cell hE c4; try replace c5 := Ext.cell hE c5; try replace d0 := Ext.cell hE d0; try replace d1 := Ext.cell hE d1; try replace d2 := Ext.cell hE d2; try replace d3 := Ext.cell hE d3; try replace d4 := Ext.cell hE d4; try replace d5 := Ext.cell hE d5; try replace hb := Nat.lt_of_lt_of_le hb (Ext.size hE); try replace hb' := Nat.lt_of_lt_of_le hb' (Ext.size hE); try replace e1 := Ext.blk hE e1; try replace e2 := Ext.blk hE e2; try replace e3 := Ext.blk hE e3; try replace e4 := Ext.blk hE e4; try replace e5 := Ext.blk hE e5; try replace e6 := Ext.blk hE e6; try replace k1 := Ext.blk hE k1; try replace k2 := Ext.blk hE k2; try replace k3 := Ext.blk hE k3; try replace k4 := Ext.blk hE k4; try replace k5 := Ext.blk hE k5; try replace k6 := Ext.blk hE k6); intro k0 k1 k2 k3 k4 k5 k6) | (with_reducible refine Ext.use5 hx ?_; intro hE; (try replace c0 := Ext.cell hE c0; try replace c1 := Ext.cell hE c1; try replace c2 := Ext.cell hE c2; try replace c3 := Ext.cell hE c3; try replace c4 := Ext.cell hE c4; try replace c5 := Ext.cell hE c5; try replace d0 := Ext.cell hE d0; try replace d1 := Ext.cell hE d1; try replace d2 := Ext.cell hE d2; try replace d3 := Ext.cell hE d3; try replace d4 := Ext.cell hE d4; try replace d5 := Ext.cell hE d5; try replace hb := Nat.lt_of_lt_of_le hb (Ext.size hE); try replace hb' := Nat.lt_of_lt_of_le hb' (Ext.size hE); try replace e1 := Ext.blk hE e1; try replace e2 := Ext.blk hE e2; try replace e3 := Ext.blk hE e3; try replace e4 := Ext.blk hE e4; try replace e5 := Ext.blk hE e5; try replace e6 := Ext.blk hE e6; try replace k1 := Ext.blk hE k1; try replace k2 := Ext.blk hE k2; try replace k3 := Ext.blk hE k3; try replace k4 := Ext.blk hE k4; try replace k5 := Ext.blk hE k5; try replace k6 := Ext.blk hE k6); intro k0 k1 k2 k3 k4 k5) | (with_reducible refine Ext.use4 hx ?_; intro hE; (try replace c0 := Ext.cell hE c0; try replace c1 := Ext.cell hE c1; try replace c2 := Ext.cell hE c2; try replace c3 := Ext.cell hE c3; try replace c4 := Ext.cell hE c4; try replace c5 := Ext.cell hE c5; try replace d0 := Ext.cell hE d0; try replace d1 := Ext.cell hE d1; try replace d2 := Ext.cell hE d2; try replace d3 := Ext.cell hE d3; try replace d4 := Ext.cell hE d4; try replace d5 := Ext.cell hE d5; try replace hb := Nat.lt_of_lt_of_le hb (Ext.size hE); try replace hb' := Nat.lt_of_lt_of_le hb' (Ext.size hE); try replace e1 := Ext.blk hE e1; try replace e2 := Ext.blk hE e2; try replace e3 := Ext.blk hE e3; try replace e4 := Ext.blk hE e4; try replace e5 := Ext.blk hE e5; try replace e6 := Ext.blk hE e6; try replace k1 := Ext.blk hE k1; try replace k2 := Ext.blk hE k2; try replace k3 := Ext.blk hE k3; try replace k4 := Ext.blk hE k4; try replace k5 := Ext.blk hE k5; try replace k6 := Ext.blk hE k6); intro k0 k1 k2 k3 k4) | (with_reducible refine Ext.use3 hx ?_; intro hE; (try replace c0 := Ext.cell hE c0; try replace c1 := Ext.cell hE c1; try replace c2 := Ext.cell hE c2; try replace c3 := Ext.cell hE c3; try replace c4 := Ext.cell hE c4; try replace c5 := Ext.cell hE c5; try replace d0 := Ext.cell hE d0; try replace d1 := Ext.cell hE d1; try replace d2 := Ext.cell hE d2; try replace d3 := Ext.cell hE d3; try replace d4 := Ext.cell hE d4; try replace d5 := Ext.cell hE d5; try replace hb := Nat.lt_of_lt_of_le hb (Ext.size hE); try replace hb' := Nat.lt_of_lt_of_le hb' (Ext.size hE); try replace e1 := Ext.blk hE e1; try replace e2 := Ext.blk hE e2; try replace e3 := Ext.blk hE e3; try replace e4 := Ext.blk hE e4; try replace e5 := Ext.blk hE e5; try replace e6 := Ext.blk hE e6; try replace k1 := Ext.blk hE k1; try replace k2 := Ext.blk hE k2; try replace k3 := Ext.blk hE k3; try replace k4 := Ext.blk hE k4; try replace k5 := Ext.blk hE k5; try replace k6 := Ext.blk hE k6); intro k0 k1 k2 k3) | (with_reducible refine Ext.use2 hx ?_; intro hE; (try replace c0 := Ext.cell hE c0; try replace c1 := Ext.cell hE c1; try replace c2 := Ext.cell hE c2; try replace c3 := Ext.cell hE c3; try replace c4 := Ext.cell hE c4; try replace c5 := Ext.cell hE c5; try replace d0 := Ext.cell hE d0; try replace d1 := Ext.cell hE d1; try replace d2 := Ext.cell hE d2; try replace d3 := Ext.cell hE d3; try replace d4 := Ext.cell hE d4; try replace d5 := Ext.cell hE d5; try replace hb := Nat.lt_of_lt_of_le hb (Ext.size hE); try replace hb' := Nat.lt_of_lt_of_le hb' (Ext.size hE); try replace e1 := Ext.blk hE e1; try replace e2 := Ext.blk hE e2; try replace e3 := Ext.blk hE e3; try replace e4 := Ext.blk hE e4; try replace e5 := Ext.blk hE e5; try replace e6 := Ext.blk hE e6; try replace k1 := Ext.blk hE k1; try replace k2 := Ext.blk hE k2; try replace k3 := Ext.blk hE k3; try replace k4 := Ext.blk hE k4; try replace k5 := Ext.blk hE k5; try replace k6 := Ext.blk hE k6); intro k0 k1 k2) | (with_reducible refine Ext.use1 hx ?_; intro hE; (try replace c0 := Ext.cell hE c0; try replace c1 := Ext.cell hE c1; try replace c2 := Ext.cell hE c2; try replace c3 := Ext.cell hE c3; try replace c4 := Ext.cell hE c4; try replace c5 := Ext.cell hE c5; try replace d0 := Ext.cell hE d0; try replace d1 := Ext.cell hE d1; try replace d2 := Ext.cell hE d2; try replace d3 := Ext.cell hE d3; try replace d4 := Ext.cell hE d4; try replace d5 := Ext.cell hE d5; try replace hb := Nat.lt_of_lt_of_le hb (Ext.size hE); try replace hb' := Nat.lt_of_lt_of_le hb' (Ext.size hE); try replace e1 := Ext.blk hE e1; try replace e2 := Ext.blk hE e2; try replace e3 := Ext.blk hE e3; try replace e4 := Ext.blk hE e4; try replace e5 := Ext.blk hE e5; try replace e6 := Ext.blk hE e6; try replace k1 := Ext.blk hE k1; try replace k2 := Ext.blk hE k2; try replace k3 := Ext.blk hE k3; try replace k4 := Ext.blk hE k4; try replace k5 := Ext.blk hE k5; try replace k6 := Ext.blk hE k6); intro k0 k1) | (with_reducible refine Ext.use hx ?_; intro hE; (try replace c0 := Ext.cell hE c0; try replace c1 := Ext.cell hE c1; try replace c2 := Ext.cell hE c2; try replace c3 := Ext.cell hE c3; try replace c4 := Ext.cell hE c4; try replace c5 := Ext.cell hE c5; try replace d0 := Ext.cell hE d0; try replace d1 := Ext.cell hE d1; try replace d2 := Ext.cell hE d2; try replace d3 := Ext.cell hE d3; try replace d4 := Ext.cell hE d4; try replace d5 := Ext.cell hE d5; try replace hb := Nat.lt_of_lt_of_le hb (Ext.size hE); try replace hb' := Nat.lt_of_lt_of_le hb' (Ext.size hE); try replace e1 := Ext.blk hE e1; try replace e2 := Ext.blk hE e2; try replace e3 := Ext.blk hE e3; try replace e4 := Ext.blk hE e4; try replace e5 := Ext.blk hE e5; try replace e6 := Ext.blk hE e6; try replace k1 := Ext.blk hE k1; try replace k2 := Ext.blk hE k2; try replace k3 := Ext.blk hE k3; try replace k4 := Ext.blk hE k4; try replace k5 := Ext.blk hE k5; try replace k6 := Ext.blk hE k6); intro k0)))
    go_ret
    refine ⟨?_, by (repeat (first | exact Ext.refl _ | assumption | refine Ext.alloc ?_ _ | refine Ext.drew ?_ | (refine Ext.setCell ?_ (by first | (simp; done) | (simp; omega) | omega) _) | refine Ext.trans ?_ (by assumption)))⟩
    refine ret_bool (Bool.eq_iff_iff.2 ?_)
    simp [allFrom, insideB] <;> omega
  · go_enter Try.func72, Try.ntmps72
    go_wp2_with (go_at_call 71; (with_reducible refine (from2 _ _ _ _ _ _ _ ?_).mono ?_); (next => (go_simp; done)); rintro e w1 ⟨rfl, hx⟩; (first | (with_reducible refine Ext.use6 hx ?_; intro hE; (try replace c0 := Ext.cell hE c0; try replace c1 := Ext.cell hE c1; try replace c2 := Ext.cell hE c2; try replace c3 := Ext.cell hE c3; try replace c4 := Ext.cell hE c4; try replace c5 := Ext.cell hE c5; try replace d0 := Ext.cell hE d0; try replace d1 := Ext.cell hE d1; try replace d2 := Ext.cell hE d2; try replace d3 := Ext.cell hE d3; try replace d4 := Ext.cell hE d4; try replace d5 := Ext.cell hE d5; try replace hb := Nat.lt_of_lt_of_le hb (Ext.size hE); try replace hb' := Nat.lt_of_lt_of_le hb' (Ext.size hE); try replace e1 := Ext.blk hE e1; try replace e2 := Ext.blk hE e2; try replace e3 := Ext.blk hE e3; try replace e4 := Ext.blk hE e4; try replace e5 := Ext.blk hE e5; try replace e6 := Ext.blk hE e6; try replace k1 := Ext.blk hE k1; try replace k2 := Ext.blk hE k2; try replace k3 := Ext.blk hE k3; try replace k4 := Ext.blk hE k4; try replace k5 := Ext.blk hE k5; try replace k6 := Ext.blk hE k6); intro k0 k1 k2 k3 k4 k5 k6) | (with_reducible refine Ext.use5 hx ?_; intro hE; (try replace c0 := Ext.cell hE c0; try replace c1 := Ext.cell hE c1; try replace c2 := Ext.cell hE c2; try replace c3 := Ext.cell hE c3; try replace c4 := Ext.cell hE c4; try replace c5 := Ext.cell hE c5; try replace d0 := Ext.cell hE d0; try replace d1 := Ext.cell hE d1; try replace d2 := Ext.cell hE d2; try replace d3 := Ext.cell hE d3; try replace d4 := Ext.cell hE d4; try replace d5 := Ext.cell hE d5; try replace hb := Nat.lt_of_lt_of_le hb (Ext.size hE); try replace hb' := Nat.lt_of_lt_of_le hb' (Ext.size hE); try replace e1 := Ext.blk hE e1; try replace e2 := Ext.blk hE e2; try replace e3 := Ext.blk hE e3; try replace e4 := Ext.blk hE e4; try replace e5 := Ext.blk hE e5; try replace e6 := Ext.blk hE e6; try replace k1 := Ext.blk hE k1; try replace k2 := Ext.blk hE k2; try replace k3 := Ext.blk hE k3; try replace k4 := Ext.blk hE k4; try replace k5 := Ext.blk hE k5; try replace k6 := Ext.blk hE k6); intro k0 k1 k2 k3 k4 k5) | (with_reducible refine Ext.use4 hx ?_; intro hE; (try replace c0 := Ext.cell hE c0; try replace c1 := Ext.cell hE c1; try replace c2 := Ext.cell hE c2; try replace c3 := Ext.cell hE c3; try replace c4 := Ext.cell hE c4; try replace c5 := Ext.cell hE c5; try replace d0 := Ext.cell hE d0; try replace d1 := Ext.cell hE d1; try replace d2 := Ext.cell hE d2; try replace d3 := Ext.cell hE d3; try replace d4 := Ext.cell hE d4; try replace d5 := Ext.cell hE d5; try replace hb := Nat.lt_of_lt_of_le hb (Ext.size hE); try replace hb' := Nat.lt_of_lt_of_le hb' (Ext.size hE); try replace e1 := Ext.blk hE e1; try replace e2 := Ext.blk hE e2; try replace e3 := Ext.blk hE e3; try replace e4 := Ext.blk hE e4; try replace e5 := Ext.blk hE e5; try replace e6 := Ext.blk hE e6; try replace k1 := Ext.blk hE k1; try replace k2 := Ext.blk hE k2; try replace k3 := Ext.blk hE k3; try replace k4 := Ext.blk hE k4; try replace k5 := Ext.blk hE k5; try replace k6 := Ext.blk hE k6); intro k0 k1 k2 k3 k4) | (with_reducible refine Ext.use3 hx ?_; intro hE; (try replace c0 := Ext.cell hE c0; try replace c1 := Ext.cell hE c1; try replace c2 := Ext.cell hE c2; try replace c3 := Ext.cell hE c3; try replace c4 := Ext.cell hE c4; try replace c5 := Ext.cell hE c5; try replace d0 := Ext.cell hE d0; try replace d1 := Ext.cell hE d1; try replace d2 := Ext.cell hE d2; try replace d3 := Ext.cell hE d3; try replace d4 := Ext.cell hE d4; try replace d5 := Ext.cell hE d5; try replace hb := Nat.lt_of_lt_of_le hb (Ext.size hE); try replace hb' := Nat.lt_of_lt_of_le hb' (Ext.size hE); try replace e1 := Ext.blk hE e1; try replace e2 := Ext.blk hE e2; try replace e3 := Ext.blk hE e3; try replace e4 := Ext.blk hE e4; try replace e5 := Ext.blk hE e5; try replace e6 := Ext.blk hE e6; try replace k1 := Ext.blk hE k1; try replace k2 := Ext.blk hE k2; try replace k3 := Ext.blk hE k3; try replace k4 := Ext.blk hE k4; try replace k5 := Ext.blk hE k5; try replace k6 := Ext.blk hE k6); intro k0 k1 k2 k3) | (with_reducible refine Ext.use2 hx ?_; intro hE; (try replace c0 := Ext.cell hE c0; try replace c1 := Ext.cell hE c1; try replace c2 := Ext.cell hE c2; try replace c3 := Ext.cell hE c3; try replace c4 := Ext.cell hE c4; try replace c5 := Ext.cell hE c5; try replace d0 := Ext.cell hE d0; try replace d1 := Ext.cell hE d1; try replace d2 := Ext.cell hE d2; try replace d3 := Ext.cell hE d3; try replace d4 := Ext.cell hE d4; try replace d5 := Ext.cell hE d5; try replace hb := Nat.lt_of_lt_of_le hb (Ext.size hE); try replace hb' := Nat.lt_of_lt_of_le hb' (Ext.size hE); try replace e1 := Ext.blk hE e1; try replace e2 := Ext.blk hE e2; try replace e3 := Ext.blk hE e3; try replace e4 := Ext.blk hE e4; try replace e5 := Ext.blk hE e5; try replace e6 := Ext.blk hE e6; try replace k1 := Ext.blk hE k1; try replace k2 := Ext.blk hE k2; try replace k3 := Ext.blk hE k3; try replace k4 := Ext.blk hE k4; try replace k5 := Ext.blk hE k5; try replace k6 := Ext.blk hE k6); intro k0 k1 k2) | (with_reducible refine Ext.use1 hx ?_; intro hE; (try replace c0 := Ext.cell hE c0; try replace c1 := Ext.cell hE c1; try replace c2 := Ext.cell hE c2; try replace c3 := Ext.cell hE c3; try replace c4 := Ext.cell hE c4; try replace c5 := Ext.cell hE c5; try replace d0 := Ext.cell hE d0; try replace d1 := Ext.cell hE d1; try replace d2 := Ext.cell hE d2; try replace d3 := Ext.cell hE d3; try replace d4 := Ext.cell hE d4; try replace d5 := Ext.cell hE d5; try replace hb := Nat.lt_of_lt_of_le hb (Ext.size hE); try replace hb' := Nat.lt_of_lt_of_le hb' (Ext.size hE); try replace e1 := Ext.blk hE e1; try replace e2 := Ext.blk hE e2; try replace e3 := Ext.blk hE e3; try replace e4 := Ext.blk hE e4; try replace e5 := Ext.blk hE e5; try replace e6 := Ext.blk hE e6; try replace k1 := Ext.blk hE k1; try replace k2 := Ext.blk hE k2; try replace k3 := Ext.blk hE k3; try replace k4 := Ext.blk hE k4; try replace k5 := Ext.blk hE k5; try replace k6 := Ext.blk hE k6); intro k0 k1) | (with_reducible refine Ext.use hx ?_; intro hE; (try replace c0 := Ext.cell hE c0; try replace c1 := Ext.cell hE c1; try replace c2 := Ext.cell hE c2; try replace c3 := Ext.cell hE c3; try replace c4 := Ext.cell hE c4; try replace c5 := Ext.cell hE c5; try replace d0 := Ext.cell hE d0; try replace d1 := Ext.cell hE d1; try replace d2 := Ext.cell hE d2; try replace d3 := Ext.cell hE d3; try replace d4 := Ext.cell hE d4; try replace d5 := Ext.cell hE d5; try replace hb := Nat.lt_of_lt_of_le hb (Ext.size hE); try replace hb' := Nat.lt_of_lt_of_le hb' (Ext.size hE); try replace e1 := Ext.blk hE e1; try replace e2 := Ext.blk hE e2; try replace e3 := Ext.blk hE e3; try replace e4 := Ext.blk hE e4; try replace e5 := Ext.blk hE e5; try replace e6 := Ext.blk hE e6; try replace k1 := Ext.blk hE k1; try replace k2 := Ext.blk hE k2; try replace k3 := Ext.blk hE k3; try replace k4 := Ext.blk hE k4; try replace k5 := Ext.blk hE k5; try replace k6 := Ext.blk hE k6); intro k0)))
    go_ret
    refine ⟨?_, by (repeat (first | exact Ext.refl _ | assumption | refine Ext.alloc ?_ _ | refine Ext.drew ?_ | (refine Ext.setCell ?_ (by first | (simp; done) | (simp; omega) | omega) _) | refine Ext.trans ?_ (by assumption)))⟩
    refine ret_bool (Bool.eq_iff_iff.2 ?_)
    simp [insideB] <;> omega

theorem within_calls (n lo hi : Int) (w : World) : Calls Try.prog 73 #[.int .i64 n, .int .i64 lo, .int .i64 hi] w fun e w' => e = .returned (.bool (decide (lo ≤ n ∧ n ≤ hi))) ∧ w = w' := by
  by_cases h1 : lo ≤ n
  · go_enter Try.func73, Try.ntmps73
    go_wp2
    go_ret
    simp [h1]
  · go_enter Try.func73, Try.ntmps73
    go_wp2
    go_ret
    simp
    omega
theorem in_calls (x y lo hi : Int) (w : World) :
    Calls Try.prog 74 #[.agg #[.int .i64 x, .int .i64 y], .int .i64 lo, .int .i64 hi] w fun e w' => e = .returned (.bool (insideB x y lo hi)) ∧ Ext w w' := by
  by_cases h1 : x ≤ y <;> by_cases h2 : lo ≤ x
  all_goals
    go_enter Try.func74, Try.ntmps74
    go_wp2
    go_ret
    refine ⟨?_, by (repeat (first | exact Ext.refl _ | assumption | refine Ext.alloc ?_ _ | refine Ext.drew ?_ | (refine Ext.setCell ?_ (by first | (simp; done) | (simp; omega) | omega) _) | refine Ext.trans ?_ (by assumption)))⟩
    refine ret_bool (Bool.eq_iff_iff.2 ?_)
    simp [insideB] <;> omega

/-! ### Reports: are they valid? -/
theorem checkNews_no (l : List News) (n k : Nat) (x : News) (hl : l.length = n) (hn : ¬ 100 < n) (hx : l[k]? = some x) (h : x.ok = false) : checkNews l = 23 := by
  unfold checkNews
  rw [hl, if_neg hn, if_neg]
  intro ha
  have := List.all_eq_true.1 ha x (List.mem_of_getElem? hx)
  rw [h] at this
  cases this
theorem checkNews_yes (l : List News) (n : Nat) (hl : l.length = n) (hn : ¬ 100 < n) (h : ∀ x ∈ l, x.ok = true) : checkNews l = 0 := by
  unfold checkNews
  rw [hl, if_neg hn, if_pos (List.all_eq_true.2 h)]
theorem checkNews_many (l : List News) (n : Nat) (hl : l.length = n) (hn : 100 < n) : checkNews l = 4 := by
  unfold checkNews
  rw [hl, if_pos hn]

set_option maxHeartbeats 4000000 in
theorem checkNews_calls (A : Option Addr) (n c : Nat) (l : List News) (w : World) (hr : RdS w 6 A n (l.map News.cells)) (hn : n ≤ 1000000) :
    Calls Try.prog 24 #[.slice A n c] w fun e w' => e = .returned (.int .i64 (checkNews l)) ∧ Ext w w' := by
  have hl := hr.len
  simp at hl
  by_cases h100 : 100 < n
  · go_enter Try.func24, Try.ntmps24
    go_wp2
    go_ret
    exact ⟨ret_int (checkNews_many l n hl h100).symm, Ext.refl _⟩
  · have Hl := Lib.hid hl
    clear hl
    go_enter Try.func24, Try.ntmps24
    go_wp2
    go_loopw [10] (fun i wr => ∃ k : Nat, k ≤ n ∧ i = .int .i64 k ∧ (∀ x ∈ l.take k, x.ok = true) ∧ Ext w wr) (fun i _ => n - (intOf i).toNat)
    case atStart => exact ⟨0, by omega, rfl, by simp, Ext.refl _⟩
    case round =>
      obtain ⟨k, hk, rfl, hz, hx⟩ := hrel
      by_cases hlt : k < n
      · obtain ⟨b, o, x, rfl, hb, hkx, c0, c1, c2, c3, c4, c5⟩ := News.read (hr.ext hx) hlt
        have H := Lib.hid (And.intro hz (And.intro hr hkx))
        clear hz hr hkx
        go_wp2_with (first
          | (go_at_call 71; (with_reducible refine (from1 _ _ _ _ _ _ ?_).mono ?_); (next => (go_simp; done)); rintro e w1 ⟨rfl, hx⟩; (first | (with_reducible refine Ext.use6 hx ?_; intro hE; (try replace c0 := Ext.cell hE c0; try replace c1 := Ext.cell hE c1; try replace c2 := Ext.cell hE c2; try replace c3 := Ext.cell hE c3; try replace c4 := Ext.cell hE c4; try replace c5 := Ext.cell hE c5; try replace d0 := Ext.cell hE d0; try replace d1 := Ext.cell hE d1; try replace d2 := Ext.cell hE d2; try replace d3 := Ext.cell hE d3; try replace d4 := Ext.cell hE d4; try replace d5 := Ext.cell hE d5; try replace hb := Nat.lt_of_lt_of_le hb (Ext.size hE); try replace hb' := Nat.lt_of_lt_of_le hb' (Ext.size hE); try replace e1 := Ext.blk hE e1; try replace e2 := Ext.blk hE e2; try replace e3 := Ext.blk hE e3; try replace e4 := Ext.blk hE e4; try replace e5 := Ext.blk hE e5; try replace e6 := Ext.blk hE e6; try replace k1 := Ext.blk hE k1; try replace k2 := Ext.blk hE k2; try replace k3 := Ext.blk hE k3; try replace k4 := Ext.blk hE k4; try replace k5 := Ext.blk hE k5; try replace k6 := Ext.blk hE k6); intro k0 k1 k2 k3 k4 k5 k6) | (with_reducible refine Ext.use5 hx ?_; intro hE; (try replace c0 := Ext.cell hE c0; try replace c1 := Ext.cell hE c1; try replace c2 := Ext.cell hE c2; try replace c3 := Ext.cell hE c3; try replace c4 := Ext.cell hE c4; try replace c5 := Ext.cell hE c5; try replace d0 := Ext.cell hE d0; try replace d1 := Ext.cell hE d1; try replace d2 := Ext.cell hE d2; try replace d3 := Ext.cell hE d3; try replace d4 := Ext.cell hE d4; try replace d5 := Ext.cell hE d5; try replace hb := Nat.lt_of_lt_of_le hb (Ext.size hE); try replace hb' := Nat.lt_of_lt_of_le hb' (Ext.size hE); try replace e1 := Ext.blk hE e1; try replace e2 := Ext.blk hE e2; try replace e3 := Ext.blk hE e3; try replace e4 := Ext.blk hE e4; try replace e5 := Ext.blk hE e5; try replace e6 := Ext.blk hE e6; try replace k1 := Ext.blk hE k1; try replace k2 := Ext.blk hE k2; try replace k3 := Ext.blk hE k3; try replace k4 := Ext.blk hE k4; try replace k5 := Ext.blk hE k5; try replace k6 := Ext.blk hE k6); intro k0 k1 k2 k3 k4 k5) | (with_reducible refine Ext.use4 hx ?_; intro hE; (try replace c0 := Ext.cell hE c0; try replace c1 := Ext.cell hE c1; try replace c2 := Ext.cell hE c2; try replace c3 := Ext.cell hE c3; try replace c4 := Ext.cell hE c4; try replace c5 := Ext.cell hE c5; try replace d0 := Ext.cell hE d0; try replace d1 := Ext.cell hE d1; try replace d2 := Ext.cell hE d2; try replace d3 := Ext.cell hE d3; try replace d4 := Ext.cell hE d4; try replace d5 := Ext.cell hE d5; try replace hb := Nat.lt_of_lt_of_le hb (Ext.size hE); try replace hb' := Nat.lt_of_lt_of_le hb' (Ext.size hE); try replace e1 := Ext.blk hE e1; try replace e2 := Ext.blk hE e2; try replace e3 := Ext.blk hE e3; try replace e4 := Ext.blk hE e4; try replace e5 := Ext.blk hE e5; try replace e6 := Ext.blk hE e6; try replace k1 := Ext.blk hE k1; try replace k2 := Ext.blk hE k2; try replace k3 := Ext.blk hE k3; try replace k4 := Ext.blk hE k4; try replace k5 := Ext.blk hE k5; try replace k6 := Ext.blk hE k6); intro k0 k1 k2 k3 k4) | (with_reducible refine Ext.use3 hx ?_; intro hE; (try replace c0 := Ext.cell hE c0; try replace c1 := Ext.cell hE c1; try replace c2 := Ext.cell hE c2; try replace c3 := Ext.cell hE c3; try replace c4 := Ext.cell hE c4; try replace c5 := Ext.cell hE c5; try replace d0 := Ext.cell hE d0; try replace d1 := Ext.cell hE d1; try replace d2 := Ext.cell hE d2; try replace d3 := Ext.cell hE d3; try replace d4 := Ext.cell hE d4; try replace d5 := Ext.cell hE d5; try replace hb := Nat.lt_of_lt_of_le hb (Ext.size hE); try replace hb' := Nat.lt_of_lt_of_le hb' (Ext.size hE); try replace e1 := Ext.blk hE e1; try replace e2 := Ext.blk hE e2; try replace e3 := Ext.blk hE e3; try replace e4 := Ext.blk hE e4; try replace e5 := Ext.blk hE e5; try replace e6 := Ext.blk hE e6; try replace k1 := Ext.blk hE k1; try replace k2 := Ext.blk hE k2; try replace k3 := Ext.blk hE k3; try replace k4 := Ext.blk hE k4; try replace k5 := Ext.blk hE k5; try replace k6 := Ext.blk hE k6); intro k0 k1 k2 k3) | (with_reducible refine Ext.use2 hx ?_; intro hE; (try replace c0 := Ext.cell hE c0; try replace c1 := Ext.cell hE c1; try replace c2 := Ext.cell hE c2; try replace c3 := Ext.cell hE c3; try replace c4 := Ext.cell hE c4; try replace c5 := Ext.cell hE c5; try replace d0 := Ext.cell hE d0; try replace d1 := Ext.cell hE d1; try replace d2 := Ext.cell hE d2; try replace d3 := Ext.cell hE d3; try replace d4 := Ext.cell hE d4; try replace d5 := Ext.cell hE d5; try replace hb := Nat.lt_of_lt_of_le hb (Ext.size hE); try replace hb' := Nat.lt_of_lt_of_le hb' (Ext.size hE); try replace e1 := Ext.blk hE e1; try replace e2 := Ext.blk hE e2; try replace e3 := Ext.blk hE e3; try replace e4 := Ext.blk hE e4; try replace e5 := Ext.blk hE e5; try replace e6 := Ext.blk hE e6; try replace k1 := Ext.blk hE k1; try replace k2 := Ext.blk hE k2; try replace k3 := Ext.blk hE k3; try replace k4 := Ext.blk hE k4; try replace k5 := Ext.blk hE k5; try replace k6 := Ext.blk hE k6); intro k0 k1 k2) | (with_reducible refine Ext.use1 hx ?_; intro hE; (try replace c0 := Ext.cell hE c0; try replace c1 := Ext.cell hE c1; try replace c2 := Ext.cell hE c2; try replace c3 := Ext.cell hE c3; try replace c4 := Ext.cell hE c4; try replace c5 := Ext.cell hE c5; try replace d0 := Ext.cell hE d0; try replace d1 := Ext.cell hE d1; try replace d2 := Ext.cell hE d2; try replace d3 := Ext.cell hE d3; try replace d4 := Ext.cell hE d4; try replace d5 := Ext.cell hE d5; try replace hb := Nat.lt_of_lt_of_le hb (Ext.size hE); try replace hb' := Nat.lt_of_lt_of_le hb' (Ext.size hE); try replace e1 := Ext.blk hE e1; try replace e2 := Ext.blk hE e2; try replace e3 := Ext.blk hE e3; try replace e4 := Ext.blk hE e4; try replace e5 := Ext.blk hE e5; try replace e6 := Ext.blk hE e6; try replace k1 := Ext.blk hE k1; try replace k2 := Ext.blk hE k2; try replace k3 := Ext.blk hE k3; try replace k4 := Ext.blk hE k4; try replace k5 := Ext.blk hE k5; try replace k6 := Ext.blk hE k6); intro k0 k1) | (with_reducible refine Ext.use hx ?_; intro hE; (try replace c0 := Ext.cell hE c0; try replace c1 := Ext.cell hE c1; try replace c2 := Ext.cell hE c2; try replace c3 := Ext.cell hE c3; try replace c4 := Ext.cell hE c4; try replace c5 := Ext.cell hE c5; try replace d0 := Ext.cell hE d0; try replace d1 := Ext.cell hE d1; try replace d2 := Ext.cell hE d2; try replace d3 := Ext.cell hE d3; try replace d4 := Ext.cell hE d4; try replace d5 := Ext.cell hE d5; try replace hb := Nat.lt_of_lt_of_le hb (Ext.size hE); try replace hb' := Nat.lt_of_lt_of_le hb' (Ext.size hE); try replace e1 := Ext.blk hE e1; try replace e2 := Ext.blk hE e2; try replace e3 := Ext.blk hE e3; try replace e4 := Ext.blk hE e4; try replace e5 := Ext.blk hE e5; try replace e6 := Ext.blk hE e6; try replace k1 := Ext.blk hE k1; try replace k2 := Ext.blk hE k2; try replace k3 := Ext.blk hE k3; try replace k4 := Ext.blk hE k4; try replace k5 := Ext.blk hE k5; try replace k6 := Ext.blk hE k6); intro k0)))
          | (go_at_call 71; (with_reducible refine (from2 _ _ _ _ _ _ _ ?_).mono ?_); (next => (go_simp; done)); rintro e w1 ⟨rfl, hx⟩; (first | (with_reducible refine Ext.use6 hx ?_; intro hE; (try replace c0 := Ext.cell hE c0; try replace c1 := Ext.cell hE c1; try replace c2 := Ext.cell hE c2; try replace c3 := Ext.cell hE c3; try replace c4 := Ext.cell hE c4; try replace c5 := Ext.cell hE c5; try replace d0 := Ext.cell hE d0; try replace d1 := Ext.cell hE d1; try replace d2 := Ext.cell hE d2; try replace d3 := Ext.cell hE d3; try replace d4 := Ext.cell hE d4; try replace d5 := Ext.cell hE d5; try replace hb := Nat.lt_of_lt_of_le hb (Ext.size hE); try replace hb' := Nat.lt_of_lt_of_le hb' (Ext.size hE); try replace e1 := Ext.blk hE e1; try replace e2 := Ext.blk hE e2; try replace e3 := Ext.blk hE e3; try replace e4 := Ext.blk hE e4; try replace e5 := Ext.blk hE e5; try replace e6 := Ext.blk hE e6; try replace k1 := Ext.blk hE k1; try replace k2 := Ext.blk hE k2; try replace k3 := Ext.blk hE k3; try replace k4 := Ext.blk hE k4; try replace k5 := Ext.blk hE k5; try replace k6 := Ext.blk hE k6); intro k0 k1 k2 k3 k4 k5 k6) | (with_reducible refine Ext.use5 hx ?_; intro hE; (try replace c0 := Ext.cell hE c0; try replace c1 := Ext.cell hE c1; try replace c2 := Ext.cell hE c2; try replace c3 := Ext.cell hE c3; try replace c4 := Ext.cell hE c4; try replace c5 := Ext.cell hE c5; try replace d0 := Ext.cell hE d0; try replace d1 := Ext.cell hE d1; try replace d2 := Ext.cell hE d2; try replace d3 := Ext.cell hE d3; try replace d4 := Ext.cell hE d4; try replace d5 := Ext.cell hE d5; try replace hb := Nat.lt_of_lt_of_le hb (Ext.size hE); try replace hb' := Nat.lt_of_lt_of_le hb' (Ext.size hE); try replace e1 := Ext.blk hE e1; try replace e2 := Ext.blk hE e2; try replace e3 := Ext.blk hE e3; try replace e4 := Ext.blk hE e4; try replace e5 := Ext.blk hE e5; try replace e6 := Ext.blk hE e6; try replace k1 := Ext.blk hE k1; try replace k2 := Ext.blk hE k2; try replace k3 := Ext.blk hE k3; try replace k4 := Ext.blk hE k4; try replace k5 := Ext.blk hE k5; try replace k6 := Ext.blk hE k6); intro k0 k1 k2 k3 k4 k5) | (with_reducible refine Ext.use4 hx ?_; intro hE; (try replace c0 := Ext.cell hE c0; try replace c1 := Ext.cell hE c1; try replace c2 := Ext.cell hE c2; try replace c3 := Ext.cell hE c3; try replace c4 := Ext.cell hE c4; try replace c5 := Ext.cell hE c5; try replace d0 := Ext.cell hE d0; try replace d1 := Ext.cell hE d1; try replace d2 := Ext.cell hE d2; try replace d3 := Ext.cell hE d3; try replace d4 := Ext.cell hE d4; try replace d5 := Ext.cell hE d5; try replace hb := Nat.lt_of_lt_of_le hb (Ext.size hE); try replace hb' := Nat.lt_of_lt_of_le hb' (Ext.size hE); try replace e1 := Ext.blk hE e1; try replace e2 := Ext.blk hE e2; try replace e3 := Ext.blk hE e3; try replace e4 := Ext.blk hE e4; try replace e5 := Ext.blk hE e5; try replace e6 := Ext.blk hE e6; try replace k1 := Ext.blk hE k1; try replace k2 := Ext.blk hE k2; try replace k3 := Ext.blk hE k3; try replace k4 := Ext.blk hE k4; try replace k5 := Ext.blk hE k5; try replace k6 := Ext.blk hE k6); intro k0 k1 k2 k3 k4) | (with_reducible refine Ext.use3 hx ?_; intro hE; (try replace c0 := Ext.cell hE c0; try replace c1 := Ext.cell hE c1; try replace c2 := Ext.cell hE c2; try replace c3 := Ext.cell hE c3; try replace c4 := Ext.cell hE c4; try replace c5 := Ext.cell hE c5; try replace d0 := Ext.cell hE d0; try replace d1 := Ext.cell hE d1; try replace d2 := Ext.cell hE d2; try replace d3 := Ext.cell hE d3; try replace d4 := Ext.cell hE d4; try replace d5 := Ext.cell hE d5; try replace hb := Nat.lt_of_lt_of_le hb (Ext.size hE); try replace hb' := Nat.lt_of_lt_of_le hb' (Ext.size hE); try replace e1 := Ext.blk hE e1; try replace e2 := Ext.blk hE e2; try replace e3 := Ext.blk hE e3; try replace e4 := Ext.blk hE e4; try replace e5 := Ext.blk hE e5; try replace e6 := Ext.blk hE e6; try replace k1 := Ext.blk hE k1; try replace k2 := Ext.blk hE k2; try replace k3 := Ext.blk hE k3; try replace k4 := Ext.blk hE k4; try replace k5 := Ext.blk hE k5; try replace k6 := Ext.blk hE k6); intro k0 k1 k2 k3) | (with_reducible refine Ext.use2 hx ?_; intro hE; (try replace c0 := Ext.cell hE c0; try replace c1 := Ext.cell hE c1; try replace c2 := Ext.cell hE c2; try replace c3 := Ext.cell hE c3; try replace c4 := Ext.cell hE c4; try replace c5 := Ext.cell hE c5; try replace d0 := Ext.cell hE d0; try replace d1 := Ext.cell hE d1; try replace d2 := Ext.cell hE d2; try replace d3 := Ext.cell hE d3; try replace d4 := Ext.cell hE d4; try replace d5 := Ext.cell hE d5; try replace hb := Nat.lt_of_lt_of_le hb (Ext.size hE); try replace hb' := Nat.lt_of_lt_of_le hb' (Ext.size hE); try replace e1 := Ext.blk hE e1; try replace e2 := Ext.blk hE e2; try replace e3 := Ext.blk hE e3; try replace e4 := Ext.blk hE e4; try replace e5 := Ext.blk hE e5; try replace e6 := Ext.blk hE e6; try replace k1 := Ext.blk hE k1; try replace k2 := Ext.blk hE k2; try replace k3 := Ext.blk hE k3; try replace k4 := Ext.blk hE k4; try replace k5 := Ext.blk hE k5; try replace k6 := Ext.blk hE k6); intro k0 k1 k2) | (with_reducible refine Ext.use1 hx ?_; intro hE; (try replace c0 := Ext.cell hE c0; try replace c1 := Ext.cell hE c1; try replace c2 := Ext.cell hE c2; try replace c3 := Ext.cell hE c3; try replace c4 := Ext.cell hE c4; try replace c5 := Ext.cell hE c5; try replace d0 := Ext.cell hE d0; try replace d1 := Ext.cell hE d1; try replace d2 := Ext.cell hE d2; try replace d3 := Ext.cell hE d3; try replace d4 := Ext.cell hE d4; try replace d5 := Ext.cell hE d5; try replace hb := Nat.lt_of_lt_of_le hb (Ext.size hE); try replace hb' := Nat.lt_of_lt_of_le hb' (Ext.size hE); try replace e1 := Ext.blk hE e1; try replace e2 := Ext.blk hE e2; try replace e3 := Ext.blk hE e3; try replace e4 := Ext.blk hE e4; try replace e5 := Ext.blk hE e5; try replace e6 := Ext.blk hE e6; try replace k1 := Ext.blk hE k1; try replace k2 := Ext.blk hE k2; try replace k3 := Ext.blk hE k3; try replace k4 := Ext.blk hE k4; try replace k5 := Ext.blk hE k5; try replace k6 := Ext.blk hE k6); intro k0 k1) | (with_reducible refine Ext.use hx ?_; intro hE; (try replace c0 := Ext.cell hE c0; try replace c1 := Ext.cell hE c1; try replace c2 := Ext.cell hE c2; try replace c3 := Ext.cell hE c3; try replace c4 := Ext.cell hE c4; try replace c5 := Ext.cell hE c5; try replace d0 := Ext.cell hE d0; try replace d1 := Ext.cell hE d1; try replace d2 := Ext.cell hE d2; try replace d3 := Ext.cell hE d3; try replace d4 := Ext.cell hE d4; try replace d5 := Ext.cell hE d5; try replace hb := Nat.lt_of_lt_of_le hb (Ext.size hE); try replace hb' := Nat.lt_of_lt_of_le hb' (Ext.size hE); try replace e1 := Ext.blk hE e1; try replace e2 := Ext.blk hE e2; try replace e3 := Ext.blk hE e3; try replace e4 := Ext.blk hE e4; try replace e5 := Ext.blk hE e5; try replace e6 := Ext.blk hE e6; try replace k1 := Ext.blk hE k1; try replace k2 := Ext.blk hE k2; try replace k3 := Ext.blk hE k3; try replace k4 := Ext.blk hE k4; try replace k5 := Ext.blk hE k5; try replace k6 := Ext.blk hE k6); intro k0)))
          | (go_at_call 72; (with_reducible refine (inside_calls _ _ _ _ _).mono ?_); rintro e w1 ⟨rfl, hx⟩; (first | (with_reducible refine Ext.use6 hx ?_; intro hE; (try replace c0 := Ext.cell hE c0; try replace c1 := Ext.cell hE c1; try replace c2 := Ext.cell hE c2; try replace c3 := Ext.cell hE c3; try replace c4 := Ext.cell hE c4; try replace c5 := Ext.cell hE c5; try replace d0 := Ext.cell hE d0; try replace d1 := Ext.cell hE d1; try replace d2 := Ext.cell hE d2; try replace d3 := Ext.cell hE d3; try replace d4 := Ext.cell hE d4; try replace d5 := Ext.cell hE d5; try replace hb := Nat.lt_of_lt_of_le hb (Ext.size hE); try replace hb' := Nat.lt_of_lt_of_le hb' (Ext.size hE); try replace e1 := Ext.blk hE e1; try replace e2 := Ext.blk hE e2; try replace e3 := Ext.blk hE e3; try replace e4 := Ext.blk hE e4; try replace e5 := Ext.blk hE e5; try replace e6 := Ext.blk hE e6; try replace k1 := Ext.blk hE k1; try replace k2 := Ext.blk hE k2; try replace k3 := Ext.blk hE k3; try replace k4 := Ext.blk hE k4; try replace k5 := Ext.blk hE k5; try replace k6 := Ext.blk hE k6); intro k0 k1 k2 k3 k4 k5 k6) | (with_reducible refine Ext.use5 hx ?_; intro hE; (try replace c0 := Ext.cell hE c0; try replace c1 := Ext.cell hE c1; try replace c2 := Ext.cell hE c2; try replace c3 := Ext.cell hE c3; try replace c4 := Ext.cell hE c4; try replace c5 := Ext.cell hE c5; try replace d0 := Ext.cell hE d0; try replace d1 := Ext.cell hE d1; try replace d2 := Ext.cell hE d2; try replace d3 := Ext.cell hE d3; try replace d4 := Ext.cell hE d4; try replace d5 := Ext.cell hE d5; try replace hb := Nat.lt_of_lt_of_le hb (Ext.size hE); try replace hb' := Nat.lt_of_lt_of_le hb' (Ext.size hE); try replace e1 := Ext.blk hE e1; try replace e2 := Ext.blk hE e2; try replace e3 := Ext.blk hE e3; try replace e4 := Ext.blk hE e4; try replace e5 := Ext.blk hE e5; try replace e6 := Ext.blk hE e6; try replace k1 := Ext.blk hE k1; try replace k2 := Ext.blk hE k2; try replace k3 := Ext.blk hE k3; try replace k4 := Ext.blk hE k4; try replace k5 := Ext.blk hE k5; try replace k6 := Ext.blk hE k6); intro k0 k1 k2 k3 k4 k5) | (with_reducible refine Ext.use4 hx ?_; intro hE; (try replace c0 := Ext.cell hE c0; try replace c1 := Ext.cell hE c1; try replace c2 := Ext.cell hE c2; try replace c3 := Ext.cell hE c3; try replace c4 := Ext.cell hE c4; try replace c5 := Ext.cell hE c5; try replace d0 := Ext.cell hE d0; try replace d1 := Ext.cell hE d1; try replace d2 := Ext.cell hE d2; try replace d3 := Ext.cell hE d3; try replace d4 := Ext.cell hE d4; try replace d5 := Ext.cell hE d5; try replace hb := Nat.lt_of_lt_of_le hb (Ext.size hE); try replace hb' := Nat.lt_of_lt_of_le hb' (Ext.size hE); try replace e1 := Ext.blk hE e1; try replace e2 := Ext.blk hE e2; try replace e3 := Ext.blk hE e3; try replace e4 := Ext.blk hE e4; try replace e5 := Ext.blk hE e5; try replace e6 := Ext.blk hE e6; try replace k1 := Ext.blk hE k1; try replace k2 := Ext.blk hE k2; try replace k3 := Ext.blk hE k3; try replace k4 := Ext.blk hE k4; try replace k5 := Ext.blk hE k5; try replace k6 := Ext.blk hE k6); intro k0 k1 k2 k3 k4) | (with_reducible refine Ext.use3 hx ?_; intro hE; (try replace c0 := Ext.cell hE c0; try replace c1 := Ext.cell hE c1; try replace c2 := Ext.cell hE c2; try replace c3 := Ext.cell hE c3; try replace c4 := Ext.cell hE c4; try replace c5 := Ext.cell hE c5; try replace d0 := Ext.cell hE d0; try replace d1 := Ext.cell hE d1; try replace d2 := Ext.cell hE d2; try replace d3 := Ext.cell hE d3; try replace d4 := Ext.cell hE d4; try replace d5 := Ext.cell hE d5; try replace hb := Nat.lt_of_lt_of_le hb (Ext.size hE); try replace hb' := Nat.lt_of_lt_of_le hb' (Ext.size hE); try replace e1 := Ext.blk hE e1; try replace e2 := Ext.blk hE e2; try replace e3 := Ext.blk hE e3; try replace e4 := Ext.blk hE e4; try replace e5 := Ext.blk hE e5; try replace e6 := Ext.blk hE e6; try replace k1 := Ext.blk hE k1; try replace k2 := Ext.blk hE k2; try replace k3 := Ext.blk hE k3; try replace k4 := Ext.blk hE k4; try replace k5 := Ext.blk hE k5; try replace k6 := Ext.blk hE k6); intro k0 k1 k2 k3) | (with_reducible refine Ext.use2 hx ?_; intro hE; (try replace c0 := Ext.cell hE c0; try replace c1 := Ext.cell hE c1; try replace c2 := Ext.cell hE c2; try replace c3 := Ext.cell hE c3; try replace c4 := Ext.cell hE c4; try replace c5 := Ext.cell hE c5; try replace d0 := Ext.cell hE d0; try replace d1 := Ext.cell hE d1; try replace d2 := Ext.cell hE d2; try replace d3 := Ext.cell hE d3; try replace d4 := Ext.cell hE d4; try replace d5 := Ext.cell hE d5; try replace hb := Nat.lt_of_lt_of_le hb (Ext.size hE); try replace hb' := Nat.lt_of_lt_of_le hb' (Ext.size hE); try replace e1 := Ext.blk hE e1; try replace e2 := Ext.blk hE e2; try replace e3 := Ext.blk hE e3; try replace e4 := Ext.blk hE e4; try replace e5 := Ext.blk hE e5; try replace e6 := Ext.blk hE e6; try replace k1 := Ext.blk hE k1; try replace k2 := Ext.blk hE k2; try replace k3 := Ext.blk hE k3; try replace k4 := Ext.blk hE k4; try replace k5 := Ext.blk hE k5; try replace k6 := Ext.blk hE k6); intro k0 k1 k2) | (with_reducible refine Ext.use1 hx ?_; intro hE; (try replace c0 := Ext.cell hE c0; try replace c1 := Ext.cell hE c1; try replace c2 := Ext.cell hE c2; try replace c3 := Ext.cell hE c3; try replace c4 := Ext.cell hE c4; try replace c5 := Ext.cell hE c5; try replace d0 := Ext.cell hE d0; try replace d1 := Ext.cell hE d1; try replace d2 := Ext.cell hE d2; try replace d3 := Ext.cell hE d3; try replace d4 := Ext.cell hE d4; try replace d5 := Ext.cell hE d5; try replace hb := Nat.lt_of_lt_of_le hb (Ext.size hE); try replace hb' := Nat.lt_of_lt_of_le hb' (Ext.size hE); try replace e1 := Ext.blk hE e1; try replace e2 := Ext.blk hE e2; try replace e3 := Ext.blk hE e3; try replace e4 := Ext.blk hE e4; try replace e5 := Ext.blk hE e5; try replace e6 := Ext.blk hE e6; try replace k1 := Ext.blk hE k1; try replace k2 := Ext.blk hE k2; try replace k3 := Ext.blk hE k3; try replace k4 := Ext.blk hE k4; try replace k5 := Ext.blk hE k5; try replace k6 := Ext.blk hE k6); intro k0 k1) | (with_reducible refine Ext.use hx ?_; intro hE; (try replace c0 := Ext.cell hE c0; try replace c1 := Ext.cell hE c1; try replace c2 := Ext.cell hE c2; try replace c3 := Ext.cell hE c3; try replace c4 := Ext.cell hE c4; try replace c5 := Ext.cell hE c5; try replace d0 := Ext.cell hE d0; try replace d1 := Ext.cell hE d1; try replace d2 := Ext.cell hE d2; try replace d3 := Ext.cell hE d3; try replace d4 := Ext.cell hE d4; try replace d5 := Ext.cell hE d5; try replace hb := Nat.lt_of_lt_of_le hb (Ext.size hE); try replace hb' := Nat.lt_of_lt_of_le hb' (Ext.size hE); try replace e1 := Ext.blk hE e1; try replace e2 := Ext.blk hE e2; try replace e3 := Ext.blk hE e3; try replace e4 := Ext.blk hE e4; try replace e5 := Ext.blk hE e5; try replace e6 := Ext.blk hE e6; try replace k1 := Ext.blk hE k1; try replace k2 := Ext.blk hE k2; try replace k3 := Ext.blk hE k3; try replace k4 := Ext.blk hE k4; try replace k5 := Ext.blk hE k5; try replace k6 := Ext.blk hE k6); intro k0))))
        all_goals first
          | (go_ret
             obtain ⟨hz, hr, hkx⟩ := H.out
             refine ⟨ret_int (checkNews_no l n k x Hl.out h100 hkx ?_).symm, ?_⟩
             · simp_all [News.ok, allFrom, insideB]
               omega
             · (repeat (first | exact Ext.refl _ | assumption | refine Ext.alloc ?_ _ | refine Ext.drew ?_ | (refine Ext.setCell ?_ (by first | (simp; done) | (simp; omega) | omega) _) | refine Ext.trans ?_ (by assumption))))
          | (go_roundw
             case rel =>
               obtain ⟨hz, hr, hkx⟩ := H.out
               refine ⟨k + 1, by omega, by go_num, take_more News.ok true l k x hkx hz ?_, ?_⟩
               · simp_all [News.ok, allFrom, insideB]
               · (repeat (first | exact Ext.refl _ | assumption | refine Ext.alloc ?_ _ | refine Ext.drew ?_ | (refine Ext.setCell ?_ (by first | (simp; done) | (simp; omega) | omega) _) | refine Ext.trans ?_ (by assumption)))
             case measure => simp [intOf]; omega)
      · go_wp2
        go_ret
        exact ⟨ret_int (checkNews_yes l n Hl.out h100 (by rw [List.take_of_length_le (by have := Hl.out; omega)] at hz; exact hz)).symm, hx⟩

set_option maxHeartbeats 4000000 in
theorem refCheckNews_calls (A : Option Addr) (n c : Nat) (l : List News) (w : World) (hr : RdS w 6 A n (l.map News.cells)) (hn : n ≤ 1000000) :
    Calls Try.prog 25 #[.slice A n c] w fun e w' => e = .returned (.int .i64 (checkNews l)) ∧ Ext w w' := by
  have hl := hr.len
  simp at hl
  by_cases h100 : 100 < n
  · go_enter Try.func25, Try.ntmps25
    go_wp2
    go_ret
    exact ⟨ret_int (checkNews_many l n hl h100).symm, Ext.refl _⟩
  · have Hl := Lib.hid hl
    clear hl
    go_enter Try.func25, Try.ntmps25
    go_wp2
    go_loopw [3] (fun i wr => ∃ k : Nat, k ≤ n ∧ i = .int .i64 k ∧ (∀ x ∈ l.take k, x.ok = true) ∧ Ext w wr) (fun i _ => n - (intOf i).toNat)
    case atStart => exact ⟨0, by omega, rfl, by simp, Ext.refl _⟩
    case round =>
      obtain ⟨k, hk, rfl, hz, hx⟩ := hrel
      by_cases hlt : k < n
      · obtain ⟨b, o, x, rfl, hb, hkx, c0, c1, c2, c3, c4, c5⟩ := News.read (hr.ext hx) hlt
        have H := Lib.hid (And.intro hz (And.intro hr hkx))
        clear hz hr hkx
        go_wp2_with (first
          | (go_at_call 73; (with_reducible refine (within_calls _ _ _ _).mono ?_); rintro e w1 ⟨rfl, rfl⟩)
          | (go_at_call 74; (with_reducible refine (in_calls _ _ _ _ _).mono ?_); rintro e w1 ⟨rfl, hx⟩; (first | (with_reducible refine Ext.use6 hx ?_; intro hE; (try replace c0 := Ext.cell hE c0; try replace c1 := Ext.cell hE c1; try replace c2 := Ext.cell hE c2; try replace c3 := Ext.cell hE c3; try replace c4 := Ext.cell hE c4; try replace c5 := Ext.cell hE c5; try replace d0 := Ext.cell hE d0; try replace d1 := Ext.cell hE d1; try replace d2 := Ext.cell hE d2; try replace d3 := Ext.cell hE d3; try replace d4 := Ext.cell hE d4; try replace d5 := Ext.cell hE d5; try replace hb := Nat.lt_of_lt_of_le hb (Ext.size hE); try replace hb' := Nat.lt_of_lt_of_le hb' (Ext.size hE); try replace e1 := Ext.blk hE e1; try replace e2 := Ext.blk hE e2; try replace e3 := Ext.blk hE e3; try replace e4 := Ext.blk hE e4; try replace e5 := Ext.blk hE e5; try replace e6 := Ext.blk hE e6; try replace k1 := Ext.blk hE k1; try replace k2 := Ext.blk hE k2; try replace k3 := Ext.blk hE k3; try replace k4 := Ext.blk hE k4; try replace k5 := Ext.blk hE k5; try replace k6 := Ext.blk hE k6); intro k0 k1 k2 k3 k4 k5 k6) | (with_reducible refine Ext.use5 hx ?_; intro hE; (try replace c0 := Ext.cell hE c0; try replace c1 := Ext.cell hE c1; try replace c2 := Ext.cell hE c2; try replace c3 := Ext.cell hE c3; try replace c4 := Ext.cell hE c4; try replace c5 := Ext.cell hE c5; try replace d0 := Ext.cell hE d0; try replace d1 := Ext.cell hE d1; try replace d2 := Ext.cell hE d2; try replace d3 := Ext.cell hE d3; try replace d4 := Ext.cell hE d4; try replace d5 := Ext.cell hE d5; try replace hb := Nat.lt_of_lt_of_le hb (Ext.size hE); try replace hb' := Nat.lt_of_lt_of_le hb' (Ext.size hE); try replace e1 := Ext.blk hE e1; try replace e2 := Ext.blk hE e2; try replace e3 := Ext.blk hE e3; try replace e4 := Ext.blk hE e4; try replace e5 := Ext.blk hE e5; try replace e6 := Ext.blk hE e6; try replace k1 := Ext.blk hE k1; try replace k2 := Ext.blk hE k2; try replace k3 := Ext.blk hE k3; try replace k4 := Ext.blk hE k4; try replace k5 := Ext.blk hE k5; try replace k6 := Ext.blk hE k6); intro k0 k1 k2 k3 k4 k5) | (with_reducible refine Ext.use4 hx ?_; intro hE; (try replace c0 := Ext.cell hE c0; try replace c1 := Ext.cell hE c1; try replace c2 := Ext.cell hE c2; try replace c3 := Ext.cell hE c3; try replace c4 := Ext.cell hE c4; try replace c5 := Ext.cell hE c5; try replace d0 := Ext.cell hE d0; try replace d1 := Ext.cell hE d1; try replace d2 := Ext.cell hE d2; try replace d3 := Ext.cell hE d3; try replace d4 := Ext.cell hE d4; try replace d5 := Ext.cell hE d5; try replace hb := Nat.lt_of_lt_of_le hb (Ext.size hE); try replace hb' := Nat.lt_of_lt_of_le hb' (Ext.size hE); try replace e1 := Ext.blk hE e1; try replace e2 := Ext.blk hE e2; try replace e3 := Ext.blk hE e3; try replace e4 := Ext.blk hE e4; try replace e5 := Ext.blk hE e5; try replace e6 := Ext.blk hE e6; try replace k1 := Ext.blk hE k1; try replace k2 := Ext.blk hE k2; try replace k3 := Ext.blk hE k3; try replace k4 := Ext.blk hE k4; try replace k5 := Ext.blk hE k5; try replace k6 := Ext.blk hE k6); intro k0 k1 k2 k3 k4) | (with_reducible refine Ext.use3 hx ?_; intro hE; (try replace c0 := Ext.cell hE c0; try replace c1 := Ext.cell hE c1; try replace c2 := Ext.cell hE c2; try replace c3 := Ext.cell hE c3; try replace c4 := Ext.cell hE c4; try replace c5 := Ext.cell hE c5; try replace d0 := Ext.cell hE d0; try replace d1 := Ext.cell hE d1; try replace d2 := Ext.cell hE d2; try replace d3 := Ext.cell hE d3; try replace d4 := Ext.cell hE d4; try replace d5 := Ext.cell hE d5; try replace hb := Nat.lt_of_lt_of_le hb (Ext.size hE); try replace hb' := Nat.lt_of_lt_of_le hb' (Ext.size hE); try replace e1 := Ext.blk hE e1; try replace e2 := Ext.blk hE e2; try replace e3 := Ext.blk hE e3; try replace e4 := Ext.blk hE e4; try replace e5 := Ext.blk hE e5; try replace e6 := Ext.blk hE e6; try replace k1 := Ext.blk hE k1; try replace k2 := Ext.blk hE k2; try replace k3 := Ext.blk hE k3; try replace k4 := Ext.blk hE k4; try replace k5 := Ext.blk hE k5; try replace k6 := Ext.blk hE k6); intro k0 k1 k2 k3) | (with_reducible refine Ext.use2 hx ?_; intro hE; (try replace c0 := Ext.cell hE c0; try replace c1 := Ext.cell hE c1; try replace c2 := Ext.cell hE c2; try replace c3 := Ext.cell hE c3; try replace c4 := Ext.cell hE c4; try replace c5 := Ext.cell hE c5; try replace d0 := Ext.cell hE d0; try replace d1 := Ext.cell hE d1; try replace d2 := Ext.cell hE d2; try replace d3 := Ext.cell hE d3; try replace d4 := Ext.cell hE d4; try replace d5 := Ext.cell hE d5; try replace hb := Nat.lt_of_lt_of_le hb (Ext.size hE); try replace hb' := Nat.lt_of_lt_of_le hb' (Ext.size hE); try replace e1 := Ext.blk hE e1; try replace e2 := Ext.blk hE e2; try replace e3 := Ext.blk hE e3; try replace e4 := Ext.blk hE e4; try replace e5 := Ext.blk hE e5; try replace e6 := Ext.blk hE e6; try replace k1 := Ext.blk hE k1; try replace k2 := Ext.blk hE k2; try replace k3 := Ext.blk hE k3; try replace k4 := Ext.blk hE k4; try replace k5 := Ext.blk hE k5; try replace k6 := Ext.blk hE k6); intro k0 k1 k2) | (with_reducible refine Ext.use1 hx ?_; intro hE; (try replace c0 := Ext.cell hE c0; try replace c1 := Ext.cell hE c1; try replace c2 := Ext.cell hE c2; try replace c3 := Ext.cell hE c3; try replace c4 := Ext.cell hE c4; try replace c5 := Ext.cell hE c5; try replace d0 := Ext.cell hE d0; try replace d1 := Ext.cell hE d1; try replace d2 := Ext.cell hE d2; try replace d3 := Ext.cell hE d3; try replace d4 := Ext.cell hE d4; try replace d5 := Ext.cell hE d5; try replace hb := Nat.lt_of_lt_of_le hb (Ext.size hE); try replace hb' := Nat.lt_of_lt_of_le hb' (Ext.size hE); try replace e1 := Ext.blk hE e1; try replace e2 := Ext.blk hE e2; try replace e3 := Ext.blk hE e3; try replace e4 := Ext.blk hE e4; try replace e5 := Ext.blk hE e5; try replace e6 := Ext.blk hE e6; try replace k1 := Ext.blk hE k1; try replace k2 := Ext.blk hE k2; try replace k3 := Ext.blk hE k3; try replace k4 := Ext.blk hE k4; try replace k5 := Ext.blk hE k5; try replace k6 := Ext.blk hE k6); intro k0 k1) | (with_reducible refine Ext.use hx ?_; intro hE; (try replace c0 := Ext.cell hE c0; try replace c1 := Ext.cell hE c1; try replace c2 := Ext.cell hE c2; try replace c3 := Ext.cell hE c3; try replace c4 := Ext.cell hE c4; try replace c5 := Ext.cell hE c5; try replace d0 := Ext.cell hE d0; try replace d1 := Ext.cell hE d1; try replace d2 := Ext.cell hE d2; try replace d3 := Ext.cell hE d3; try replace d4 := Ext.cell hE d4; try replace d5 := Ext.cell hE d5; try replace hb := Nat.lt_of_lt_of_le hb (Ext.size hE); try replace hb' := Nat.lt_of_lt_of_le hb' (Ext.size hE); try replace e1 := Ext.blk hE e1; try replace e2 := Ext.blk hE e2; try replace e3 := Ext.blk hE e3; try replace e4 := Ext.blk hE e4; try replace e5 := Ext.blk hE e5; try replace e6 := Ext.blk hE e6; try replace k1 := Ext.blk hE k1; try replace k2 := Ext.blk hE k2; try replace k3 := Ext.blk hE k3; try replace k4 := Ext.blk hE k4; try replace k5 := Ext.blk hE k5; try replace k6 := Ext.blk hE k6); intro k0))))
        all_goals first
          | (go_ret
             obtain ⟨hz, hr, hkx⟩ := H.out
             refine ⟨ret_int (checkNews_no l n k x Hl.out h100 hkx ?_).symm, ?_⟩
             · simp_all [News.ok, allFrom, insideB]
               omega
             · (repeat (first | exact Ext.refl _ | assumption | refine Ext.alloc ?_ _ | refine Ext.drew ?_ | (refine Ext.setCell ?_ (by first | (simp; done) | (simp; omega) | omega) _) | refine Ext.trans ?_ (by assumption))))
          | (go_roundw
             case rel =>
               obtain ⟨hz, hr, hkx⟩ := H.out
               refine ⟨k + 1, by omega, by go_num, take_more News.ok true l k x hkx hz ?_, ?_⟩
               · simp_all [News.ok, allFrom, insideB]
               · (repeat (first | exact Ext.refl _ | assumption | refine Ext.alloc ?_ _ | refine Ext.drew ?_ | (refine Ext.setCell ?_ (by first | (simp; done) | (simp; omega) | omega) _) | refine Ext.trans ?_ (by assumption)))
             case measure => simp [intOf]; omega)
      · go_wp2
        go_ret
        exact ⟨ret_int (checkNews_yes l n Hl.out h100 (by rw [List.take_of_length_le (by have := Hl.out; omega)] at hz; exact hz)).symm, hx⟩

end Go.Proofs.Ytalidommelefaaa
