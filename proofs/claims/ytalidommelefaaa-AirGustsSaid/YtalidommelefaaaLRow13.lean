/- What the statement computes, walked. -/
import Derived.Test.YtalidommelefaaaPkL
import Derived.Test.YtalidommelefaaaPkF
import Derived.Test.YtalidommelefaaaPkM
import Derived.Test.YtalidommelefaaaPkH
/- The wind at a height, as it may be. Plain laws. -/
namespace Go.Proofs.Ytalidommelefaaa
set_option linter.unusedVariables false
set_option linter.unusedSimpArgs false
theorem gustR_up {l : List Gl} {p q : Int} (h : ∀ x ∈ l, 0 ≤ x.gust ∧ x.gust ≤ 500) : ∀ {k i : Nat}, i < k → ∀ {x : Gl}, l[i]? = some x → cntG l p q i = true → x.gust ≤ gustR l p q k
  | k + 1, i, hi, x, hx, hc => by
    rcases Nat.lt_or_eq_of_le (Nat.le_of_lt_succ hi) with g | rfl
    · have := gustR_up h g hx hc
      simp only [gustR]
      split <;> omega
    · rw [gustR_yes hx hc]
      omega
theorem cntG_wide {l : List Gl} {p q p' q' : Int} (h1 : p' ≤ p) (h2 : q ≤ q') {i : Nat} (h : cntG l p q i = true) : cntG l p' q' i = true := by
  unfold cntG belowG aboveG at *
  cases e1 : l[i]? with
  | none => simp
  | some x =>
    rw [e1] at h
    cases e2 : l[i + 1]? <;> cases e3 : prevG l i <;> rw [e2, e3] at h <;> simp at h ⊢ <;> omega
theorem gustR_wide {l : List Gl} {p q p' q' : Int} (hb : ∀ x ∈ l, 0 ≤ x.gust ∧ x.gust ≤ 500) (h1 : p' ≤ p) (h2 : q ≤ q') : ∀ k, gustR l p q k ≤ gustR l p' q' k
  | 0 => Int.le_refl _
  | k + 1 => by
    have ih := gustR_wide hb h1 h2 k
    simp only [gustR]
    cases e : cntG l p q k with
    | true => rw [cntG_wide h1 h2 e]; simp only [if_true]; omega
    | false => simp only [Bool.false_eq_true, if_false]; split <;> omega
theorem Wnd.gusts {l : List Gl} (h : Wnd l) : ∀ x ∈ l, 0 ≤ x.gust ∧ x.gust ≤ 500 := fun x hx => ⟨(h.ok x hx).2.2.1, (h.ok x hx).2.2.2.1⟩
theorem gustV_wide {l : List Gl} {p q p' q' : Int} (h : Wnd l) (h1 : p' ≤ p) (h2 : q ≤ q') : gustV l p q ≤ gustV l p' q' := gustR_wide h.gusts h1 h2 _
theorem tabG_size (e : Bool) (l : List Gl) : (tabG e l).length = l.length := by unfold tabG; simp
theorem tabG_get {e : Bool} {l : List Gl} {i : Nat} {x : Gl} (h : l[i]? = some x) : (tabG e l)[i]? = some (knG e x) := by unfold tabG; rw [List.getElem?_map, h]; rfl
theorem hAt_eq {l : List Gl} {i : Nat} {x : Gl} (h : l[i]? = some x) : hAt l i = x.h := by unfold hAt; rw [h]
theorem hAt_mono {l : List Gl} (h : Wnd l) {i j : Nat} (hij : i ≤ j) (hj : j < l.length) : hAt l i ≤ hAt l j := by
  have h1 : l[i]? = some l[i] := List.getElem?_eq_getElem (by omega)
  have h2 : l[j]? = some l[j] := List.getElem?_eq_getElem hj
  rw [hAt_eq h1, hAt_eq h2]
  exact (h.mono h1 h2 hij).1
/-- The steady wind at a height is one of those of heights around it. -/
theorem steady_wide {e : Bool} {l : List Gl} {p q m : Int} (h : Wnd l) (h1 : p ≤ m) (h2 : m ≤ q) : SIn (steadyV e l m m) (steadyV e l p q) := by
  unfold steadyV
  by_cases h3 : l.length = 1
  · rw [if_pos h3, if_pos h3]; exact SIn.refl _
  · rw [if_neg h3, if_neg h3, valV_self]
    have n1 := h.n1
    have ho := hAt_mono h (Nat.zero_le (l.length - 1)) (by omega)
    refine valV_mid (h.tab (by omega)) (by unfold clampG; omega) (by unfold clampG; omega) (fun k hk => ?_) (fun k hk => ?_)
    · obtain ⟨x, hx, rfl⟩ := tabG_at hk
      have := hAt_eq hx
      show x.h ≤ _
      unfold clampG
      omega
    · rw [tabG_size] at hk
      obtain ⟨x, hx, rfl⟩ := tabG_at hk
      have := hAt_eq hx
      show _ ≤ x.h
      unfold clampG
      omega
/-- What law 13 computes of the wind to one side: den times the steady wind, lowest and highest. -/
theorem steady_pick {e : Bool} {l : List Gl} {p : Int} (h : Wnd l) {i : Nat} {x : Gl} (hx : l[i]? = some x) (hi : i + 1 < l.length → ∀ y, l[i + 1]? = some y → p < y.h) (h0 : 0 < i → x.h ≤ p) (hk : i + 1 = l.length ∨ p ≤ x.h) : steadyV e l p p = partG e x := by
  have n1 := h.n1
  have hil := (List.getElem?_eq_some_iff.1 hx).1
  unfold steadyV
  by_cases h3 : l.length = 1
  · obtain rfl : i = 0 := by omega
    rw [if_pos h3, hx]
  · rw [if_neg h3, valV_self]
    have a1 := hAt_mono h (Nat.zero_le i) hil
    have a2 := hAt_mono h (show i ≤ l.length - 1 by omega) (by omega)
    rw [hAt_eq hx] at a1 a2
    have hc : clampG l p = x.h := by
      unfold clampG
      rcases hk with hk | hk
      · have e1 : l.length - 1 = i := by omega
        rw [e1, hAt_eq hx]
        have := h0 (by omega)
        omega
      · by_cases hz : i = 0
        · subst hz
          rw [hAt_eq hx]
          omega
        · have := h0 (by omega)
          omega
    rw [hc]
    exact atV_knot (h.tab (by omega)).inc (tabG_get hx) (by rw [tabG_size]; omega)
theorem steady_line {e : Bool} {l : List Gl} {p : Int} (h : Wnd l) {i : Nat} {x y : Gl} (hx : l[i]? = some x) (hy : l[i + 1]? = some y) (h1 : x.h < p) (h2 : p < y.h) : steadyV e l p p = lineV (knG e x) (knG e y) p := by
  have n1 := h.n1
  have hil := (List.getElem?_eq_some_iff.1 hy).1
  unfold steadyV
  rw [if_neg (by omega), valV_self]
  have a1 := hAt_mono h (Nat.zero_le i) (by omega)
  have a2 := hAt_mono h (show i + 1 ≤ l.length - 1 by omega) (by omega)
  rw [hAt_eq hx] at a1
  rw [hAt_eq hy] at a2
  rw [show clampG l p = p by unfold clampG; omega]
  exact atV_seg (h.tab (by omega)).inc (tabG_get hx) (tabG_get hy) (.inr (by show x.h ≤ p; omega)) (.inr (by show p ≤ y.h; omega))
/-- A picked wind on a line is in the steady wind there, times the line's length. -/
theorem line_pick {a b : Kn} {p u v : Int} (h1 : a.x ≤ p) (h2 : p ≤ b.x) (hab : a.x < b.x) (ha : a.lo ≤ u ∧ u ≤ a.hi) (hb : b.lo ≤ v ∧ v ≤ b.hi) :
    (lineV a b p).1 * (b.x - a.x) ≤ u * (b.x - a.x - (p - a.x)) + v * (p - a.x) ∧ u * (b.x - a.x - (p - a.x)) + v * (p - a.x) ≤ (lineV a b p).2 * (b.x - a.x) := by
  unfold lineV
  simp only
  obtain ⟨d, hd⟩ : ∃ d, d = b.x - a.x := ⟨_, rfl⟩
  obtain ⟨t, ht⟩ : ∃ t, t = p - a.x := ⟨_, rfl⟩
  rw [← hd, ← ht]
  have k1 : t * (b.lo - a.lo) / d * d ≤ t * (b.lo - a.lo) := Int.ediv_mul_le _ (by omega)
  have k2 : t * (a.hi - b.hi) / d * d ≤ t * (a.hi - b.hi) := Int.ediv_mul_le _ (by omega)
  have p1 : t * (b.lo - a.lo) = b.lo * t - a.lo * t := by rw [Int.mul_comm, Int.sub_mul]
  have p2 : t * (a.hi - b.hi) = a.hi * t - b.hi * t := by rw [Int.mul_comm, Int.sub_mul]
  generalize t * (b.lo - a.lo) / d = Q1 at *
  generalize t * (a.hi - b.hi) / d = Q2 at *
  rw [p1] at k1
  rw [p2] at k2
  have m1 := Int.mul_le_mul_of_nonneg_right ha.1 (show 0 ≤ d - t by omega)
  have m2 := Int.mul_le_mul_of_nonneg_right ha.2 (show 0 ≤ d - t by omega)
  have m3 := Int.mul_le_mul_of_nonneg_right hb.1 (show 0 ≤ t by omega)
  have m4 := Int.mul_le_mul_of_nonneg_right hb.2 (show 0 ≤ t by omega)
  rw [Int.mul_sub, Int.mul_sub] at m1 m2
  rw [Int.add_mul, Int.sub_mul, Int.mul_sub]
  constructor <;> omega
theorem gust_at {l : List Gl} {p : Int} (h : Wnd l) {i : Nat} {x : Gl} (hx : l[i]? = some x) (h1 : p ≤ x.h ∨ (∀ y, l[i + 1]? = some y → p ≤ y.h)) (h2 : x.h ≤ p ∨ (∀ y, prevG l i = some y → y.h ≤ p)) : x.gust ≤ gustV l p p := by
  refine gustR_up h.gusts (List.getElem?_eq_some_iff.1 hx).1 hx ?_
  unfold cntG belowG aboveG
  rw [hx]
  have e1 : ∀ y, l[i + 1]? = some y → p ≤ x.h ∨ p ≤ y.h := fun y hy => h1.imp id fun f => f y hy
  have e2 : ∀ y, prevG l i = some y → x.h ≤ p ∨ y.h ≤ p := fun y hy => h2.imp id fun f => f y hy
  cases f1 : l[i + 1]? with
  | none =>
    cases f2 : prevG l i with
    | none => simp
    | some z => have := e2 z f2; simp; omega
  | some y =>
    have := e1 y f1
    cases f2 : prevG l i with
    | none => simp; omega
    | some z => have := e2 z f2; simp; omega
theorem knG_in {e : Bool} {l : List Gl} (h : Wnd l) {k : Kn} (hk : k ∈ tabG e l) : SIn k.val (-1000, 1000) := by
  unfold tabG at hk
  obtain ⟨x, hx, rfl⟩ := List.mem_map.1 hk
  have := h.ok x hx
  unfold Kn.val knG partG SIn
  cases e <;> simp only <;> omega
theorem steady_in {e : Bool} {l : List Gl} {p q : Int} (h : Wnd l) : SIn (steadyV e l p q) (-1000, 1000) := by
  have n1 := h.n1
  unfold steadyV
  by_cases h3 : l.length = 1
  · rw [if_pos h3]
    have hx : l[0]? = some l[0] := List.getElem?_eq_getElem (by omega)
    rw [hx]
    have := h.ok _ (List.mem_of_getElem? hx)
    unfold partG SIn
    cases e <;> simp only <;> omega
  · rw [if_neg h3]
    have ht := h.tab (e := e) (by omega)
    have ho := hAt_mono h (Nat.zero_le (l.length - 1)) (by omega)
    have at_in : ∀ m, SIn (atV (tabG e l) (clampG l m)) (-1000, 1000) := fun m => by
      obtain ⟨i, a, b, ha, hb, k1, k2⟩ := seg_of ht.inc ht.l2 (m := clampG l m) (fun k hk => by
        obtain ⟨x, hx, rfl⟩ := tabG_at hk
        have := hAt_eq hx
        show x.h ≤ _
        unfold clampG
        omega) (fun k hk => by
        rw [tabG_size] at hk
        obtain ⟨x, hx, rfl⟩ := tabG_at hk
        have := hAt_eq hx
        show _ ≤ x.h
        unfold clampG
        omega)
      have hab := ht.inc.at_ (Nat.lt_succ_self i) ha hb
      rw [atV_seg ht.inc ha hb (.inr k1) (.inr k2)]
      have := lineV_mid (u := a.x) (v := b.x) hab k1 k2
      rw [lineV_start, lineV_end hab] at this
      exact this.trans (hullS_least (knG_in h (List.mem_of_getElem? ha)) (knG_in h (List.mem_of_getElem? hb)))
    unfold valV
    refine hullA_least (hullS_least (at_in p) (at_in q)) fun y hy => ?_
    obtain ⟨k, hk, rfl⟩ := List.mem_map.1 hy
    exact knG_in h (List.mem_filter.1 hk).1
theorem line_le {a b : Kn} {p : Int} (h1 : a.x ≤ p) (h2 : p ≤ b.x) (hab : a.x < b.x) (ha : a.lo ≤ a.hi) (hb : b.lo ≤ b.hi) : (lineV a b p).1 ≤ (lineV a b p).2 := by
  obtain ⟨k1, k2⟩ := line_pick h1 h2 hab ⟨Int.le_refl _, ha⟩ ⟨Int.le_refl _, hb⟩
  exact Int.le_of_mul_le_mul_right (Int.le_trans k1 k2) (by omega)
theorem steady_le {e : Bool} {l : List Gl} {p : Int} (h : Wnd l) : (steadyV e l p p).1 ≤ (steadyV e l p p).2 := by
  have n1 := h.n1
  unfold steadyV
  by_cases h3 : l.length = 1
  · rw [if_pos h3]
    have hx : l[0]? = some l[0] := List.getElem?_eq_getElem (by omega)
    rw [hx]
    have := h.ok _ (List.mem_of_getElem? hx)
    unfold partG
    cases e <;> simp only <;> omega
  · rw [if_neg h3, valV_self]
    have ht := h.tab (e := e) (by omega)
    have ho := hAt_mono h (Nat.zero_le (l.length - 1)) (by omega)
    obtain ⟨i, a, b, ha, hb, k1, k2⟩ := seg_of ht.inc ht.l2 (m := clampG l p) (fun k hk => by
      obtain ⟨x, hx, rfl⟩ := tabG_at hk
      have := hAt_eq hx
      show x.h ≤ _
      unfold clampG
      omega) (fun k hk => by
      rw [tabG_size] at hk
      obtain ⟨x, hx, rfl⟩ := tabG_at hk
      have := hAt_eq hx
      show _ ≤ x.h
      unfold clampG
      omega)
    rw [atV_seg ht.inc ha hb (.inr k1) (.inr k2)]
    exact line_le k1 k2 (ht.inc.at_ (Nat.lt_succ_self i) ha hb) (ht.ok a (List.mem_of_getElem? ha)).2.2.2.1 (ht.ok b (List.mem_of_getElem? hb)).2.2.2.1
end Go.Proofs.Ytalidommelefaaa
/- Law 13: small functions: Join, Holds, the pick. -/
namespace Go.Proofs.Ytalidommelefaaa
open Go.RowKit
attribute [local irreducible] OQ OS OX Rd T TL GX GL AL AI RV wpG SAny Calls
set_option maxRecDepth 100000
set_option maxHeartbeats 2000000
set_option linter.unusedVariables false
set_option linter.unusedSimpArgs false


/-- The byte that a place picks, the bytes taken round and round. -/
def bAt (bs : List Int) (i : Nat) : Int := match bs[i % bs.length]? with | some z => z | none => 0
def u8Cells (z : Int) : List Value := [.int .u8 z]
theorem u8_read {w : World} {b o n : Nat} {l : List Int} (h : RdS w 1 (some ⟨b, o, none⟩) n (l.map u8Cells)) {i : Nat} (hi : i < n) :
    ∃ x, l[i]? = some x ∧ w.cell? ⟨b, o + i * 1, none⟩ = some (.int .u8 x) := by
  obtain ⟨b', o', cs, hA, hb, hx, _, hc⟩ := h.row hi
  simp only [Option.some.injEq, Addr.mk.injEq, and_true] at hA
  obtain ⟨rfl, rfl⟩ := hA
  simp only [List.getElem?_map, Option.map_eq_some_iff] at hx
  obtain ⟨x, hx, rfl⟩ := hx
  exact ⟨x, hx, hc 0 _ rfl⟩
theorem u8_open {x : List Value} (h : LfsOk [.int .u8] x) : ∃ y : Int, x = u8Cells y ∧ (0 ≤ y ∧ y ≤ 255) := by
  obtain ⟨z0, u0, rfl, hw, h⟩ := h.int
  obtain rfl := h.nil
  simp only [Lit.wf, Bool.and_eq_true, decide_eq_true_eq] at hw
  exact ⟨z0, rfl, hw⟩
theorem oq_remE {c : Cx} {F : Fr} {H : Hp} {d : Option Tmp} {ty t t' : TypeId} {pos : String} {af : Array Edge} {g : Option (Nat × Bool)} {x y : Operand} {m n k : Int} (hx : ev F x = some (.int .i64 m)) (hy : ev F y = some (.int .i64 n)) (h0 : n ≠ 0) (hk : m.tmod n = k) : OQ c ⟨d, .binOp .rem t x y t', ty, pos, af, g⟩ F H (.int .i64 k) := hk ▸ oq_rem hx hy h0
theorem by_at {w : World} {b o n : Nat} {bs : List Int} (hq : RdS w 1 (some ⟨b, o, none⟩) n (bs.map u8Cells)) (hb : ∀ z ∈ bs, 0 ≤ z ∧ z ≤ 255) (hn : 0 < n) (i : Nat) :
    ∃ j : Nat, ((i : Nat) : Int).tmod (n : Int) = (j : Int) ∧ j < n ∧ ∃ z, w.cell? ⟨b, o + j * 1, none⟩ = some (.int .u8 z) ∧ bAt bs i = z ∧ 0 ≤ z ∧ z ≤ 255 := by
  have hl := hq.len
  simp only [List.length_map] at hl
  have hj : i % n < n := Nat.mod_lt _ hn
  obtain ⟨z, hz, hc⟩ := u8_read hq hj
  refine ⟨i % n, (Int.ofNat_tmod i n).symm, hj, z, hc, ?_, hb z (List.mem_of_getElem? hz)⟩
  unfold bAt
  rw [hl, hz]

theorem fine2J {w0 : World} {M : Ms} {H H' : Hp} {w : World} {g : Nat} {a b c d : Int} {tg : Tg} {cp : Nat} {q : Bool} (hq : [(a, b), (c, d)].all fineS = q) (h : Has w0 M H w) (p : Pick H g [.int .i64 a, .int .i64 b, .int .i64 c, .int .i64 d] tg H') :
    Calls Try.prog 121 #[.slice (some ⟨g, 0, none⟩) 2 cp] w fun e w' => e = .returned (.bool q) ∧ Ext w w' :=
  hq ▸ fine_calls (some ⟨g, 0, none⟩) 2 cp [(a, b), (c, d)] w (Blk.rows (k := 2) (rows := [(a, b), (c, d)].map spanCells) (h.blk _ p.mem).2 rfl (by simp [spanCells])) (by omega)
theorem join_calls (a b c d : Int) (h1 : fineS (a, b) = true) (h2 : fineS (c, d) = true) (w : World) : Calls Try.prog 120 #[.agg #[.int .i64 a, .int .i64 b], .agg #[.int .i64 c, .int .i64 d]] w fun e w' => e = .returned (.tuple #[.agg #[.int .i64 (min a c), .int .i64 (max b d)], .int .i64 0]) ∧ Ext w w' := by
  have hq : [(a, b), (c, d)].all fineS = true := by simp [h1, h2]
  refine enterQ (c := cx w 16) Try.func120 rfl rfl rfl rfl ?_
  repeat' (first
    | ((with_reducible apply oq_id); first | ((with_reducible apply oq_leqT); exact rfl; exact rfl; omega) | ((with_reducible apply oq_leqF); exact rfl; exact rfl; omega) | ((with_reducible apply oq_lssT); exact rfl; exact rfl; omega) | ((with_reducible apply oq_lssF); exact rfl; exact rfl; omega) | ((with_reducible apply oq_gtrT); exact rfl; exact rfl; omega) | ((with_reducible apply oq_gtrF); exact rfl; exact rfl; omega) | ((with_reducible apply oq_geqT); exact rfl; exact rfl; omega) | ((with_reducible apply oq_geqF); exact rfl; exact rfl; omega) | ((with_reducible apply oq_eqlT); exact rfl; exact rfl; omega) | ((with_reducible apply oq_eqlF); exact rfl; exact rfl; omega) | ((with_reducible apply oq_neqT); exact rfl; exact rfl; omega) | ((with_reducible apply oq_neqF); exact rfl; exact rfl; omega) | (apply oq_fn; exact rfl; first | exact trivial | (refine ⟨?_, ?_⟩ <;> omega) | (refine ⟨?_, ?_, ?_⟩ <;> omega) | omega | skip) | ((with_reducible apply oq_load); exact rfl; exact rfl) | ((with_reducible apply oq_loadAgg); exact rfl; exact rfl) | ((with_reducible apply oq_call (k := 121) (hc := Try.call121)); exact rfl; exact rfl; exact fun D w1 hw1 => fine2J hq hw1 (by (repeat (first | exact P0 | apply P1)))) | ((with_reducible apply oq_call (k := 141) (hc := Try.call141)); exact rfl; exact rfl; exact fun D w1 hw1 => around2 hw1 (by (repeat (first | exact P0 | apply P1)))) | ((with_reducible apply oq_build); exact rfl; exact rfl; exact rfl) | ((with_reducible apply oq_buildA); exact rfl; exact rfl; exact rfl; exact rfl) | ((with_reducible apply oq_fieldAgg); exact rfl; exact rfl; exact rfl) | ((with_reducible apply oq_indexAgg); exact rfl; exact rfl; exact rfl; exact rfl))
    | ((with_reducible apply tl_id); first | ((with_reducible apply tl_nil)) | ((with_reducible apply u_q); exact rfl; exact rfl; exact rfl; exact rfl) | ((with_reducible apply u_s0); exact rfl; exact rfl) | ((with_reducible apply u_s); exact rfl; exact rfl; exact rfl) | ((with_reducible apply u_skip); exact rfl; exact rfl; exact rfl) | ((with_reducible apply u_splitD); exact rfl; exact rfl; all_goals first | (intro hp; try (exfalso; omega)) | skip) | ((with_reducible apply u_splitN); exact rfl; exact rfl; all_goals first | (intro hp; try (exfalso; omega)) | skip) | ((with_reducible apply u_split); exact rfl; exact rfl; all_goals first | intro hp | skip))
    | ((with_reducible apply gx_id); first | ((with_reducible apply v_nil)) | ((with_reducible apply v_q); exact rfl; exact rfl; exact rfl) | ((with_reducible apply v_skip); exact rfl; exact rfl; exact rfl) | ((with_reducible apply v_splitD); exact rfl; exact rfl; all_goals first | (intro hp; try (exfalso; omega)) | skip) | ((with_reducible apply v_splitN); exact rfl; exact rfl; all_goals first | (intro hp; try (exfalso; omega)) | skip) | ((with_reducible apply v_split); exact rfl; exact rfl; all_goals first | intro hp | skip))
    | ((with_reducible apply os_id); first | ((with_reducible apply os_x); exact rfl) | ((with_reducible apply os_store); exact rfl; exact rfl; exact rfl; exact rfl) | ((with_reducible apply os_storeAgg); exact rfl; exact rfl; exact rfl; exact rfl; exact rfl))
    | ((with_reducible apply ox_id); first | ((with_reducible apply ox_alloc); exact rfl; intro _) | ((with_reducible apply ox_box); exact rfl; exact rfl; intro _) | ((with_reducible apply ox_boxAgg); exact rfl; intro _) | ((with_reducible apply ox_buildSlice1); exact rfl; exact rfl; exact rfl; exact rfl; exact rfl; exact rfl; intro _) | ((with_reducible apply ox_buildSlice2); exact rfl; exact rfl; exact rfl; exact rfl; exact rfl; exact rfl; intro _) | ((with_reducible apply ox_buildSlice); exact rfl; exact rfl; exact rfl; exact rfl))
    | ((with_reducible apply rd_id); first | (apply Rd.own; (repeat (first | exact P0 | apply P1)); exact rfl; done) | (apply Rd.old; (first | (with_reducible assumption) | exact c0 | exact c1 | exact c2 | exact c3 | exact c4 | exact c5 | exact c6 | exact c7 | exact c8 | exact d0 | exact d1 | exact d2 | exact d3 | exact d4 | exact d5); first | exact List.not_mem_nil | exact m0 | exact m1 | exact m2 | exact m3 | exact m4 | exact m5 | exact m6 | exact m7 | exact m8 | exact m9))
    | ((with_reducible apply t_id); first | ((with_reducible apply t_seq)) | (apply t_region; kernel_rfl) | (apply t_drawn; kernel_rfl; decide +kernel; try simp only [List.append_eq, List.cons_append, List.nil_append]) | ((with_reducible apply t_condT); exact rfl) | ((with_reducible apply t_condF); exact rfl) | ((with_reducible apply t_condD); exact rfl; all_goals first | (intro hp; try (exfalso; omega)) | skip) | ((with_reducible apply t_condN); exact rfl; all_goals first | (intro hp; try (exfalso; omega)) | skip) | ((with_reducible apply t_cond); exact rfl; all_goals first | intro hp | skip) | ((with_reducible apply t_ret)) | ((with_reducible apply t_skip)) | ((with_reducible apply t_exit)) | ((with_reducible apply t_block)))
    | with_reducible apply q_thenN
    | with_reducible apply q_thenR
    | with_reducible apply q_blockR
    | with_reducible apply q_blockN
    | with_reducible apply q_thenE
    | ((with_reducible apply q_blockE); exact rfl)
    | ((with_reducible apply q_blockO); exact rfl)
    | exact P0
    | ((with_reducible apply P1))
    | exact Rdn.zero
    | apply Rdn.succ
    | ((with_reducible apply Norm.nil); exact rfl)
    | ((with_reducible apply Norm.cons); exact rfl)
    | ((with_reducible apply end_ret))
    | ((with_reducible apply end_normal))
    | exact rvs_nil
    | ((with_reducible apply rvs_cons))
    | ((with_reducible apply rv_tmp); exact rfl)
    | ((with_reducible apply rv_cell); exact rfl; exact rfl)
    | ((with_reducible apply rv_cellAgg); exact rfl; exact rfl)
    | exact Nat.le_of_ble_eq_true rfl
    | exact (rfl : (_ : Bool) = true)
    | omega
    | (intro _ _; with_reducible apply tl_id)
    | (intro _; with_reducible apply tl_id)
    | (intro _ _; with_reducible apply al_id)
    | (intro _; with_reducible apply al_id))
  all_goals rfl
theorem holdsS_calls (a b c d : Int) (h1 : fineS (a, b) = true) (h2 : fineS (c, d) = true) (h3 : a ≤ c) (h4 : d ≤ b) (w : World) : Calls Try.prog 54 #[.agg #[.int .i64 a, .int .i64 b], .agg #[.int .i64 c, .int .i64 d]] w fun e w' => e = .returned (.tuple #[.bool true, .int .i64 0]) ∧ Ext w w' := by
  have HJ := fun w1 => join_calls a b c d h1 h2 w1
  rw [Int.min_eq_left h3, Int.max_eq_left h4] at HJ
  refine enterQ (c := cx w 22) Try.func54 rfl rfl rfl rfl ?_
  repeat' (first
    | ((with_reducible apply oq_id); first | ((with_reducible apply oq_same26); exact rfl; exact rfl) | ((with_reducible apply oq_leqT); exact rfl; exact rfl; omega) | ((with_reducible apply oq_leqF); exact rfl; exact rfl; omega) | ((with_reducible apply oq_lssT); exact rfl; exact rfl; omega) | ((with_reducible apply oq_lssF); exact rfl; exact rfl; omega) | ((with_reducible apply oq_gtrT); exact rfl; exact rfl; omega) | ((with_reducible apply oq_gtrF); exact rfl; exact rfl; omega) | ((with_reducible apply oq_geqT); exact rfl; exact rfl; omega) | ((with_reducible apply oq_geqF); exact rfl; exact rfl; omega) | ((with_reducible apply oq_eqlT); exact rfl; exact rfl; omega) | ((with_reducible apply oq_eqlF); exact rfl; exact rfl; omega) | ((with_reducible apply oq_neqT); exact rfl; exact rfl; omega) | ((with_reducible apply oq_neqF); exact rfl; exact rfl; omega) | (apply oq_fn; exact rfl; first | exact trivial | (refine ⟨?_, ?_⟩ <;> omega) | (refine ⟨?_, ?_, ?_⟩ <;> omega) | omega | skip) | ((with_reducible apply oq_load); exact rfl; exact rfl) | ((with_reducible apply oq_loadAgg); exact rfl; exact rfl) | ((with_reducible apply oq_call (k := 120) (hc := Try.call120)); exact rfl; exact rfl; exact fun D w1 hw1 => HJ w1) | ((with_reducible apply oq_build); exact rfl; exact rfl; exact rfl) | ((with_reducible apply oq_buildA); exact rfl; exact rfl; exact rfl; exact rfl) | ((with_reducible apply oq_fieldAgg); exact rfl; exact rfl; exact rfl) | ((with_reducible apply oq_indexAgg); exact rfl; exact rfl; exact rfl; exact rfl))
    | ((with_reducible apply tl_id); first | ((with_reducible apply tl_nil)) | ((with_reducible apply u_q); exact rfl; exact rfl; exact rfl; exact rfl) | ((with_reducible apply u_s0); exact rfl; exact rfl) | ((with_reducible apply u_s); exact rfl; exact rfl; exact rfl) | ((with_reducible apply u_skip); exact rfl; exact rfl; exact rfl) | ((with_reducible apply u_splitD); exact rfl; exact rfl; all_goals first | (intro hp; try (exfalso; omega)) | skip) | ((with_reducible apply u_splitN); exact rfl; exact rfl; all_goals first | (intro hp; try (exfalso; omega)) | skip) | ((with_reducible apply u_split); exact rfl; exact rfl; all_goals first | intro hp | skip))
    | ((with_reducible apply gx_id); first | ((with_reducible apply v_nil)) | ((with_reducible apply v_q); exact rfl; exact rfl; exact rfl) | ((with_reducible apply v_skip); exact rfl; exact rfl; exact rfl) | ((with_reducible apply v_splitD); exact rfl; exact rfl; all_goals first | (intro hp; try (exfalso; omega)) | skip) | ((with_reducible apply v_splitN); exact rfl; exact rfl; all_goals first | (intro hp; try (exfalso; omega)) | skip) | ((with_reducible apply v_split); exact rfl; exact rfl; all_goals first | intro hp | skip))
    | ((with_reducible apply os_id); first | ((with_reducible apply os_x); exact rfl) | ((with_reducible apply os_store); exact rfl; exact rfl; exact rfl; exact rfl) | ((with_reducible apply os_storeAgg); exact rfl; exact rfl; exact rfl; exact rfl; exact rfl))
    | ((with_reducible apply ox_id); first | ((with_reducible apply ox_alloc); exact rfl; intro _) | ((with_reducible apply ox_box); exact rfl; exact rfl; intro _) | ((with_reducible apply ox_boxAgg); exact rfl; intro _) | ((with_reducible apply ox_buildSlice1); exact rfl; exact rfl; exact rfl; exact rfl; exact rfl; exact rfl; intro _) | ((with_reducible apply ox_buildSlice2); exact rfl; exact rfl; exact rfl; exact rfl; exact rfl; exact rfl; intro _) | ((with_reducible apply ox_buildSlice); exact rfl; exact rfl; exact rfl; exact rfl))
    | ((with_reducible apply rd_id); first | (apply Rd.own; (repeat (first | exact P0 | apply P1)); exact rfl; done) | (apply Rd.old; (first | (with_reducible assumption) | exact c0 | exact c1 | exact c2 | exact c3 | exact c4 | exact c5 | exact c6 | exact c7 | exact c8 | exact d0 | exact d1 | exact d2 | exact d3 | exact d4 | exact d5); first | exact List.not_mem_nil | exact m0 | exact m1 | exact m2 | exact m3 | exact m4 | exact m5 | exact m6 | exact m7 | exact m8 | exact m9))
    | ((with_reducible apply t_id); first | ((with_reducible apply t_seq)) | (apply t_region; kernel_rfl) | (apply t_drawn; kernel_rfl; decide +kernel; try simp only [List.append_eq, List.cons_append, List.nil_append]) | ((with_reducible apply t_condT); exact rfl) | ((with_reducible apply t_condF); exact rfl) | ((with_reducible apply t_condD); exact rfl; all_goals first | (intro hp; try (exfalso; omega)) | skip) | ((with_reducible apply t_condN); exact rfl; all_goals first | (intro hp; try (exfalso; omega)) | skip) | ((with_reducible apply t_cond); exact rfl; all_goals first | intro hp | skip) | ((with_reducible apply t_ret)) | ((with_reducible apply t_skip)) | ((with_reducible apply t_exit)) | ((with_reducible apply t_block)))
    | with_reducible apply q_thenN
    | with_reducible apply q_thenR
    | with_reducible apply q_blockR
    | with_reducible apply q_blockN
    | with_reducible apply q_thenE
    | ((with_reducible apply q_blockE); exact rfl)
    | ((with_reducible apply q_blockO); exact rfl)
    | exact P0
    | ((with_reducible apply P1))
    | exact Rdn.zero
    | apply Rdn.succ
    | ((with_reducible apply Norm.nil); exact rfl)
    | ((with_reducible apply Norm.cons); exact rfl)
    | ((with_reducible apply end_ret))
    | ((with_reducible apply end_normal))
    | exact rvs_nil
    | ((with_reducible apply rvs_cons))
    | ((with_reducible apply rv_tmp); exact rfl)
    | ((with_reducible apply rv_cell); exact rfl; exact rfl)
    | ((with_reducible apply rv_cellAgg); exact rfl; exact rfl)
    | exact Nat.le_of_ble_eq_true rfl
    | exact (rfl : (_ : Bool) = true)
    | omega
    | (intro _ _; with_reducible apply tl_id)
    | (intro _; with_reducible apply tl_id)
    | (intro _ _; with_reducible apply al_id)
    | (intro _; with_reducible apply al_id))
  all_goals rfl
/-- What the pick tells. -/
def pkV (bs : List Int) (a b : Int) (i : Nat) : Int := if bs.length = 0 then a else a + (bAt bs i).tmod (b - a + 1)
theorem pkV_in {bs : List Int} (hb : ∀ z ∈ bs, 0 ≤ z ∧ z ≤ 255) {a b : Int} (h : a ≤ b) (i : Nat) : a ≤ pkV bs a b i ∧ pkV bs a b i ≤ b := by
  unfold pkV
  split
  · omega
  · have h0 : 0 ≤ bAt bs i := by
      unfold bAt
      cases e : bs[i % bs.length]? with
      | none => exact Int.le_refl _
      | some z => exact (hb z (List.mem_of_getElem? e)).1
    rw [Int.tmod_eq_emod_of_nonneg h0]
    have := Int.emod_nonneg (bAt bs i) (show b - a + 1 ≠ 0 by omega)
    have := Int.emod_lt_of_pos (bAt bs i) (show 0 < b - a + 1 by omega)
    omega
theorem pick_calls (A : Option Addr) (n cc : Nat) (bs : List Int) (a b : Int) (i g : Nat) (w : World) (hq : RdS w 1 A n (bs.map u8Cells)) (hb : ∀ z ∈ bs, 0 ≤ z ∧ z ≤ 255) (c0 : w.cell? ⟨g, 0, none⟩ = some (.slice A n cc)) (hab : a ≤ b) (h1 : -1000 ≤ a) (h2 : b ≤ 1000) :
    Calls Try.prog 53 #[.agg #[.int .i64 a, .int .i64 b], .int .i64 (i : Int), .pointer (some ⟨g, 0, none⟩)] w fun e w' => e = .returned (.int .i64 (pkV bs a b i)) ∧ Ext w w' := by
  have hl := hq.len
  simp only [List.length_map] at hl
  by_cases hn : n = 0
  · have e : pkV bs a b i = a := by unfold pkV; rw [if_pos (by omega)]
    rw [e]
    subst hn
    refine enterQ (c := cx w 29) Try.func53 rfl rfl rfl rfl ?_
    repeat' (first
      | ((with_reducible apply oq_id); first | ((with_reducible apply oq_leqT); exact rfl; exact rfl; omega) | ((with_reducible apply oq_leqF); exact rfl; exact rfl; omega) | ((with_reducible apply oq_lssT); exact rfl; exact rfl; omega) | ((with_reducible apply oq_lssF); exact rfl; exact rfl; omega) | ((with_reducible apply oq_gtrT); exact rfl; exact rfl; omega) | ((with_reducible apply oq_gtrF); exact rfl; exact rfl; omega) | ((with_reducible apply oq_geqT); exact rfl; exact rfl; omega) | ((with_reducible apply oq_geqF); exact rfl; exact rfl; omega) | ((with_reducible apply oq_eqlT); exact rfl; exact rfl; omega) | ((with_reducible apply oq_eqlF); exact rfl; exact rfl; omega) | ((with_reducible apply oq_neqT); exact rfl; exact rfl; omega) | ((with_reducible apply oq_neqF); exact rfl; exact rfl; omega) | (apply oq_fn; exact rfl; first | exact trivial | (refine ⟨?_, ?_⟩ <;> omega) | (refine ⟨?_, ?_, ?_⟩ <;> omega) | omega | skip) | ((with_reducible apply oq_load); exact rfl; exact rfl) | ((with_reducible apply oq_loadAgg); exact rfl; exact rfl) | ((with_reducible apply oq_build); exact rfl; exact rfl; exact rfl) | ((with_reducible apply oq_buildA); exact rfl; exact rfl; exact rfl; exact rfl) | ((with_reducible apply oq_fieldAgg); exact rfl; exact rfl; exact rfl) | ((with_reducible apply oq_indexAgg); exact rfl; exact rfl; exact rfl; exact rfl))
      | ((with_reducible apply tl_id); first | ((with_reducible apply tl_nil)) | ((with_reducible apply u_q); exact rfl; exact rfl; exact rfl; exact rfl) | ((with_reducible apply u_s0); exact rfl; exact rfl) | ((with_reducible apply u_s); exact rfl; exact rfl; exact rfl) | ((with_reducible apply u_skip); exact rfl; exact rfl; exact rfl) | ((with_reducible apply u_splitD); exact rfl; exact rfl; all_goals first | (intro hp; try (exfalso; omega)) | skip) | ((with_reducible apply u_splitN); exact rfl; exact rfl; all_goals first | (intro hp; try (exfalso; omega)) | skip) | ((with_reducible apply u_split); exact rfl; exact rfl; all_goals first | intro hp | skip))
      | ((with_reducible apply gx_id); first | ((with_reducible apply v_nil)) | ((with_reducible apply v_q); exact rfl; exact rfl; exact rfl) | ((with_reducible apply v_skip); exact rfl; exact rfl; exact rfl) | ((with_reducible apply v_splitD); exact rfl; exact rfl; all_goals first | (intro hp; try (exfalso; omega)) | skip) | ((with_reducible apply v_splitN); exact rfl; exact rfl; all_goals first | (intro hp; try (exfalso; omega)) | skip) | ((with_reducible apply v_split); exact rfl; exact rfl; all_goals first | intro hp | skip))
      | ((with_reducible apply os_id); first | ((with_reducible apply os_x); exact rfl) | ((with_reducible apply os_store); exact rfl; exact rfl; exact rfl; exact rfl) | ((with_reducible apply os_storeAgg); exact rfl; exact rfl; exact rfl; exact rfl; exact rfl))
      | ((with_reducible apply ox_id); first | ((with_reducible apply ox_alloc); exact rfl; intro _) | ((with_reducible apply ox_box); exact rfl; exact rfl; intro _) | ((with_reducible apply ox_boxAgg); exact rfl; intro _) | ((with_reducible apply ox_buildSlice1); exact rfl; exact rfl; exact rfl; exact rfl; exact rfl; exact rfl; intro _) | ((with_reducible apply ox_buildSlice2); exact rfl; exact rfl; exact rfl; exact rfl; exact rfl; exact rfl; intro _) | ((with_reducible apply ox_buildSlice); exact rfl; exact rfl; exact rfl; exact rfl))
      | ((with_reducible apply rd_id); first | (apply Rd.own; (repeat (first | exact P0 | apply P1)); exact rfl; done) | (apply Rd.old; (first | (with_reducible assumption) | exact c0 | exact c1 | exact c2 | exact c3 | exact c4 | exact c5 | exact c6 | exact c7 | exact c8 | exact d0 | exact d1 | exact d2 | exact d3 | exact d4 | exact d5); first | exact List.not_mem_nil | exact m0 | exact m1 | exact m2 | exact m3 | exact m4 | exact m5 | exact m6 | exact m7 | exact m8 | exact m9))
      | ((with_reducible apply t_id); first | ((with_reducible apply t_seq)) | (apply t_region; kernel_rfl) | (apply t_drawn; kernel_rfl; decide +kernel; try simp only [List.append_eq, List.cons_append, List.nil_append]) | ((with_reducible apply t_condT); exact rfl) | ((with_reducible apply t_condF); exact rfl) | ((with_reducible apply t_condD); exact rfl; all_goals first | (intro hp; try (exfalso; omega)) | skip) | ((with_reducible apply t_condN); exact rfl; all_goals first | (intro hp; try (exfalso; omega)) | skip) | ((with_reducible apply t_cond); exact rfl; all_goals first | intro hp | skip) | ((with_reducible apply t_ret)) | ((with_reducible apply t_skip)) | ((with_reducible apply t_exit)) | ((with_reducible apply t_block)))
      | with_reducible apply q_thenN
      | with_reducible apply q_thenR
      | with_reducible apply q_blockR
      | with_reducible apply q_blockN
      | with_reducible apply q_thenE
      | ((with_reducible apply q_blockE); exact rfl)
      | ((with_reducible apply q_blockO); exact rfl)
      | exact P0
      | ((with_reducible apply P1))
      | exact Rdn.zero
      | apply Rdn.succ
      | ((with_reducible apply Norm.nil); exact rfl)
      | ((with_reducible apply Norm.cons); exact rfl)
      | ((with_reducible apply end_ret))
      | ((with_reducible apply end_normal))
      | exact rvs_nil
      | ((with_reducible apply rvs_cons))
      | ((with_reducible apply rv_tmp); exact rfl)
      | ((with_reducible apply rv_cell); exact rfl; exact rfl)
      | ((with_reducible apply rv_cellAgg); exact rfl; exact rfl)
      | exact Nat.le_of_ble_eq_true rfl
      | exact (rfl : (_ : Bool) = true)
      | omega
      | (intro _ _; with_reducible apply tl_id)
      | (intro _; with_reducible apply tl_id)
      | (intro _ _; with_reducible apply al_id)
      | (intro _; with_reducible apply al_id))
    all_goals rfl
  · obtain ⟨B, o, rfl⟩ : ∃ B o, A = some ⟨B, o, none⟩ := by
      obtain ⟨b', o', cs, hA, _⟩ := hq.row (show 0 < n by omega)
      exact ⟨b', o', hA⟩
    obtain ⟨j0, hj0, hjl, z, b0, ez, zi⟩ := by_at hq hb (show 0 < n by omega) i
    have hv := pkV_in hb hab i
    have e : pkV bs a b i = a + z.tmod (b - a + 1) := by unfold pkV; rw [if_neg (by omega), ez]
    rw [e] at hv ⊢
    obtain ⟨m, hm⟩ : ∃ m, z.tmod (b - a + 1) = m := ⟨_, rfl⟩
    rw [hm] at hv ⊢
    refine enterQ (c := cx w 29) Try.func53 rfl rfl rfl rfl ?_
    repeat' (first
      | ((with_reducible apply oq_id); first | ((with_reducible apply oq_remE (k := ((j0 : Nat) : Int))); exact rfl; exact rfl; omega; exact hj0) | ((with_reducible apply oq_remE (k := m)); exact rfl; exact rfl; omega; exact hm) | (focus ((with_reducible apply oq_indexAddrN (i := j0)); exact rfl; exact rfl; exact rfl; exact rfl; omega)) | ((with_reducible apply oq_leqT); exact rfl; exact rfl; omega) | ((with_reducible apply oq_leqF); exact rfl; exact rfl; omega) | ((with_reducible apply oq_lssT); exact rfl; exact rfl; omega) | ((with_reducible apply oq_lssF); exact rfl; exact rfl; omega) | ((with_reducible apply oq_gtrT); exact rfl; exact rfl; omega) | ((with_reducible apply oq_gtrF); exact rfl; exact rfl; omega) | ((with_reducible apply oq_geqT); exact rfl; exact rfl; omega) | ((with_reducible apply oq_geqF); exact rfl; exact rfl; omega) | ((with_reducible apply oq_eqlT); exact rfl; exact rfl; omega) | ((with_reducible apply oq_eqlF); exact rfl; exact rfl; omega) | ((with_reducible apply oq_neqT); exact rfl; exact rfl; omega) | ((with_reducible apply oq_neqF); exact rfl; exact rfl; omega) | (apply oq_fn; exact rfl; first | exact trivial | (refine ⟨?_, ?_⟩ <;> omega) | (refine ⟨?_, ?_, ?_⟩ <;> omega) | omega | skip) | ((with_reducible apply oq_load); exact rfl; exact rfl) | ((with_reducible apply oq_loadAgg); exact rfl; exact rfl) | ((with_reducible apply oq_build); exact rfl; exact rfl; exact rfl) | ((with_reducible apply oq_buildA); exact rfl; exact rfl; exact rfl; exact rfl) | ((with_reducible apply oq_fieldAgg); exact rfl; exact rfl; exact rfl) | ((with_reducible apply oq_indexAgg); exact rfl; exact rfl; exact rfl; exact rfl))
      | ((with_reducible apply tl_id); first | ((with_reducible apply tl_nil)) | ((with_reducible apply u_q); exact rfl; exact rfl; exact rfl; exact rfl) | ((with_reducible apply u_s0); exact rfl; exact rfl) | ((with_reducible apply u_s); exact rfl; exact rfl; exact rfl) | ((with_reducible apply u_skip); exact rfl; exact rfl; exact rfl) | ((with_reducible apply u_splitD); exact rfl; exact rfl; all_goals first | (intro hp; try (exfalso; omega)) | skip) | ((with_reducible apply u_splitN); exact rfl; exact rfl; all_goals first | (intro hp; try (exfalso; omega)) | skip) | ((with_reducible apply u_split); exact rfl; exact rfl; all_goals first | intro hp | skip))
      | ((with_reducible apply gx_id); first | ((with_reducible apply v_nil)) | ((with_reducible apply v_q); exact rfl; exact rfl; exact rfl) | ((with_reducible apply v_skip); exact rfl; exact rfl; exact rfl) | ((with_reducible apply v_splitD); exact rfl; exact rfl; all_goals first | (intro hp; try (exfalso; omega)) | skip) | ((with_reducible apply v_splitN); exact rfl; exact rfl; all_goals first | (intro hp; try (exfalso; omega)) | skip) | ((with_reducible apply v_split); exact rfl; exact rfl; all_goals first | intro hp | skip))
      | ((with_reducible apply os_id); first | ((with_reducible apply os_x); exact rfl) | ((with_reducible apply os_store); exact rfl; exact rfl; exact rfl; exact rfl) | ((with_reducible apply os_storeAgg); exact rfl; exact rfl; exact rfl; exact rfl; exact rfl))
      | ((with_reducible apply ox_id); first | ((with_reducible apply ox_alloc); exact rfl; intro _) | ((with_reducible apply ox_box); exact rfl; exact rfl; intro _) | ((with_reducible apply ox_boxAgg); exact rfl; intro _) | ((with_reducible apply ox_buildSlice1); exact rfl; exact rfl; exact rfl; exact rfl; exact rfl; exact rfl; intro _) | ((with_reducible apply ox_buildSlice2); exact rfl; exact rfl; exact rfl; exact rfl; exact rfl; exact rfl; intro _) | ((with_reducible apply ox_buildSlice); exact rfl; exact rfl; exact rfl; exact rfl))
      | ((with_reducible apply rd_id); first | (apply Rd.old; exact b0; exact List.not_mem_nil) | (apply Rd.own; (repeat (first | exact P0 | apply P1)); exact rfl; done) | (apply Rd.old; (first | (with_reducible assumption) | exact c0 | exact c1 | exact c2 | exact c3 | exact c4 | exact c5 | exact c6 | exact c7 | exact c8 | exact d0 | exact d1 | exact d2 | exact d3 | exact d4 | exact d5); first | exact List.not_mem_nil | exact m0 | exact m1 | exact m2 | exact m3 | exact m4 | exact m5 | exact m6 | exact m7 | exact m8 | exact m9))
      | ((with_reducible apply t_id); first | ((with_reducible apply t_seq)) | (apply t_region; kernel_rfl) | (apply t_drawn; kernel_rfl; decide +kernel; try simp only [List.append_eq, List.cons_append, List.nil_append]) | ((with_reducible apply t_condT); exact rfl) | ((with_reducible apply t_condF); exact rfl) | ((with_reducible apply t_condD); exact rfl; all_goals first | (intro hp; try (exfalso; omega)) | skip) | ((with_reducible apply t_condN); exact rfl; all_goals first | (intro hp; try (exfalso; omega)) | skip) | ((with_reducible apply t_cond); exact rfl; all_goals first | intro hp | skip) | ((with_reducible apply t_ret)) | ((with_reducible apply t_skip)) | ((with_reducible apply t_exit)) | ((with_reducible apply t_block)))
      | with_reducible apply q_thenN
      | with_reducible apply q_thenR
      | with_reducible apply q_blockR
      | with_reducible apply q_blockN
      | with_reducible apply q_thenE
      | ((with_reducible apply q_blockE); exact rfl)
      | ((with_reducible apply q_blockO); exact rfl)
      | exact P0
      | ((with_reducible apply P1))
      | exact Rdn.zero
      | apply Rdn.succ
      | ((with_reducible apply Norm.nil); exact rfl)
      | ((with_reducible apply Norm.cons); exact rfl)
      | ((with_reducible apply end_ret))
      | ((with_reducible apply end_normal))
      | exact rvs_nil
      | ((with_reducible apply rvs_cons))
      | ((with_reducible apply rv_tmp); exact rfl)
      | ((with_reducible apply rv_cell); exact rfl; exact rfl)
      | ((with_reducible apply rv_cellAgg); exact rfl; exact rfl)
      | exact Nat.le_of_ble_eq_true rfl
      | exact (rfl : (_ : Bool) = true)
      | omega
      | (intro _ _; with_reducible apply tl_id)
      | (intro _; with_reducible apply tl_id)
      | (intro _ _; with_reducible apply al_id)
      | (intro _; with_reducible apply al_id))
    all_goals rfl

end Go.Proofs.Ytalidommelefaaa
/- Law 13: the wind at a height. -/
namespace Go.Proofs.Ytalidommelefaaa
open Go.RowKit
attribute [local irreducible] OQ OS OX Rd T TL GX GL AL AI RV wpG SAny Calls
set_option maxRecDepth 100000
set_option maxHeartbeats 2000000
set_option linter.unusedVariables false
set_option linter.unusedSimpArgs false


theorem u16_in13 {z : Int} (h : (Lit.int .u16 z).wf = true) : 0 ≤ z ∧ z ≤ 65535 := by
  simp only [Lit.wf, Bool.and_eq_true, decide_eq_true_eq] at h
  exact h
theorem open_cap {H : Type} {enc : TypeId × Value → H} {r : Reach} {P : Program} {W : World} {held : Bool} {t e : TypeId} {A : Option Addr} {m c : Nat} {d : DataW H} {p : List MemPlace} (hs : P.underlying t = some (.slice e))
    (h : DataW.Trod enc P W 0 (fun _ => true) held t (.slice A m c) d p) : m ≤ c := by
  obtain ⟨fuel, hf⟩ := h
  rcases Go.Deep.open_slice hs hf with ⟨h1, _⟩ | ⟨a, len, cap, m', k, D, Pl, h1, _, hlc, _⟩
  · simp only [Value.cells, List.cons.injEq, Value.slice.injEq, and_true] at h1
    omega
  · simp only [Value.cells, List.cons.injEq, Value.slice.injEq, and_true] at h1
    omega


theorem airGusts_T (A : Option Addr) (n c : Nat) (l : List Gl) (A1 : Option Addr) (n1 cc : Nat) (bs : List Int) (i1 i2 ea no : Int) (w : World) (hr : RdS w 6 A n (l.map glCells)) (hcap : n ≤ c) (hq : RdS w 1 A1 n1 (bs.map u8Cells)) (hb : ∀ z ∈ bs, 0 ≤ z ∧ z ≤ 255) (k1 : 0 ≤ i1 ∧ i1 ≤ 65535) (k2 : 0 ≤ i2 ∧ i2 ≤ 65535) :
    Calls Try.prog 13 #[.slice A n c, .slice A1 n1 cc, .int .u16 i1, .int .u16 i2, .int .i64 ea, .int .i64 no] w fun e w' => e = .returned (.bool true) ∧ Ext w w' := by
  have hl := hr.len
  simp only [List.length_map] at hl
  subst hl
  by_cases hbig : l.length ≤ 24
  · have HC := fun w1 (hx : Ext w w1) => checkWinds_calls A l.length c l w1 (hr.ext hx) (by omega)
    cases hwb : windB l with
    | false =>
      rw [hwb] at HC
      simp only [Bool.false_eq_true, if_false] at HC
      refine enterQ (c := cx w 299) Try.func13 rfl rfl rfl rfl ?_
      repeat' (first | ((with_reducible apply oq_id); first | ((with_reducible apply oq_leqT); exact rfl; exact rfl; omega) | ((with_reducible apply oq_leqF); exact rfl; exact rfl; omega) | ((with_reducible apply oq_lssT); exact rfl; exact rfl; omega) | ((with_reducible apply oq_lssF); exact rfl; exact rfl; omega) | ((with_reducible apply oq_gtrT); exact rfl; exact rfl; omega) | ((with_reducible apply oq_gtrF); exact rfl; exact rfl; omega) | ((with_reducible apply oq_geqT); exact rfl; exact rfl; omega) | ((with_reducible apply oq_geqF); exact rfl; exact rfl; omega) | ((with_reducible apply oq_eqlT); exact rfl; exact rfl; omega) | ((with_reducible apply oq_eqlF); exact rfl; exact rfl; omega) | ((with_reducible apply oq_neqT); exact rfl; exact rfl; omega) | ((with_reducible apply oq_neqF); exact rfl; exact rfl; omega) | (apply oq_fn; exact rfl; first | exact trivial | (refine ⟨?_, ?_⟩ <;> omega) | (refine ⟨?_, ?_, ?_⟩ <;> omega) | omega | skip) | ((with_reducible apply oq_load); exact rfl; exact rfl) | ((with_reducible apply oq_loadAgg); exact rfl; exact rfl) | ((with_reducible apply oq_call (k := 48) (hc := Try.call48)); exact rfl; exact rfl; exact fun D w1 hw1 => alive_calls w1) | ((with_reducible apply oq_call (k := 27) (hc := Try.call27)); exact rfl; exact rfl; exact fun D w1 hw1 => greatS_calls _ w1) | ((with_reducible apply oq_call (k := 34) (hc := Try.call34)); exact rfl; exact rfl; exact fun D w1 hw1 => HC w1 hw1.ext.ext)) | ((with_reducible apply tl_id); first | ((with_reducible apply tl_nil)) | ((with_reducible apply u_q); exact rfl; exact rfl; exact rfl; exact rfl) | ((with_reducible apply u_s0); exact rfl; exact rfl) | ((with_reducible apply u_s); exact rfl; exact rfl; exact rfl) | ((with_reducible apply u_skip); exact rfl; exact rfl; exact rfl) | ((with_reducible apply u_splitD); exact rfl; exact rfl; all_goals first | (intro hp; try (exfalso; omega)) | skip) | ((with_reducible apply u_splitN); exact rfl; exact rfl; all_goals first | (intro hp; try (exfalso; omega)) | skip) | ((with_reducible apply u_split); exact rfl; exact rfl; all_goals first | intro hp | skip)) | ((with_reducible apply gx_id); first | ((with_reducible apply v_nil)) | ((with_reducible apply v_q); exact rfl; exact rfl; exact rfl) | ((with_reducible apply v_skip); exact rfl; exact rfl; exact rfl) | ((with_reducible apply v_splitD); exact rfl; exact rfl; all_goals first | (intro hp; try (exfalso; omega)) | skip) | ((with_reducible apply v_splitN); exact rfl; exact rfl; all_goals first | (intro hp; try (exfalso; omega)) | skip) | ((with_reducible apply v_split); exact rfl; exact rfl; all_goals first | intro hp | skip)) | ((with_reducible apply os_id); first | ((with_reducible apply os_x); exact rfl) | ((with_reducible apply os_store); exact rfl; exact rfl; exact rfl; exact rfl) | ((with_reducible apply os_storeAgg); exact rfl; exact rfl; exact rfl; exact rfl; exact rfl)) | ((with_reducible apply ox_id); first | ((with_reducible apply ox_alloc); exact rfl; intro _) | ((with_reducible apply ox_box); exact rfl; exact rfl; intro _) | ((with_reducible apply ox_boxAgg); exact rfl; intro _)) | ((with_reducible apply rd_id); first | (apply Rd.own; (repeat (first | exact P0 | apply P1)); exact rfl; done) | (apply Rd.old; (first | (with_reducible assumption) | exact c0 | exact c1 | exact c2 | exact c3 | exact c4 | exact c5 | exact c6 | exact d0 | exact d1 | exact d2 | exact d3 | exact d4 | exact d5); first | exact List.not_mem_nil | exact m1 | exact m2 | exact m3 | exact m4)) | ((with_reducible apply t_id); first | ((with_reducible apply t_seq)) | (apply t_region; kernel_rfl) | (apply t_drawn; kernel_rfl; decide +kernel; try simp only [List.append_eq, List.cons_append, List.nil_append]) | ((with_reducible apply t_condT); exact rfl) | ((with_reducible apply t_condF); exact rfl) | ((with_reducible apply t_condD); exact rfl; all_goals first | (intro hp; try (exfalso; omega)) | skip) | ((with_reducible apply t_condN); exact rfl; all_goals first | (intro hp; try (exfalso; omega)) | skip) | ((with_reducible apply t_cond); exact rfl; all_goals first | intro hp | skip) | ((with_reducible apply t_ret)) | ((with_reducible apply t_skip)) | ((with_reducible apply t_exit)) | ((with_reducible apply t_block))) | with_reducible apply q_thenN | with_reducible apply q_thenR | with_reducible apply q_blockR | with_reducible apply q_blockN | with_reducible apply q_thenE | ((with_reducible apply q_blockE); exact rfl) | ((with_reducible apply q_blockO); exact rfl) | exact P0 | ((with_reducible apply P1)) | exact Rdn.zero | apply Rdn.succ | ((with_reducible apply Norm.nil); exact rfl) | ((with_reducible apply Norm.cons); exact rfl) | ((with_reducible apply end_ret)) | ((with_reducible apply end_normal)) | exact rvs_nil | ((with_reducible apply rvs_cons)) | ((with_reducible apply rv_tmp); exact rfl) | exact Nat.le_of_ble_eq_true rfl | exact (rfl : (_ : Bool) = true) | omega | (intro _ _; with_reducible apply tl_id) | (intro _; with_reducible apply tl_id) | (intro _ _; with_reducible apply al_id) | (intro _; with_reducible apply al_id))
      all_goals rfl
    | true =>
    rw [hwb] at HC
    simp only [if_true] at HC
    have hW := (windB_iff l).1 hwb
    have n1' := hW.n1
    obtain ⟨rt, hrt⟩ : ∃ r, i1.tmod 9501 = r := ⟨_, rfl⟩
    obtain ⟨rr, hrr⟩ : ∃ r, i2.tmod 500 = r := ⟨_, rfl⟩
    obtain ⟨rs, hrs⟩ : ∃ r, i2.tmod 300 = r := ⟨_, rfl⟩
    have t1 : 0 ≤ rt ∧ rt ≤ 9500 := by rw [← hrt, Int.tmod_eq_emod_of_nonneg k1.1]; omega
    have t2 : 0 ≤ rr ∧ rr ≤ 500 := by rw [← hrr, Int.tmod_eq_emod_of_nonneg k2.1]; omega
    have t3 : 0 ≤ rs ∧ rs ≤ 300 := by rw [← hrs, Int.tmod_eq_emod_of_nonneg k2.1]; omega
    obtain ⟨p, hpp⟩ : ∃ r, r = -500 + rt := ⟨_, rfl⟩
    obtain ⟨wl, hwl⟩ : ∃ r, r = max (p - rr) (-600) := ⟨_, rfl⟩
    obtain ⟨wh, hwh⟩ : ∃ r, r = p + rs := ⟨_, rfl⟩
    have f1 : fineS (p, p) = true := (fineS_iff _).2 ⟨by simp only; omega, by simp only; omega, by simp only; omega⟩
    have f2 : fineS (wl, wh) = true := (fineS_iff _).2 ⟨by simp only; omega, by simp only; omega, by simp only; omega⟩
    have HW := fun w1 (hx : Ext w w1) => windAt_calls A l.length c l p p w1 (hr.ext hx) (by omega) hcap
    have HV := fun w1 (hx : Ext w w1) => windAt_calls A l.length c l wl wh w1 (hr.ext hx) (by omega) hcap
    have e1 : windV l p p = (widen (gustV l p p) (steadyV true l p p), widen (gustV l p p) (steadyV false l p p), 0) := by unfold windV; rw [if_pos hwb, if_pos f1]
    have e2 : windV l wl wh = (widen (gustV l wl wh) (steadyV true l wl wh), widen (gustV l wl wh) (steadyV false l wl wh), 0) := by unfold windV; rw [if_pos hwb, if_pos f2]
    rw [e1] at HW
    rw [e2] at HV
    dsimp only [windO, widen] at HW HV
    have FX := steady_wide (e := true) (p := wl) (q := wh) (m := p) hW (by omega) (by omega)
    have FY := steady_wide (e := false) (p := wl) (q := wh) (m := p) hW (by omega) (by omega)
    have IX := steady_in (e := true) (p := p) (q := p) hW
    have IY := steady_in (e := false) (p := p) (q := p) hW
    have JX := steady_in (e := true) (p := wl) (q := wh) hW
    have JY := steady_in (e := false) (p := wl) (q := wh) hW
    have OX := steady_le (e := true) (p := p) hW
    have OY := steady_le (e := false) (p := p) hW
    have GW := gustV_wide (p := p) (q := p) (p' := wl) (q' := wh) hW (by omega) (by omega)
    have GB0 : 0 ≤ gustV l p p ∧ gustV l p p ≤ 500 := gustR_bounds hW.gusts _
    have GB1 : 0 ≤ gustV l wl wh ∧ gustV l wl wh ≤ 500 := gustR_bounds hW.gusts _
    obtain ⟨G0, hG0⟩ : ∃ g, gustV l p p = g := ⟨_, rfl⟩
    obtain ⟨G1, hG1⟩ : ∃ g, gustV l wl wh = g := ⟨_, rfl⟩
    obtain ⟨⟨xl, xh⟩, ex⟩ : ∃ s, steadyV true l p p = s := ⟨_, rfl⟩
    obtain ⟨⟨yl, yh⟩, ey⟩ : ∃ s, steadyV false l p p = s := ⟨_, rfl⟩
    obtain ⟨⟨xl', xh'⟩, ex'⟩ : ∃ s, steadyV true l wl wh = s := ⟨_, rfl⟩
    obtain ⟨⟨yl', yh'⟩, ey'⟩ : ∃ s, steadyV false l wl wh = s := ⟨_, rfl⟩
    rw [ex, ey, hG0] at HW
    rw [ex', ey', hG1] at HV
    rw [ex, ex'] at FX
    rw [ey, ey'] at FY
    rw [ex] at IX OX
    rw [ey] at IY OY
    rw [ex'] at JX
    rw [ey'] at JY
    rw [hG0] at GW GB0
    rw [hG1] at GW GB1
    simp only [SIn] at FX FY IX IY JX JY OX OY
    dsimp only at HW HV
    have HX := fun w1 => holdsS_calls (xl' - G1) (xh' + G1) (xl - G0) (xh + G0) ((fineS_iff _).2 ⟨by simp only; omega, by simp only; omega, by simp only; omega⟩) ((fineS_iff _).2 ⟨by simp only; omega, by simp only; omega, by simp only; omega⟩) (by omega) (by omega) w1
    have HY := fun w1 => holdsS_calls (yl' - G1) (yh' + G1) (yl - G0) (yh + G0) ((fineS_iff _).2 ⟨by simp only; omega, by simp only; omega, by simp only; omega⟩) ((fineS_iff _).2 ⟨by simp only; omega, by simp only; omega, by simp only; omega⟩) (by omega) (by omega) w1
    refine enterQ (c := cx w 299) Try.func13 rfl rfl rfl rfl ?_
    repeat' (first | ((with_reducible apply oq_id); first | ((with_reducible apply oq_remE (k := rt)); exact rfl; exact rfl; omega; exact hrt) | ((with_reducible apply oq_remE (k := rr)); exact rfl; exact rfl; omega; exact hrr) | ((with_reducible apply oq_remE (k := rs)); exact rfl; exact rfl; omega; exact hrs) | ((with_reducible apply oq_max2E (k := wl)); exact rfl; exact rfl; omega) | ((with_reducible apply oq_addE (k := p)); exact rfl; exact rfl; omega) | ((with_reducible apply oq_addE (k := wh)); exact rfl; exact rfl; omega) | ((with_reducible apply oq_leqT); exact rfl; exact rfl; omega) | ((with_reducible apply oq_leqF); exact rfl; exact rfl; omega) | ((with_reducible apply oq_lssT); exact rfl; exact rfl; omega) | ((with_reducible apply oq_lssF); exact rfl; exact rfl; omega) | ((with_reducible apply oq_gtrT); exact rfl; exact rfl; omega) | ((with_reducible apply oq_gtrF); exact rfl; exact rfl; omega) | ((with_reducible apply oq_geqT); exact rfl; exact rfl; omega) | ((with_reducible apply oq_geqF); exact rfl; exact rfl; omega) | ((with_reducible apply oq_eqlT); exact rfl; exact rfl; omega) | ((with_reducible apply oq_eqlF); exact rfl; exact rfl; omega) | ((with_reducible apply oq_neqT); exact rfl; exact rfl; omega) | ((with_reducible apply oq_neqF); exact rfl; exact rfl; omega) | (apply oq_fn; exact rfl; first | exact trivial | (refine ⟨?_, ?_⟩ <;> omega) | (refine ⟨?_, ?_, ?_⟩ <;> omega) | omega | skip) | ((with_reducible apply oq_load); exact rfl; exact rfl) | ((with_reducible apply oq_loadAgg); exact rfl; exact rfl) | ((with_reducible apply oq_call (k := 48) (hc := Try.call48)); exact rfl; exact rfl; exact fun D w1 hw1 => alive_calls w1) | ((with_reducible apply oq_call (k := 27) (hc := Try.call27)); exact rfl; exact rfl; exact fun D w1 hw1 => greatS_calls _ w1) | ((with_reducible apply oq_call (k := 34) (hc := Try.call34)); exact rfl; exact rfl; exact fun D w1 hw1 => HC w1 hw1.ext.ext) | ((with_reducible apply oq_call (k := 52) (hc := Try.call52)); exact rfl; exact rfl; exact fun D w1 hw1 => span_calls _ _ w1) | ((with_reducible apply oq_call (k := 32) (hc := Try.call32)); exact rfl; exact rfl; exact fun D w1 hw1 => HW w1 hw1.ext.ext) | ((with_reducible apply oq_call (k := 32) (hc := Try.call32)); exact rfl; exact rfl; exact fun D w1 hw1 => HV w1 hw1.ext.ext)) | ((with_reducible apply tl_id); first | ((with_reducible apply tl_nil)) | ((with_reducible apply u_q); exact rfl; exact rfl; exact rfl; exact rfl) | ((with_reducible apply u_s0); exact rfl; exact rfl) | ((with_reducible apply u_s); exact rfl; exact rfl; exact rfl) | ((with_reducible apply u_skip); exact rfl; exact rfl; exact rfl) | ((with_reducible apply u_splitD); exact rfl; exact rfl; all_goals first | (intro hp; try (exfalso; omega)) | skip) | ((with_reducible apply u_splitN); exact rfl; exact rfl; all_goals first | (intro hp; try (exfalso; omega)) | skip) | ((with_reducible apply u_split); exact rfl; exact rfl; all_goals first | intro hp | skip)) | ((with_reducible apply gx_id); first | ((with_reducible apply v_nil)) | ((with_reducible apply v_q); exact rfl; exact rfl; exact rfl) | ((with_reducible apply v_skip); exact rfl; exact rfl; exact rfl) | ((with_reducible apply v_splitD); exact rfl; exact rfl; all_goals first | (intro hp; try (exfalso; omega)) | skip) | ((with_reducible apply v_splitN); exact rfl; exact rfl; all_goals first | (intro hp; try (exfalso; omega)) | skip) | ((with_reducible apply v_split); exact rfl; exact rfl; all_goals first | intro hp | skip)) | ((with_reducible apply os_id); first | ((with_reducible apply os_x); exact rfl) | ((with_reducible apply os_store); exact rfl; exact rfl; exact rfl; exact rfl) | ((with_reducible apply os_storeAgg); exact rfl; exact rfl; exact rfl; exact rfl; exact rfl)) | ((with_reducible apply ox_id); first | ((with_reducible apply ox_alloc); exact rfl; intro _) | ((with_reducible apply ox_box); exact rfl; exact rfl; intro _) | ((with_reducible apply ox_boxAgg); exact rfl; intro _)) | ((with_reducible apply rd_id); first | (apply Rd.own; (repeat (first | exact P0 | apply P1)); exact rfl; done) | (apply Rd.old; (first | (with_reducible assumption) | exact c0 | exact c1 | exact c2 | exact c3 | exact c4 | exact c5 | exact c6 | exact d0 | exact d1 | exact d2 | exact d3 | exact d4 | exact d5); first | exact List.not_mem_nil | exact m1 | exact m2 | exact m3 | exact m4)) | ((with_reducible apply t_id); first | ((with_reducible apply t_seq)) | (apply t_region; kernel_rfl) | (apply t_drawn; kernel_rfl; decide +kernel; try simp only [List.append_eq, List.cons_append, List.nil_append]) | ((with_reducible apply t_condT); exact rfl) | ((with_reducible apply t_condF); exact rfl) | ((with_reducible apply t_condD); exact rfl; all_goals first | (intro hp; try (exfalso; omega)) | skip) | ((with_reducible apply t_condN); exact rfl; all_goals first | (intro hp; try (exfalso; omega)) | skip) | ((with_reducible apply t_cond); exact rfl; all_goals first | intro hp | skip) | ((with_reducible apply t_ret)) | ((with_reducible apply t_skip)) | ((with_reducible apply t_exit)) | ((with_reducible apply t_block))) | with_reducible apply q_thenN | with_reducible apply q_thenR | with_reducible apply q_blockR | with_reducible apply q_blockN | with_reducible apply q_thenE | ((with_reducible apply q_blockE); exact rfl) | ((with_reducible apply q_blockO); exact rfl) | exact P0 | ((with_reducible apply P1)) | exact Rdn.zero | apply Rdn.succ | ((with_reducible apply Norm.nil); exact rfl) | ((with_reducible apply Norm.cons); exact rfl) | ((with_reducible apply end_ret)) | ((with_reducible apply end_normal)) | exact rvs_nil | ((with_reducible apply rvs_cons)) | ((with_reducible apply rv_tmp); exact rfl) | exact Nat.le_of_ble_eq_true rfl | exact (rfl : (_ : Bool) = true) | omega | (intro _ _; with_reducible apply tl_id) | (intro _; with_reducible apply tl_id) | (intro _ _; with_reducible apply al_id) | (intro _; with_reducible apply al_id))
    apply t_loopK (ι := Nat) [0, 4, 5, 7, 12, 13, 14, 16, 18, 21, 22, 23, 24, 25, 26, 27, 28, 29, 30, 31, 32, 33, 107, 108, 109, 110, 111, 112, 113, 114, 115, 116, 117, 118, 119, 120, 121, 122, 123, 124, 125, 126, 127, 128, 129, 130, 131, 132, 133, 134, 135, 136, 137, 138, 139, 140, 141, 142, 143, 144, 145, 146, 147, 148, 149, 150, 151, 152, 153, 154, 155, 156, 157, 158, 159, 160, 161, 162, 163, 164, 165, 166, 167, 168, 169, 170, 171, 172, 173, 174, 175, 176, 177, 178, 179, 180, 181, 182, 183, 184, 185, 186, 187, 188, 189, 190, 191, 192, 193, 194, 195, 196, 197, 198, 199, 200, 201, 202, 203, 204, 205, 206, 207, 208, 209, 210, 211, 212, 213, 214, 215, 216, 217, 218, 219, 220, 221, 222, 223, 224, 225, 226, 227, 228, 229, 230, 231, 232, 233, 234, 235, 236, 237, 238, 239, 240, 241, 242, 243, 244, 245, 246, 247, 248, 249, 250, 251, 252, 253, 254, 255, 256, 257, 258, 259, 260, 261, 262, 263, 264, 265, 266, 267, 268, 269, 270, 271, 272, 273, 274, 275, 276, 277, 278, 279, 280, 281, 282, 283, 284, 285, 286, 287, 288, 289, 290, 291, 292, 293, 294, 295, 296, 297, 298] (fun k => [(20, .int .i64 (k : Nat))]) (fun _ => []) (fun k => k < l.length ∧ (0 < k → ∀ x, l[k]? = some x → x.h ≤ p)) (fun k => l.length - k) (0)
    (repeat (first | exact KeepF.nil | (apply KeepF.cons; exact rfl) | apply KeepF.skip))
    (repeat (first | exact FrSub.nil | (apply FrSub.cons; exact rfl)))
    (repeat (first | exact HpSub.refl _ | (apply HpSub.consE; (repeat (first | exact P0 | apply P1)); exact rfl) | exact HpSub.nil))
    · exact ⟨by omega, fun h => absurd h (by omega)⟩
    intro k hk
    obtain ⟨hkl, hkx⟩ := hk
    obtain ⟨b, o, x, rfl, c6, hx, c0, c1, c2, c3, c4, c5⟩ := gl_read hr hkl
    have ox := hW.ok _ (List.mem_of_getElem? hx)
    by_cases hlt : k + 1 < l.length
    · obtain ⟨b', o', y, hA, _, hy0, d0, d1, d2, d3, d4, d5⟩ := gl_read hr hlt
      obtain ⟨rfl, rfl⟩ : b' = b ∧ o' = o := by simpa using hA.symm
      by_cases hyp : y.h ≤ p
      · repeat' (first | ((with_reducible apply oq_id); first | ((with_reducible apply oq_addE (k := ((k + 1 : Nat) : Int))); exact rfl; exact rfl; omega) | ((with_reducible apply oq_subE (k := ((l.length - 1 : Nat) : Int))); exact rfl; exact rfl; omega) | ((with_reducible apply oq_min2E (k := ((k + 1 : Nat) : Int))); exact rfl; exact rfl; omega) | ((with_reducible apply oq_min2E (k := ((k : Nat) : Int))); exact rfl; exact rfl; omega) | (focus ((with_reducible apply oq_indexAddrN (i := k + 1)); exact rfl; exact rfl; exact rfl; exact rfl; omega)) | (focus ((with_reducible apply oq_indexAddrN (i := k)); exact rfl; exact rfl; exact rfl; exact rfl; omega)) | ((with_reducible apply oq_leqT); exact rfl; exact rfl; omega) | ((with_reducible apply oq_leqF); exact rfl; exact rfl; omega) | ((with_reducible apply oq_lssT); exact rfl; exact rfl; omega) | ((with_reducible apply oq_lssF); exact rfl; exact rfl; omega) | ((with_reducible apply oq_gtrT); exact rfl; exact rfl; omega) | ((with_reducible apply oq_gtrF); exact rfl; exact rfl; omega) | ((with_reducible apply oq_geqT); exact rfl; exact rfl; omega) | ((with_reducible apply oq_geqF); exact rfl; exact rfl; omega) | ((with_reducible apply oq_eqlT); exact rfl; exact rfl; omega) | ((with_reducible apply oq_eqlF); exact rfl; exact rfl; omega) | ((with_reducible apply oq_neqT); exact rfl; exact rfl; omega) | ((with_reducible apply oq_neqF); exact rfl; exact rfl; omega) | (apply oq_fn; exact rfl; first | exact trivial | (refine ⟨?_, ?_⟩ <;> omega) | (refine ⟨?_, ?_, ?_⟩ <;> omega) | omega | skip) | ((with_reducible apply oq_load); exact rfl; exact rfl) | ((with_reducible apply oq_loadAgg); exact rfl; exact rfl)) | ((with_reducible apply tl_id); first | ((with_reducible apply tl_nil)) | ((with_reducible apply u_q); exact rfl; exact rfl; exact rfl; exact rfl) | ((with_reducible apply u_s0); exact rfl; exact rfl) | ((with_reducible apply u_s); exact rfl; exact rfl; exact rfl) | ((with_reducible apply u_skip); exact rfl; exact rfl; exact rfl) | ((with_reducible apply u_splitD); exact rfl; exact rfl; all_goals first | (intro hp; try (exfalso; omega)) | skip) | ((with_reducible apply u_splitN); exact rfl; exact rfl; all_goals first | (intro hp; try (exfalso; omega)) | skip) | ((with_reducible apply u_split); exact rfl; exact rfl; all_goals first | intro hp | skip)) | ((with_reducible apply gx_id); first | ((with_reducible apply v_nil)) | ((with_reducible apply v_q); exact rfl; exact rfl; exact rfl) | ((with_reducible apply v_skip); exact rfl; exact rfl; exact rfl) | ((with_reducible apply v_splitD); exact rfl; exact rfl; all_goals first | (intro hp; try (exfalso; omega)) | skip) | ((with_reducible apply v_splitN); exact rfl; exact rfl; all_goals first | (intro hp; try (exfalso; omega)) | skip) | ((with_reducible apply v_split); exact rfl; exact rfl; all_goals first | intro hp | skip)) | ((with_reducible apply os_id); first | ((with_reducible apply os_x); exact rfl) | ((with_reducible apply os_store); exact rfl; exact rfl; exact rfl; exact rfl) | ((with_reducible apply os_storeAgg); exact rfl; exact rfl; exact rfl; exact rfl; exact rfl)) | ((with_reducible apply ox_id); first | ((with_reducible apply ox_alloc); exact rfl; intro _) | ((with_reducible apply ox_box); exact rfl; exact rfl; intro _) | ((with_reducible apply ox_boxAgg); exact rfl; intro _)) | ((with_reducible apply rd_id); first | (apply Rd.own; (repeat (first | exact P0 | apply P1)); exact rfl; done) | (apply Rd.old; (first | (with_reducible assumption) | exact c0 | exact c1 | exact c2 | exact c3 | exact c4 | exact c5 | exact c6 | exact d0 | exact d1 | exact d2 | exact d3 | exact d4 | exact d5); first | exact List.not_mem_nil | exact m1 | exact m2 | exact m3 | exact m4)) | ((with_reducible apply t_id); first | ((with_reducible apply t_seq)) | (apply t_region; kernel_rfl) | (apply t_drawn; kernel_rfl; decide +kernel; try simp only [List.append_eq, List.cons_append, List.nil_append]) | ((with_reducible apply t_condT); exact rfl) | ((with_reducible apply t_condF); exact rfl) | ((with_reducible apply t_condD); exact rfl; all_goals first | (intro hp; try (exfalso; omega)) | skip) | ((with_reducible apply t_condN); exact rfl; all_goals first | (intro hp; try (exfalso; omega)) | skip) | ((with_reducible apply t_cond); exact rfl; all_goals first | intro hp | skip) | ((with_reducible apply t_ret)) | ((with_reducible apply t_skip)) | ((with_reducible apply t_exit)) | ((with_reducible apply t_block))) | with_reducible apply q_thenN | with_reducible apply q_thenR | with_reducible apply q_blockR | with_reducible apply q_blockN | with_reducible apply q_thenE | ((with_reducible apply q_blockE); exact rfl) | ((with_reducible apply q_blockO); exact rfl) | exact P0 | ((with_reducible apply P1)) | exact Rdn.zero | apply Rdn.succ | ((with_reducible apply Norm.nil); exact rfl) | ((with_reducible apply Norm.cons); exact rfl) | ((with_reducible apply end_ret)) | ((with_reducible apply end_normal)) | exact rvs_nil | ((with_reducible apply rvs_cons)) | ((with_reducible apply rv_tmp); exact rfl) | exact Nat.le_of_ble_eq_true rfl | exact (rfl : (_ : Bool) = true) | omega | (intro _ _; with_reducible apply tl_id) | (intro _; with_reducible apply tl_id) | (intro _ _; with_reducible apply al_id) | (intro _; with_reducible apply al_id))
        all_goals (refine ⟨k + 1, ⟨by omega, fun _ z hz => by rw [hy0] at hz; obtain rfl := Option.some.inj hz; exact hyp⟩, by omega, ?_, ?_⟩ <;> (try simp only [List.cons_append, List.nil_append]) <;> (repeat' (first | exact FrSub.nil | (apply FrSub.cons; exact rfl) | exact HpSub.refl _ | (apply HpSub.consE; (repeat (first | exact P0 | apply P1)); exact rfl) | exact HpSub.nil)))
      · by_cases hxp : p ≤ x.h
        · have sX := steady_pick (e := true) (p := p) hW hx (fun h y hy => by rw [hy0] at hy; obtain rfl := Option.some.inj hy; omega) (fun h => hkx h _ hx) (.inr (by omega))
          have sY := steady_pick (e := false) (p := p) hW hx (fun h y hy => by rw [hy0] at hy; obtain rfl := Option.some.inj hy; omega) (fun h => hkx h _ hx) (.inr (by omega))
          have gA := gust_at (p := p) hW hx (.inl (by omega)) (by cases k with | zero => exact .inr (fun y hy => by cases hy) | succ j => exact .inl (hkx (by omega) _ hx))
          rw [ex] at sX
          rw [ey] at sY
          simp only [partG, Prod.mk.injEq] at sX sY
          obtain ⟨sX1, sX2⟩ := sX
          obtain ⟨sY1, sY2⟩ := sY
          have u1 := pkV_in hb (show x.xlo ≤ x.xhi by omega) k
          have u2 := pkV_in hb (show x.ylo ≤ x.yhi by omega) k
          obtain ⟨gg, hgg⟩ : ∃ g, g = max x.gust x.gust := ⟨_, rfl⟩
          obtain ⟨am, ham⟩ : ∃ g, g = max ea (-gg) := ⟨_, rfl⟩
          obtain ⟨bm, hbm⟩ : ∃ g, g = max no (-gg) := ⟨_, rfl⟩
          obtain ⟨av, hav⟩ : ∃ g, g = min am gg := ⟨_, rfl⟩
          obtain ⟨bv, hbv⟩ : ∃ g, g = min bm gg := ⟨_, rfl⟩
          repeat' (first | ((with_reducible apply oq_id); first | ((with_reducible apply oq_max2E (k := gg)); exact rfl; exact rfl; omega) | ((with_reducible apply oq_max2E (k := am)); exact rfl; exact rfl; omega) | ((with_reducible apply oq_max2E (k := bm)); exact rfl; exact rfl; omega) | ((with_reducible apply oq_min2E (k := av)); exact rfl; exact rfl; omega) | ((with_reducible apply oq_min2E (k := bv)); exact rfl; exact rfl; omega) | ((with_reducible apply oq_addE (k := ((k + 1 : Nat) : Int))); exact rfl; exact rfl; omega) | ((with_reducible apply oq_subE (k := ((l.length - 1 : Nat) : Int))); exact rfl; exact rfl; omega) | ((with_reducible apply oq_min2E (k := ((k + 1 : Nat) : Int))); exact rfl; exact rfl; omega) | ((with_reducible apply oq_min2E (k := ((k : Nat) : Int))); exact rfl; exact rfl; omega) | (focus ((with_reducible apply oq_indexAddrN (i := k + 1)); exact rfl; exact rfl; exact rfl; exact rfl; omega)) | (focus ((with_reducible apply oq_indexAddrN (i := k)); exact rfl; exact rfl; exact rfl; exact rfl; omega)) | ((with_reducible apply oq_leqT); exact rfl; exact rfl; omega) | ((with_reducible apply oq_leqF); exact rfl; exact rfl; omega) | ((with_reducible apply oq_lssT); exact rfl; exact rfl; omega) | ((with_reducible apply oq_lssF); exact rfl; exact rfl; omega) | ((with_reducible apply oq_gtrT); exact rfl; exact rfl; omega) | ((with_reducible apply oq_gtrF); exact rfl; exact rfl; omega) | ((with_reducible apply oq_geqT); exact rfl; exact rfl; omega) | ((with_reducible apply oq_geqF); exact rfl; exact rfl; omega) | ((with_reducible apply oq_eqlT); exact rfl; exact rfl; omega) | ((with_reducible apply oq_eqlF); exact rfl; exact rfl; omega) | ((with_reducible apply oq_neqT); exact rfl; exact rfl; omega) | ((with_reducible apply oq_neqF); exact rfl; exact rfl; omega) | (apply oq_fn; exact rfl; first | exact trivial | (refine ⟨?_, ?_⟩ <;> omega) | (refine ⟨?_, ?_, ?_⟩ <;> omega) | omega | skip) | ((with_reducible apply oq_load); exact rfl; exact rfl) | ((with_reducible apply oq_loadAgg); exact rfl; exact rfl) | ((with_reducible apply oq_call (k := 53) (hc := Try.call53)); exact rfl; exact rfl; exact fun D w1 hw1 => pick_calls A1 n1 cc bs _ _ _ _ w1 (hq.ext hw1.ext.ext) hb (hw1.cellAt (o := 0) (by (repeat (first | exact P0 | apply P1))) rfl) (by omega) (by omega) (by omega)) | ((with_reducible apply oq_call (k := 54) (hc := Try.call54)); exact rfl; exact rfl; exact fun D w1 hw1 => HX w1) | ((with_reducible apply oq_call (k := 54) (hc := Try.call54)); exact rfl; exact rfl; exact fun D w1 hw1 => HY w1)) | ((with_reducible apply tl_id); first | ((with_reducible apply tl_nil)) | ((with_reducible apply u_q); exact rfl; exact rfl; exact rfl; exact rfl) | ((with_reducible apply u_s0); exact rfl; exact rfl) | ((with_reducible apply u_s); exact rfl; exact rfl; exact rfl) | ((with_reducible apply u_skip); exact rfl; exact rfl; exact rfl) | ((with_reducible apply u_splitD); exact rfl; exact rfl; all_goals first | (intro hp; try (exfalso; omega)) | skip) | ((with_reducible apply u_splitN); exact rfl; exact rfl; all_goals first | (intro hp; try (exfalso; omega)) | skip) | ((with_reducible apply u_split); exact rfl; exact rfl; all_goals first | intro hp | skip)) | ((with_reducible apply gx_id); first | ((with_reducible apply v_nil)) | ((with_reducible apply v_q); exact rfl; exact rfl; exact rfl) | ((with_reducible apply v_skip); exact rfl; exact rfl; exact rfl) | ((with_reducible apply v_splitD); exact rfl; exact rfl; all_goals first | (intro hp; try (exfalso; omega)) | skip) | ((with_reducible apply v_splitN); exact rfl; exact rfl; all_goals first | (intro hp; try (exfalso; omega)) | skip) | ((with_reducible apply v_split); exact rfl; exact rfl; all_goals first | intro hp | skip)) | ((with_reducible apply os_id); first | ((with_reducible apply os_x); exact rfl) | ((with_reducible apply os_store); exact rfl; exact rfl; exact rfl; exact rfl) | ((with_reducible apply os_storeAgg); exact rfl; exact rfl; exact rfl; exact rfl; exact rfl)) | ((with_reducible apply ox_id); first | ((with_reducible apply ox_alloc); exact rfl; intro _) | ((with_reducible apply ox_box); exact rfl; exact rfl; intro _) | ((with_reducible apply ox_boxAgg); exact rfl; intro _)) | ((with_reducible apply rd_id); first | (apply Rd.own; (repeat (first | exact P0 | apply P1)); exact rfl; done) | (apply Rd.old; (first | (with_reducible assumption) | exact c0 | exact c1 | exact c2 | exact c3 | exact c4 | exact c5 | exact c6 | exact d0 | exact d1 | exact d2 | exact d3 | exact d4 | exact d5); first | exact List.not_mem_nil | exact m1 | exact m2 | exact m3 | exact m4)) | ((with_reducible apply t_id); first | ((with_reducible apply t_seq)) | (apply t_region; kernel_rfl) | (apply t_drawn; kernel_rfl; decide +kernel; try simp only [List.append_eq, List.cons_append, List.nil_append]) | ((with_reducible apply t_condT); exact rfl) | ((with_reducible apply t_condF); exact rfl) | ((with_reducible apply t_condD); exact rfl; all_goals first | (intro hp; try (exfalso; omega)) | skip) | ((with_reducible apply t_condN); exact rfl; all_goals first | (intro hp; try (exfalso; omega)) | skip) | ((with_reducible apply t_cond); exact rfl; all_goals first | intro hp | skip) | ((with_reducible apply t_ret)) | ((with_reducible apply t_skip)) | ((with_reducible apply t_exit)) | ((with_reducible apply t_block))) | with_reducible apply q_thenN | with_reducible apply q_thenR | with_reducible apply q_blockR | with_reducible apply q_blockN | with_reducible apply q_thenE | ((with_reducible apply q_blockE); exact rfl) | ((with_reducible apply q_blockO); exact rfl) | exact P0 | ((with_reducible apply P1)) | exact Rdn.zero | apply Rdn.succ | ((with_reducible apply Norm.nil); exact rfl) | ((with_reducible apply Norm.cons); exact rfl) | ((with_reducible apply end_ret)) | ((with_reducible apply end_normal)) | exact rvs_nil | ((with_reducible apply rvs_cons)) | ((with_reducible apply rv_tmp); exact rfl) | exact Nat.le_of_ble_eq_true rfl | exact (rfl : (_ : Bool) = true) | omega | (intro _ _; with_reducible apply tl_id) | (intro _; with_reducible apply tl_id) | (intro _ _; with_reducible apply al_id) | (intro _; with_reducible apply al_id))
          all_goals rfl
        · have sX := steady_line (e := true) (p := p) hW hx hy0 (by omega) (by omega)
          have sY := steady_line (e := false) (p := p) hW hx hy0 (by omega) (by omega)
          rw [ex] at sX
          rw [ey] at sY
          have gA := gust_at (p := p) hW hx (.inr fun z hz => by rw [hy0] at hz; obtain rfl := Option.some.inj hz; omega) (.inl (by omega))
          have gB := gust_at (p := p) hW hy0 (.inl (by omega)) (.inr fun z hz => by
            rw [show prevG l (k + 1) = l[k]? from rfl, hx] at hz; obtain rfl := Option.some.inj hz; omega)
          have oy := hW.ok _ (List.mem_of_getElem? hy0)
          have u1 := pkV_in hb (show x.xlo ≤ x.xhi by omega) k
          have u2 := pkV_in hb (show x.ylo ≤ x.yhi by omega) k
          have u3 := pkV_in hb (show y.xlo ≤ y.xhi by omega) (k + 1)
          have u4 := pkV_in hb (show y.ylo ≤ y.yhi by omega) (k + 1)
          have LX := line_pick (a := knG true x) (b := knG true y) (p := p) (by show x.h ≤ p; omega) (by show p ≤ y.h; omega) (by show x.h < y.h; omega) u1 u3
          have LY := line_pick (a := knG false x) (b := knG false y) (p := p) (by show x.h ≤ p; omega) (by show p ≤ y.h; omega) (by show x.h < y.h; omega) u2 u4
          rw [← sX] at LX
          rw [← sY] at LY
          simp only [knG] at LX LY
          obtain ⟨D, hD⟩ : ∃ d, d = y.h - x.h := ⟨_, rfl⟩
          obtain ⟨E, hE⟩ : ∃ d, d = p - x.h := ⟨_, rfl⟩
          rw [← hD, ← hE] at LX LY
          obtain ⟨gg, hgg⟩ : ∃ g, g = max x.gust y.gust := ⟨_, rfl⟩
          obtain ⟨am, ham⟩ : ∃ g, g = max ea (-gg) := ⟨_, rfl⟩
          obtain ⟨bm, hbm⟩ : ∃ g, g = max no (-gg) := ⟨_, rfl⟩
          obtain ⟨av, hav⟩ : ∃ g, g = min am gg := ⟨_, rfl⟩
          obtain ⟨bv, hbv⟩ : ∃ g, g = min bm gg := ⟨_, rfl⟩
          have q1 := mul_abs (x := pkV bs x.xlo x.xhi k) (y := D - E) (a := 1000) (b := 10000) (by omega) (by omega)
          have q2 := mul_abs (x := pkV bs x.ylo x.yhi k) (y := D - E) (a := 1000) (b := 10000) (by omega) (by omega)
          have q3 := mul_abs (x := pkV bs y.xlo y.xhi (k + 1)) (y := E) (a := 1000) (b := 10000) (by omega) (by omega)
          have q4 := mul_abs (x := pkV bs y.ylo y.yhi (k + 1)) (y := E) (a := 1000) (b := 10000) (by omega) (by omega)
          have q5 := mul_abs (x := av) (y := D) (a := 1000) (b := 10000) (by omega) (by omega)
          have q6 := mul_abs (x := bv) (y := D) (a := 1000) (b := 10000) (by omega) (by omega)
          have q7 := mul_abs (x := G0) (y := D) (a := 1000) (b := 10000) (by omega) (by omega)
          have q8 := mul_abs (x := xl) (y := D) (a := 1000) (b := 10000) (by omega) (by omega)
          have q9 := mul_abs (x := xh) (y := D) (a := 1000) (b := 10000) (by omega) (by omega)
          have qa := mul_abs (x := yl) (y := D) (a := 1000) (b := 10000) (by omega) (by omega)
          have qb := mul_abs (x := yh) (y := D) (a := 1000) (b := 10000) (by omega) (by omega)
          have z1 := Int.mul_le_mul_of_nonneg_right (show -G0 ≤ av by omega) (show 0 ≤ D by omega)
          have z2 := Int.mul_le_mul_of_nonneg_right (show av ≤ G0 by omega) (show 0 ≤ D by omega)
          have z3 := Int.mul_le_mul_of_nonneg_right (show -G0 ≤ bv by omega) (show 0 ≤ D by omega)
          have z4 := Int.mul_le_mul_of_nonneg_right (show bv ≤ G0 by omega) (show 0 ≤ D by omega)
          rw [Int.neg_mul] at z1 z3
          have m1 := Int.sub_mul xl G0 D
          have m2 := Int.add_mul xh G0 D
          have m3 := Int.sub_mul yl G0 D
          have m4 := Int.add_mul yh G0 D
          repeat' (first | ((with_reducible apply oq_id); first | ((with_reducible apply oq_subE (k := D)); exact rfl; exact rfl; omega) | ((with_reducible apply oq_subE (k := E)); exact rfl; exact rfl; omega) | ((with_reducible apply oq_max2E (k := gg)); exact rfl; exact rfl; omega) | ((with_reducible apply oq_max2E (k := am)); exact rfl; exact rfl; omega) | ((with_reducible apply oq_max2E (k := bm)); exact rfl; exact rfl; omega) | ((with_reducible apply oq_min2E (k := av)); exact rfl; exact rfl; omega) | ((with_reducible apply oq_min2E (k := bv)); exact rfl; exact rfl; omega) | ((with_reducible apply oq_addE (k := ((k + 1 : Nat) : Int))); exact rfl; exact rfl; omega) | ((with_reducible apply oq_subE (k := ((l.length - 1 : Nat) : Int))); exact rfl; exact rfl; omega) | ((with_reducible apply oq_min2E (k := ((k + 1 : Nat) : Int))); exact rfl; exact rfl; omega) | ((with_reducible apply oq_min2E (k := ((k : Nat) : Int))); exact rfl; exact rfl; omega) | (focus ((with_reducible apply oq_indexAddrN (i := k + 1)); exact rfl; exact rfl; exact rfl; exact rfl; omega)) | (focus ((with_reducible apply oq_indexAddrN (i := k)); exact rfl; exact rfl; exact rfl; exact rfl; omega)) | ((with_reducible apply oq_leqT); exact rfl; exact rfl; omega) | ((with_reducible apply oq_leqF); exact rfl; exact rfl; omega) | ((with_reducible apply oq_lssT); exact rfl; exact rfl; omega) | ((with_reducible apply oq_lssF); exact rfl; exact rfl; omega) | ((with_reducible apply oq_gtrT); exact rfl; exact rfl; omega) | ((with_reducible apply oq_gtrF); exact rfl; exact rfl; omega) | ((with_reducible apply oq_geqT); exact rfl; exact rfl; omega) | ((with_reducible apply oq_geqF); exact rfl; exact rfl; omega) | ((with_reducible apply oq_eqlT); exact rfl; exact rfl; omega) | ((with_reducible apply oq_eqlF); exact rfl; exact rfl; omega) | ((with_reducible apply oq_neqT); exact rfl; exact rfl; omega) | ((with_reducible apply oq_neqF); exact rfl; exact rfl; omega) | (apply oq_fn; exact rfl; first | exact trivial | (refine ⟨?_, ?_⟩ <;> omega) | (refine ⟨?_, ?_, ?_⟩ <;> omega) | omega | skip) | ((with_reducible apply oq_load); exact rfl; exact rfl) | ((with_reducible apply oq_loadAgg); exact rfl; exact rfl) | ((with_reducible apply oq_call (k := 53) (hc := Try.call53)); exact rfl; exact rfl; exact fun D w1 hw1 => pick_calls A1 n1 cc bs _ _ _ _ w1 (hq.ext hw1.ext.ext) hb (hw1.cellAt (o := 0) (by (repeat (first | exact P0 | apply P1))) rfl) (by omega) (by omega) (by omega)) | ((with_reducible apply oq_call (k := 54) (hc := Try.call54)); exact rfl; exact rfl; exact fun D w1 hw1 => HX w1) | ((with_reducible apply oq_call (k := 54) (hc := Try.call54)); exact rfl; exact rfl; exact fun D w1 hw1 => HY w1)) | ((with_reducible apply tl_id); first | ((with_reducible apply tl_nil)) | ((with_reducible apply u_q); exact rfl; exact rfl; exact rfl; exact rfl) | ((with_reducible apply u_s0); exact rfl; exact rfl) | ((with_reducible apply u_s); exact rfl; exact rfl; exact rfl) | ((with_reducible apply u_skip); exact rfl; exact rfl; exact rfl) | ((with_reducible apply u_splitD); exact rfl; exact rfl; all_goals first | (intro hp; try (exfalso; omega)) | skip) | ((with_reducible apply u_splitN); exact rfl; exact rfl; all_goals first | (intro hp; try (exfalso; omega)) | skip) | ((with_reducible apply u_split); exact rfl; exact rfl; all_goals first | intro hp | skip)) | ((with_reducible apply gx_id); first | ((with_reducible apply v_nil)) | ((with_reducible apply v_q); exact rfl; exact rfl; exact rfl) | ((with_reducible apply v_skip); exact rfl; exact rfl; exact rfl) | ((with_reducible apply v_splitD); exact rfl; exact rfl; all_goals first | (intro hp; try (exfalso; omega)) | skip) | ((with_reducible apply v_splitN); exact rfl; exact rfl; all_goals first | (intro hp; try (exfalso; omega)) | skip) | ((with_reducible apply v_split); exact rfl; exact rfl; all_goals first | intro hp | skip)) | ((with_reducible apply os_id); first | ((with_reducible apply os_x); exact rfl) | ((with_reducible apply os_store); exact rfl; exact rfl; exact rfl; exact rfl) | ((with_reducible apply os_storeAgg); exact rfl; exact rfl; exact rfl; exact rfl; exact rfl)) | ((with_reducible apply ox_id); first | ((with_reducible apply ox_alloc); exact rfl; intro _) | ((with_reducible apply ox_box); exact rfl; exact rfl; intro _) | ((with_reducible apply ox_boxAgg); exact rfl; intro _)) | ((with_reducible apply rd_id); first | (apply Rd.own; (repeat (first | exact P0 | apply P1)); exact rfl; done) | (apply Rd.old; (first | (with_reducible assumption) | exact c0 | exact c1 | exact c2 | exact c3 | exact c4 | exact c5 | exact c6 | exact d0 | exact d1 | exact d2 | exact d3 | exact d4 | exact d5); first | exact List.not_mem_nil | exact m1 | exact m2 | exact m3 | exact m4)) | ((with_reducible apply t_id); first | ((with_reducible apply t_seq)) | (apply t_region; kernel_rfl) | (apply t_drawn; kernel_rfl; decide +kernel; try simp only [List.append_eq, List.cons_append, List.nil_append]) | ((with_reducible apply t_condT); exact rfl) | ((with_reducible apply t_condF); exact rfl) | ((with_reducible apply t_condD); exact rfl; all_goals first | (intro hp; try (exfalso; omega)) | skip) | ((with_reducible apply t_condN); exact rfl; all_goals first | (intro hp; try (exfalso; omega)) | skip) | ((with_reducible apply t_cond); exact rfl; all_goals first | intro hp | skip) | ((with_reducible apply t_ret)) | ((with_reducible apply t_skip)) | ((with_reducible apply t_exit)) | ((with_reducible apply t_block))) | with_reducible apply q_thenN | with_reducible apply q_thenR | with_reducible apply q_blockR | with_reducible apply q_blockN | with_reducible apply q_thenE | ((with_reducible apply q_blockE); exact rfl) | ((with_reducible apply q_blockO); exact rfl) | exact P0 | ((with_reducible apply P1)) | exact Rdn.zero | apply Rdn.succ | ((with_reducible apply Norm.nil); exact rfl) | ((with_reducible apply Norm.cons); exact rfl) | ((with_reducible apply end_ret)) | ((with_reducible apply end_normal)) | exact rvs_nil | ((with_reducible apply rvs_cons)) | ((with_reducible apply rv_tmp); exact rfl) | exact Nat.le_of_ble_eq_true rfl | exact (rfl : (_ : Bool) = true) | omega | (intro _ _; with_reducible apply tl_id) | (intro _; with_reducible apply tl_id) | (intro _ _; with_reducible apply al_id) | (intro _; with_reducible apply al_id))
          all_goals rfl
    · by_cases hxp : p ≤ x.h
      · have sX := steady_pick (e := true) (p := p) hW hx (fun h y hy => absurd h (by omega)) (fun h => hkx h _ hx) (.inl (by omega))
        have sY := steady_pick (e := false) (p := p) hW hx (fun h y hy => absurd h (by omega)) (fun h => hkx h _ hx) (.inl (by omega))
        have gA := gust_at (p := p) hW hx (.inr fun y hy => by rw [List.getElem?_eq_none (by omega)] at hy; cases hy) (by cases k with | zero => exact .inr (fun y hy => by cases hy) | succ j => exact .inl (hkx (by omega) _ hx))
        rw [ex] at sX
        rw [ey] at sY
        simp only [partG, Prod.mk.injEq] at sX sY
        obtain ⟨sX1, sX2⟩ := sX
        obtain ⟨sY1, sY2⟩ := sY
        have u1 := pkV_in hb (show x.xlo ≤ x.xhi by omega) k
        have u2 := pkV_in hb (show x.ylo ≤ x.yhi by omega) k
        obtain ⟨gg, hgg⟩ : ∃ g, g = max x.gust x.gust := ⟨_, rfl⟩
        obtain ⟨am, ham⟩ : ∃ g, g = max ea (-gg) := ⟨_, rfl⟩
        obtain ⟨bm, hbm⟩ : ∃ g, g = max no (-gg) := ⟨_, rfl⟩
        obtain ⟨av, hav⟩ : ∃ g, g = min am gg := ⟨_, rfl⟩
        obtain ⟨bv, hbv⟩ : ∃ g, g = min bm gg := ⟨_, rfl⟩
        repeat' (first | ((with_reducible apply oq_id); first | ((with_reducible apply oq_max2E (k := gg)); exact rfl; exact rfl; omega) | ((with_reducible apply oq_max2E (k := am)); exact rfl; exact rfl; omega) | ((with_reducible apply oq_max2E (k := bm)); exact rfl; exact rfl; omega) | ((with_reducible apply oq_min2E (k := av)); exact rfl; exact rfl; omega) | ((with_reducible apply oq_min2E (k := bv)); exact rfl; exact rfl; omega) | ((with_reducible apply oq_addE (k := ((k + 1 : Nat) : Int))); exact rfl; exact rfl; omega) | ((with_reducible apply oq_subE (k := ((l.length - 1 : Nat) : Int))); exact rfl; exact rfl; omega) | ((with_reducible apply oq_min2E (k := ((k + 1 : Nat) : Int))); exact rfl; exact rfl; omega) | ((with_reducible apply oq_min2E (k := ((k : Nat) : Int))); exact rfl; exact rfl; omega) | (focus ((with_reducible apply oq_indexAddrN (i := k + 1)); exact rfl; exact rfl; exact rfl; exact rfl; omega)) | (focus ((with_reducible apply oq_indexAddrN (i := k)); exact rfl; exact rfl; exact rfl; exact rfl; omega)) | ((with_reducible apply oq_leqT); exact rfl; exact rfl; omega) | ((with_reducible apply oq_leqF); exact rfl; exact rfl; omega) | ((with_reducible apply oq_lssT); exact rfl; exact rfl; omega) | ((with_reducible apply oq_lssF); exact rfl; exact rfl; omega) | ((with_reducible apply oq_gtrT); exact rfl; exact rfl; omega) | ((with_reducible apply oq_gtrF); exact rfl; exact rfl; omega) | ((with_reducible apply oq_geqT); exact rfl; exact rfl; omega) | ((with_reducible apply oq_geqF); exact rfl; exact rfl; omega) | ((with_reducible apply oq_eqlT); exact rfl; exact rfl; omega) | ((with_reducible apply oq_eqlF); exact rfl; exact rfl; omega) | ((with_reducible apply oq_neqT); exact rfl; exact rfl; omega) | ((with_reducible apply oq_neqF); exact rfl; exact rfl; omega) | (apply oq_fn; exact rfl; first | exact trivial | (refine ⟨?_, ?_⟩ <;> omega) | (refine ⟨?_, ?_, ?_⟩ <;> omega) | omega | skip) | ((with_reducible apply oq_load); exact rfl; exact rfl) | ((with_reducible apply oq_loadAgg); exact rfl; exact rfl) | ((with_reducible apply oq_call (k := 53) (hc := Try.call53)); exact rfl; exact rfl; exact fun D w1 hw1 => pick_calls A1 n1 cc bs _ _ _ _ w1 (hq.ext hw1.ext.ext) hb (hw1.cellAt (o := 0) (by (repeat (first | exact P0 | apply P1))) rfl) (by omega) (by omega) (by omega)) | ((with_reducible apply oq_call (k := 54) (hc := Try.call54)); exact rfl; exact rfl; exact fun D w1 hw1 => HX w1) | ((with_reducible apply oq_call (k := 54) (hc := Try.call54)); exact rfl; exact rfl; exact fun D w1 hw1 => HY w1)) | ((with_reducible apply tl_id); first | ((with_reducible apply tl_nil)) | ((with_reducible apply u_q); exact rfl; exact rfl; exact rfl; exact rfl) | ((with_reducible apply u_s0); exact rfl; exact rfl) | ((with_reducible apply u_s); exact rfl; exact rfl; exact rfl) | ((with_reducible apply u_skip); exact rfl; exact rfl; exact rfl) | ((with_reducible apply u_splitD); exact rfl; exact rfl; all_goals first | (intro hp; try (exfalso; omega)) | skip) | ((with_reducible apply u_splitN); exact rfl; exact rfl; all_goals first | (intro hp; try (exfalso; omega)) | skip) | ((with_reducible apply u_split); exact rfl; exact rfl; all_goals first | intro hp | skip)) | ((with_reducible apply gx_id); first | ((with_reducible apply v_nil)) | ((with_reducible apply v_q); exact rfl; exact rfl; exact rfl) | ((with_reducible apply v_skip); exact rfl; exact rfl; exact rfl) | ((with_reducible apply v_splitD); exact rfl; exact rfl; all_goals first | (intro hp; try (exfalso; omega)) | skip) | ((with_reducible apply v_splitN); exact rfl; exact rfl; all_goals first | (intro hp; try (exfalso; omega)) | skip) | ((with_reducible apply v_split); exact rfl; exact rfl; all_goals first | intro hp | skip)) | ((with_reducible apply os_id); first | ((with_reducible apply os_x); exact rfl) | ((with_reducible apply os_store); exact rfl; exact rfl; exact rfl; exact rfl) | ((with_reducible apply os_storeAgg); exact rfl; exact rfl; exact rfl; exact rfl; exact rfl)) | ((with_reducible apply ox_id); first | ((with_reducible apply ox_alloc); exact rfl; intro _) | ((with_reducible apply ox_box); exact rfl; exact rfl; intro _) | ((with_reducible apply ox_boxAgg); exact rfl; intro _)) | ((with_reducible apply rd_id); first | (apply Rd.own; (repeat (first | exact P0 | apply P1)); exact rfl; done) | (apply Rd.old; (first | (with_reducible assumption) | exact c0 | exact c1 | exact c2 | exact c3 | exact c4 | exact c5 | exact c6 | exact d0 | exact d1 | exact d2 | exact d3 | exact d4 | exact d5); first | exact List.not_mem_nil | exact m1 | exact m2 | exact m3 | exact m4)) | ((with_reducible apply t_id); first | ((with_reducible apply t_seq)) | (apply t_region; kernel_rfl) | (apply t_drawn; kernel_rfl; decide +kernel; try simp only [List.append_eq, List.cons_append, List.nil_append]) | ((with_reducible apply t_condT); exact rfl) | ((with_reducible apply t_condF); exact rfl) | ((with_reducible apply t_condD); exact rfl; all_goals first | (intro hp; try (exfalso; omega)) | skip) | ((with_reducible apply t_condN); exact rfl; all_goals first | (intro hp; try (exfalso; omega)) | skip) | ((with_reducible apply t_cond); exact rfl; all_goals first | intro hp | skip) | ((with_reducible apply t_ret)) | ((with_reducible apply t_skip)) | ((with_reducible apply t_exit)) | ((with_reducible apply t_block))) | with_reducible apply q_thenN | with_reducible apply q_thenR | with_reducible apply q_blockR | with_reducible apply q_blockN | with_reducible apply q_thenE | ((with_reducible apply q_blockE); exact rfl) | ((with_reducible apply q_blockO); exact rfl) | exact P0 | ((with_reducible apply P1)) | exact Rdn.zero | apply Rdn.succ | ((with_reducible apply Norm.nil); exact rfl) | ((with_reducible apply Norm.cons); exact rfl) | ((with_reducible apply end_ret)) | ((with_reducible apply end_normal)) | exact rvs_nil | ((with_reducible apply rvs_cons)) | ((with_reducible apply rv_tmp); exact rfl) | exact Nat.le_of_ble_eq_true rfl | exact (rfl : (_ : Bool) = true) | omega | (intro _ _; with_reducible apply tl_id) | (intro _; with_reducible apply tl_id) | (intro _ _; with_reducible apply al_id) | (intro _; with_reducible apply al_id))
        all_goals rfl
      · have sX := steady_pick (e := true) (p := p) hW hx (fun h y hy => absurd h (by omega)) (fun h => hkx h _ hx) (.inl (by omega))
        have sY := steady_pick (e := false) (p := p) hW hx (fun h y hy => absurd h (by omega)) (fun h => hkx h _ hx) (.inl (by omega))
        have gA := gust_at (p := p) hW hx (.inr fun y hy => by rw [List.getElem?_eq_none (by omega)] at hy; cases hy) (by cases k with | zero => exact .inr (fun y hy => by cases hy) | succ j => exact .inl (hkx (by omega) _ hx))
        rw [ex] at sX
        rw [ey] at sY
        simp only [partG, Prod.mk.injEq] at sX sY
        obtain ⟨sX1, sX2⟩ := sX
        obtain ⟨sY1, sY2⟩ := sY
        have u1 := pkV_in hb (show x.xlo ≤ x.xhi by omega) k
        have u2 := pkV_in hb (show x.ylo ≤ x.yhi by omega) k
        obtain ⟨gg, hgg⟩ : ∃ g, g = max x.gust x.gust := ⟨_, rfl⟩
        obtain ⟨am, ham⟩ : ∃ g, g = max ea (-gg) := ⟨_, rfl⟩
        obtain ⟨bm, hbm⟩ : ∃ g, g = max no (-gg) := ⟨_, rfl⟩
        obtain ⟨av, hav⟩ : ∃ g, g = min am gg := ⟨_, rfl⟩
        obtain ⟨bv, hbv⟩ : ∃ g, g = min bm gg := ⟨_, rfl⟩
        repeat' (first | ((with_reducible apply oq_id); first | ((with_reducible apply oq_max2E (k := gg)); exact rfl; exact rfl; omega) | ((with_reducible apply oq_max2E (k := am)); exact rfl; exact rfl; omega) | ((with_reducible apply oq_max2E (k := bm)); exact rfl; exact rfl; omega) | ((with_reducible apply oq_min2E (k := av)); exact rfl; exact rfl; omega) | ((with_reducible apply oq_min2E (k := bv)); exact rfl; exact rfl; omega) | ((with_reducible apply oq_addE (k := ((k + 1 : Nat) : Int))); exact rfl; exact rfl; omega) | ((with_reducible apply oq_subE (k := ((l.length - 1 : Nat) : Int))); exact rfl; exact rfl; omega) | ((with_reducible apply oq_min2E (k := ((k + 1 : Nat) : Int))); exact rfl; exact rfl; omega) | ((with_reducible apply oq_min2E (k := ((k : Nat) : Int))); exact rfl; exact rfl; omega) | (focus ((with_reducible apply oq_indexAddrN (i := k + 1)); exact rfl; exact rfl; exact rfl; exact rfl; omega)) | (focus ((with_reducible apply oq_indexAddrN (i := k)); exact rfl; exact rfl; exact rfl; exact rfl; omega)) | ((with_reducible apply oq_leqT); exact rfl; exact rfl; omega) | ((with_reducible apply oq_leqF); exact rfl; exact rfl; omega) | ((with_reducible apply oq_lssT); exact rfl; exact rfl; omega) | ((with_reducible apply oq_lssF); exact rfl; exact rfl; omega) | ((with_reducible apply oq_gtrT); exact rfl; exact rfl; omega) | ((with_reducible apply oq_gtrF); exact rfl; exact rfl; omega) | ((with_reducible apply oq_geqT); exact rfl; exact rfl; omega) | ((with_reducible apply oq_geqF); exact rfl; exact rfl; omega) | ((with_reducible apply oq_eqlT); exact rfl; exact rfl; omega) | ((with_reducible apply oq_eqlF); exact rfl; exact rfl; omega) | ((with_reducible apply oq_neqT); exact rfl; exact rfl; omega) | ((with_reducible apply oq_neqF); exact rfl; exact rfl; omega) | (apply oq_fn; exact rfl; first | exact trivial | (refine ⟨?_, ?_⟩ <;> omega) | (refine ⟨?_, ?_, ?_⟩ <;> omega) | omega | skip) | ((with_reducible apply oq_load); exact rfl; exact rfl) | ((with_reducible apply oq_loadAgg); exact rfl; exact rfl) | ((with_reducible apply oq_call (k := 53) (hc := Try.call53)); exact rfl; exact rfl; exact fun D w1 hw1 => pick_calls A1 n1 cc bs _ _ _ _ w1 (hq.ext hw1.ext.ext) hb (hw1.cellAt (o := 0) (by (repeat (first | exact P0 | apply P1))) rfl) (by omega) (by omega) (by omega)) | ((with_reducible apply oq_call (k := 54) (hc := Try.call54)); exact rfl; exact rfl; exact fun D w1 hw1 => HX w1) | ((with_reducible apply oq_call (k := 54) (hc := Try.call54)); exact rfl; exact rfl; exact fun D w1 hw1 => HY w1)) | ((with_reducible apply tl_id); first | ((with_reducible apply tl_nil)) | ((with_reducible apply u_q); exact rfl; exact rfl; exact rfl; exact rfl) | ((with_reducible apply u_s0); exact rfl; exact rfl) | ((with_reducible apply u_s); exact rfl; exact rfl; exact rfl) | ((with_reducible apply u_skip); exact rfl; exact rfl; exact rfl) | ((with_reducible apply u_splitD); exact rfl; exact rfl; all_goals first | (intro hp; try (exfalso; omega)) | skip) | ((with_reducible apply u_splitN); exact rfl; exact rfl; all_goals first | (intro hp; try (exfalso; omega)) | skip) | ((with_reducible apply u_split); exact rfl; exact rfl; all_goals first | intro hp | skip)) | ((with_reducible apply gx_id); first | ((with_reducible apply v_nil)) | ((with_reducible apply v_q); exact rfl; exact rfl; exact rfl) | ((with_reducible apply v_skip); exact rfl; exact rfl; exact rfl) | ((with_reducible apply v_splitD); exact rfl; exact rfl; all_goals first | (intro hp; try (exfalso; omega)) | skip) | ((with_reducible apply v_splitN); exact rfl; exact rfl; all_goals first | (intro hp; try (exfalso; omega)) | skip) | ((with_reducible apply v_split); exact rfl; exact rfl; all_goals first | intro hp | skip)) | ((with_reducible apply os_id); first | ((with_reducible apply os_x); exact rfl) | ((with_reducible apply os_store); exact rfl; exact rfl; exact rfl; exact rfl) | ((with_reducible apply os_storeAgg); exact rfl; exact rfl; exact rfl; exact rfl; exact rfl)) | ((with_reducible apply ox_id); first | ((with_reducible apply ox_alloc); exact rfl; intro _) | ((with_reducible apply ox_box); exact rfl; exact rfl; intro _) | ((with_reducible apply ox_boxAgg); exact rfl; intro _)) | ((with_reducible apply rd_id); first | (apply Rd.own; (repeat (first | exact P0 | apply P1)); exact rfl; done) | (apply Rd.old; (first | (with_reducible assumption) | exact c0 | exact c1 | exact c2 | exact c3 | exact c4 | exact c5 | exact c6 | exact d0 | exact d1 | exact d2 | exact d3 | exact d4 | exact d5); first | exact List.not_mem_nil | exact m1 | exact m2 | exact m3 | exact m4)) | ((with_reducible apply t_id); first | ((with_reducible apply t_seq)) | (apply t_region; kernel_rfl) | (apply t_drawn; kernel_rfl; decide +kernel; try simp only [List.append_eq, List.cons_append, List.nil_append]) | ((with_reducible apply t_condT); exact rfl) | ((with_reducible apply t_condF); exact rfl) | ((with_reducible apply t_condD); exact rfl; all_goals first | (intro hp; try (exfalso; omega)) | skip) | ((with_reducible apply t_condN); exact rfl; all_goals first | (intro hp; try (exfalso; omega)) | skip) | ((with_reducible apply t_cond); exact rfl; all_goals first | intro hp | skip) | ((with_reducible apply t_ret)) | ((with_reducible apply t_skip)) | ((with_reducible apply t_exit)) | ((with_reducible apply t_block))) | with_reducible apply q_thenN | with_reducible apply q_thenR | with_reducible apply q_blockR | with_reducible apply q_blockN | with_reducible apply q_thenE | ((with_reducible apply q_blockE); exact rfl) | ((with_reducible apply q_blockO); exact rfl) | exact P0 | ((with_reducible apply P1)) | exact Rdn.zero | apply Rdn.succ | ((with_reducible apply Norm.nil); exact rfl) | ((with_reducible apply Norm.cons); exact rfl) | ((with_reducible apply end_ret)) | ((with_reducible apply end_normal)) | exact rvs_nil | ((with_reducible apply rvs_cons)) | ((with_reducible apply rv_tmp); exact rfl) | exact Nat.le_of_ble_eq_true rfl | exact (rfl : (_ : Bool) = true) | omega | (intro _ _; with_reducible apply tl_id) | (intro _; with_reducible apply tl_id) | (intro _ _; with_reducible apply al_id) | (intro _; with_reducible apply al_id))
        all_goals rfl
  · refine enterQ (c := cx w 299) Try.func13 rfl rfl rfl rfl ?_
    repeat' (first | ((with_reducible apply oq_id); first | ((with_reducible apply oq_leqT); exact rfl; exact rfl; omega) | ((with_reducible apply oq_leqF); exact rfl; exact rfl; omega) | ((with_reducible apply oq_lssT); exact rfl; exact rfl; omega) | ((with_reducible apply oq_lssF); exact rfl; exact rfl; omega) | ((with_reducible apply oq_gtrT); exact rfl; exact rfl; omega) | ((with_reducible apply oq_gtrF); exact rfl; exact rfl; omega) | ((with_reducible apply oq_geqT); exact rfl; exact rfl; omega) | ((with_reducible apply oq_geqF); exact rfl; exact rfl; omega) | ((with_reducible apply oq_eqlT); exact rfl; exact rfl; omega) | ((with_reducible apply oq_eqlF); exact rfl; exact rfl; omega) | ((with_reducible apply oq_neqT); exact rfl; exact rfl; omega) | ((with_reducible apply oq_neqF); exact rfl; exact rfl; omega) | (apply oq_fn; exact rfl; first | exact trivial | (refine ⟨?_, ?_⟩ <;> omega) | (refine ⟨?_, ?_, ?_⟩ <;> omega) | omega | skip) | ((with_reducible apply oq_load); exact rfl; exact rfl) | ((with_reducible apply oq_loadAgg); exact rfl; exact rfl) | ((with_reducible apply oq_call (k := 48) (hc := Try.call48)); exact rfl; exact rfl; exact fun D w1 hw1 => alive_calls w1) | ((with_reducible apply oq_call (k := 27) (hc := Try.call27)); exact rfl; exact rfl; exact fun D w1 hw1 => greatS_calls _ w1)) | ((with_reducible apply tl_id); first | ((with_reducible apply tl_nil)) | ((with_reducible apply u_q); exact rfl; exact rfl; exact rfl; exact rfl) | ((with_reducible apply u_s0); exact rfl; exact rfl) | ((with_reducible apply u_s); exact rfl; exact rfl; exact rfl) | ((with_reducible apply u_skip); exact rfl; exact rfl; exact rfl) | ((with_reducible apply u_splitD); exact rfl; exact rfl; all_goals first | (intro hp; try (exfalso; omega)) | skip) | ((with_reducible apply u_splitN); exact rfl; exact rfl; all_goals first | (intro hp; try (exfalso; omega)) | skip) | ((with_reducible apply u_split); exact rfl; exact rfl; all_goals first | intro hp | skip)) | ((with_reducible apply gx_id); first | ((with_reducible apply v_nil)) | ((with_reducible apply v_q); exact rfl; exact rfl; exact rfl) | ((with_reducible apply v_skip); exact rfl; exact rfl; exact rfl) | ((with_reducible apply v_splitD); exact rfl; exact rfl; all_goals first | (intro hp; try (exfalso; omega)) | skip) | ((with_reducible apply v_splitN); exact rfl; exact rfl; all_goals first | (intro hp; try (exfalso; omega)) | skip) | ((with_reducible apply v_split); exact rfl; exact rfl; all_goals first | intro hp | skip)) | ((with_reducible apply os_id); first | ((with_reducible apply os_x); exact rfl) | ((with_reducible apply os_store); exact rfl; exact rfl; exact rfl; exact rfl) | ((with_reducible apply os_storeAgg); exact rfl; exact rfl; exact rfl; exact rfl; exact rfl)) | ((with_reducible apply ox_id); first | ((with_reducible apply ox_alloc); exact rfl; intro _) | ((with_reducible apply ox_box); exact rfl; exact rfl; intro _) | ((with_reducible apply ox_boxAgg); exact rfl; intro _)) | ((with_reducible apply rd_id); first | (apply Rd.own; (repeat (first | exact P0 | apply P1)); exact rfl; done) | (apply Rd.old; (first | (with_reducible assumption) | exact c0 | exact c1 | exact c2 | exact c3 | exact c4 | exact c5 | exact c6 | exact d0 | exact d1 | exact d2 | exact d3 | exact d4 | exact d5); first | exact List.not_mem_nil | exact m1 | exact m2 | exact m3 | exact m4)) | ((with_reducible apply t_id); first | ((with_reducible apply t_seq)) | (apply t_region; kernel_rfl) | (apply t_drawn; kernel_rfl; decide +kernel; try simp only [List.append_eq, List.cons_append, List.nil_append]) | ((with_reducible apply t_condT); exact rfl) | ((with_reducible apply t_condF); exact rfl) | ((with_reducible apply t_condD); exact rfl; all_goals first | (intro hp; try (exfalso; omega)) | skip) | ((with_reducible apply t_condN); exact rfl; all_goals first | (intro hp; try (exfalso; omega)) | skip) | ((with_reducible apply t_cond); exact rfl; all_goals first | intro hp | skip) | ((with_reducible apply t_ret)) | ((with_reducible apply t_skip)) | ((with_reducible apply t_exit)) | ((with_reducible apply t_block))) | with_reducible apply q_thenN | with_reducible apply q_thenR | with_reducible apply q_blockR | with_reducible apply q_blockN | with_reducible apply q_thenE | ((with_reducible apply q_blockE); exact rfl) | ((with_reducible apply q_blockO); exact rfl) | exact P0 | ((with_reducible apply P1)) | exact Rdn.zero | apply Rdn.succ | ((with_reducible apply Norm.nil); exact rfl) | ((with_reducible apply Norm.cons); exact rfl) | ((with_reducible apply end_ret)) | ((with_reducible apply end_normal)) | exact rvs_nil | ((with_reducible apply rvs_cons)) | ((with_reducible apply rv_tmp); exact rfl) | exact Nat.le_of_ble_eq_true rfl | exact (rfl : (_ : Bool) = true) | omega | (intro _ _; with_reducible apply tl_id) | (intro _; with_reducible apply tl_id) | (intro _ _; with_reducible apply al_id) | (intro _; with_reducible apply al_id))
    all_goals rfl

end Go.Proofs.Ytalidommelefaaa
