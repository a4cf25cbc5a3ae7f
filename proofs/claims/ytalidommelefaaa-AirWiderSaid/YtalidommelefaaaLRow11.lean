/- What the statement computes, walked. -/
import Derived.Test.YtalidommelefaaaPkM
import Derived.Test.YtalidommelefaaaPkL
/- Wider soundings are not settled to less: plain laws. -/
namespace Go.Proofs.Ytalidommelefaaa
set_option linter.unusedVariables false
set_option linter.unusedSimpArgs false
theorem ediv_cross {a b c d : Int} (hb : 0 < b) (hd : 0 < d) (h : a * d ≤ c * b) : a / b ≤ c / d := by
  refine Int.le_ediv_of_mul_le hd ?_
  refine Int.le_of_mul_le_mul_right ?_ hb
  have h1 : a / b * b ≤ a := Int.ediv_mul_le a (Int.ne_of_gt hb)
  have h2 : a / b * b * d ≤ a * d := Int.mul_le_mul_of_nonneg_right h1 (by omega)
  have h3 : a / b * d * b = a / b * b * d := by ac_rfl
  omega
theorem ceil_cross {a b c d : Int} (hb : 0 < b) (hd : 0 < d) (h : a * d ≤ c * b) : (a + b - 1) / b ≤ (c + d - 1) / d := by
  refine Int.lt_add_one_iff.1 (Int.ediv_lt_of_lt_mul hb ?_)
  have h1 := cd_le (a := c) hd
  generalize (c + d - 1) / d = r at *
  have h2 : c * b ≤ r * d * b := Int.mul_le_mul_of_nonneg_right h1 (by omega)
  have h3 : a * d ≤ (r * b) * d := by
    have : r * d * b = r * b * d := by ac_rfl
    omega
  have h4 : a ≤ r * b := Int.le_of_mul_le_mul_right h3 hd
  rw [Int.add_mul, Int.one_mul]
  omega
theorem rise_wide {p t u : Int × Int} {c : Int} (hg : GapOk c t) (hu : GapOk c u) (h1 : u.1 ≤ t.1) (h2 : t.2 ≤ u.2) (p1 : 0 ≤ p.1) (p2 : 0 ≤ p.2) : SIn (riseV p c t) (riseV p c u) := by
  obtain ⟨c0, c1, t0, t1, t2⟩ := hg
  obtain ⟨_, _, u0, u1, u2⟩ := hu
  unfold riseV
  have hs : 0 ≤ 341632 * c := by omega
  generalize 341632 * c = s at *
  generalize ha : 1000000 * t.1 = a at *
  generalize hb : 1000000 * t.2 = b at *
  generalize ha' : 1000000 * u.1 = a' at *
  generalize hb' : 1000000 * u.2 = b' at *
  refine ⟨ediv_cross (by omega) (by omega) ?_, ?_⟩
  · -- p1 (a' - s) a ≤ p1 (a - s) a'
    have e1 : (a' - s) * a ≤ (a - s) * a' := by
      rw [Int.sub_mul, Int.sub_mul]
      have x : a' * a = a * a' := Int.mul_comm ..
      have y : s * a' ≤ s * a := Int.mul_le_mul_of_nonneg_left (by omega) hs
      omega
    have := Int.mul_le_mul_of_nonneg_left e1 p1
    rw [Int.mul_assoc, Int.mul_assoc]
    exact this
  · have e1 : b * (b' + s) ≤ b' * (b + s) := by
      rw [Int.mul_add, Int.mul_add]
      have x : b * b' = b' * b := Int.mul_comm ..
      have y : b * s ≤ b' * s := Int.mul_le_mul_of_nonneg_right (by omega) hs
      omega
    have k := ceil_cross (a := p.2 * b) (b := b + s) (c := p.2 * b') (d := b' + s) (by omega) (by omega) (by
      have := Int.mul_le_mul_of_nonneg_left e1 p2
      rw [Int.mul_assoc, Int.mul_assoc]
      exact this)
    simp only
    rw [show p.2 * b + b + s - 1 = p.2 * b + (b + s) - 1 by omega, show p.2 * b' + b' + s - 1 = p.2 * b' + (b' + s) - 1 by omega]
    exact k
theorem sink_wide {p t u : Int × Int} {c : Int} (hg : GapOk c t) (hu : GapOk c u) (h1 : u.1 ≤ t.1) (h2 : t.2 ≤ u.2) (p1 : 0 ≤ p.1) (p2 : 0 ≤ p.2) : SIn (sinkV p c t) (sinkV p c u) := by
  obtain ⟨c0, c1, t0, t1, t2⟩ := hg
  obtain ⟨_, _, u0, u1, u2⟩ := hu
  unfold sinkV
  have hs : 0 ≤ 341632 * c := by omega
  have hs2 : 341632 * c ≤ 683264000 := by omega
  generalize 341632 * c = s at *
  generalize ha : 1000000 * t.1 = a at *
  generalize hb : 1000000 * t.2 = b at *
  generalize ha' : 1000000 * u.1 = a' at *
  generalize hb' : 1000000 * u.2 = b' at *
  refine ⟨ediv_cross (by omega) (by omega) ?_, ?_⟩
  · have e1 : (b' + s) * b ≤ (b + s) * b' := by
      rw [Int.add_mul, Int.add_mul]
      have x : b' * b = b * b' := Int.mul_comm ..
      have y : s * b ≤ s * b' := Int.mul_le_mul_of_nonneg_left (by omega) hs
      omega
    have := Int.mul_le_mul_of_nonneg_left e1 p1
    rw [Int.mul_assoc, Int.mul_assoc]
    exact this
  · have e1 : a * (a' - s) ≤ a' * (a - s) := by
      rw [Int.mul_sub, Int.mul_sub]
      have x : a * a' = a' * a := Int.mul_comm ..
      have y : a' * s ≤ a * s := Int.mul_le_mul_of_nonneg_right (by omega) hs
      omega
    have k := ceil_cross (a := p.2 * a) (b := a - s) (c := p.2 * a') (d := a' - s) (by omega) (by omega) (by
      have := Int.mul_le_mul_of_nonneg_left e1 p2
      rw [Int.mul_assoc, Int.mul_assoc]
      exact this)
    simp only
    rw [show p.2 * a + a - s - 1 = p.2 * a + (a - s) - 1 by omega, show p.2 * a' + a' - s - 1 = p.2 * a' + (a' - s) - 1 by omega]
    exact k
/-- The second list is as wide as the first one, or wider. -/
inductive Wd : List Lv → List Lv → Prop
  | nil : Wd [] []
  | cons {x y : Lv} {l m : List Lv} (h : x.h = y.h ∧ y.plo ≤ x.plo ∧ x.phi ≤ y.phi ∧ y.tlo ≤ x.tlo ∧ x.thi ≤ y.thi) (k : Wd l m) : Wd (x :: l) (y :: m)
theorem wd_of : ∀ {l m : List Lv}, l.length = m.length → (∀ (i : Nat) (x y : Lv), l[i]? = some x → m[i]? = some y → x.h = y.h ∧ y.plo ≤ x.plo ∧ x.phi ≤ y.phi ∧ y.tlo ≤ x.tlo ∧ x.thi ≤ y.thi) → Wd l m
  | [], [], _, _ => .nil
  | [], _ :: _, h, _ => by simp at h
  | _ :: _, [], h, _ => by simp at h
  | x :: l, y :: m, hl, h => .cons (h 0 x y rfl rfl) (wd_of (by simpa using hl) fun i a b h1 h2 => h (i + 1) a b (by simpa using h1) (by simpa using h2))
/-- A list's pressures, with another one's temperatures. -/
def mixL : List Lv → List Lv → List Lv
  | x :: l, y :: m => y.put x.press :: mixL l m
  | _, _ => []
theorem mixL_at : ∀ {l m : List Lv} {i : Nat} {x y : Lv}, l[i]? = some x → m[i]? = some y → (mixL l m)[i]? = some (y.put x.press)
  | [], _, i, x, y, h, _ => by simp at h
  | _ :: _, [], i, x, y, _, h => by simp at h
  | a :: l, b :: m, 0, x, y, h, k => by
    simp at h k
    subst h k
    rfl
  | a :: l, b :: m, i + 1, x, y, h, k => mixL_at (l := l) (m := m) (by simpa using h) (by simpa using k)
theorem mix_fix {c m : List Lv} (hw : Wd c m) (hc : Ch c) (hf : Fix c) (hm : Ch m) : Ch (mixL c m) ∧ Fix (mixL c m) ∧ Tt (mixL c m) m := by
  induction hw with
  | nil => exact ⟨.nil, .nil, .nil⟩
  | @cons x y l m h k ih =>
    have hp := hc.head
    cases k with
    | nil => exact ⟨.one hp, .one _, .cons ⟨rfl, rfl, rfl, h.2.1, h.2.2.1⟩ .nil⟩
    | @cons x2 y2 l m h' k' =>
      cases hc with
      | cons hx g kc =>
      cases hm with
      | cons hy g' km =>
      cases hf with
      | cons f1 f2 kf =>
        obtain ⟨i1, i2, i3⟩ := ih kc kf km
        have e := upI_eq (a := y) (a' := y.put x.press) (b := y2) (b' := y2.put x2.press) rfl rfl rfl rfl rfl rfl
        have ec : x2.h - x.h = y2.h - y.h := by omega
        have p2 := kc.head
        have gw : (gapT y y2).1 ≤ (gapT x x2).1 ∧ (gapT x x2).2 ≤ (gapT y y2).2 := by
          unfold gapT hullS Lv.temp
          simp only
          omega
        rw [ec] at g
        refine ⟨.cons hp (by rw [e.1, e.2]; exact g') i1, .cons ?_ ?_ i2, .cons ⟨rfl, rfl, rfl, h.2.1, h.2.2.1⟩ i3⟩
        · unfold upI
          rw [e.1, e.2]
          unfold upI at f1
          rw [ec] at f1
          exact f1.trans (rise_wide g g' gw.1 gw.2 hp.1 hp.2)
        · unfold dnI
          rw [e.1, e.2]
          unfold dnI at f2
          rw [ec] at f2
          exact f2.trans (sink_wide g g' gw.1 gw.2 p2.1 p2.2)
/-- What is settled of the narrower sounding is in what is settled of the wider one. -/
theorem wider_at {l m : List Lv} (hs : Snd l) (hm : Snd m) (hl : l.length = m.length) (hw : ∀ (i : Nat) (x y : Lv), l[i]? = some x → m[i]? = some y → x.h = y.h ∧ y.plo ≤ x.plo ∧ x.phi ≤ y.phi ∧ y.tlo ≤ x.tlo ∧ x.thi ≤ y.thi)
    {i : Nat} {x y : Lv} (hx : (setl l)[i]? = some x) (hy : (setl m)[i]? = some y) : y.plo ≤ x.plo ∧ x.phi ≤ y.phi := by
  have hi : i < (setl l).length := (List.getElem?_eq_some_iff.1 hx).1
  rw [setl_len] at hi
  have hwd : Wd (setl l) m := wd_of (by rw [setl_len]; exact hl) fun j a b ha hb => by
    have hj : j < l.length := by have := (List.getElem?_eq_some_iff.1 ha).1; rw [setl_len] at this; exact this
    have hz : l[j]? = some l[j] := List.getElem?_eq_getElem hj
    have k1 := settled_at hs ha hz
    have k2 := hw j _ b hz hb
    omega
  obtain ⟨h1, h2, h3⟩ := mix_fix hwd hs.settles.1 hs.settles.2.1 hm.ch
  have hmi : m[i]? = some m[i] := List.getElem?_eq_getElem (by omega)
  have := (setl_least h1 h2 h3).get (mixL_at hx hmi) hy
  exact this.2.2.2
theorem wider_unfit {l m : List Lv} (hs : Snd l) (hm : Snd m) (hl : l.length = m.length) (hw : ∀ (i : Nat) (x y : Lv), l[i]? = some x → m[i]? = some y → x.h = y.h ∧ y.plo ≤ x.plo ∧ x.phi ≤ y.phi ∧ y.tlo ≤ x.tlo ∧ x.thi ≤ y.thi) (hu : unfit l = false) : unfit m = false := by
  have hb : ∀ y ∈ setl m, badL y = false := fun y hy => by
    obtain ⟨i, hi, rfl⟩ := List.getElem_of_mem hy
    have hi' : i < (setl l).length := by rw [setl_len] at hi ⊢; omega
    have k := wider_at hs hm hl hw (List.getElem?_eq_getElem hi') (List.getElem?_eq_getElem hi)
    have f := unfit_no hu _ (List.getElem_mem hi')
    unfold badL
    simp only [decide_eq_false_iff_not]
    omega
  unfold unfit
  rw [idxV_none hb]
  rfl
/-- How much a level is widened. -/
def bAt (by_ : List Int) (i : Nat) : Int := match by_[i % by_.length]? with | some z => z | none => 0
def wid (by_ : List Int) (i : Nat) (x : Lv) : Lv := ⟨x.h, max (x.plo - bAt by_ i * 8) 1000, min (x.phi + bAt by_ (i + 1) * 8) 12000, max (x.tlo - bAt by_ (i + 2)) 1500, min (x.thi + bAt by_ (i + 3)) 3500⟩
def wTo (by_ : List Int) (l : List Lv) : Nat → List Lv
  | 0 => l
  | k + 1 => match l[k]? with | some x => (wTo by_ l k).set k (wid by_ k x) | none => wTo by_ l k
theorem wTo_len (by_ : List Int) (l : List Lv) : ∀ k, (wTo by_ l k).length = l.length
  | 0 => rfl
  | k + 1 => by
    unfold wTo
    split
    · rw [List.length_set, wTo_len by_ l k]
    · exact wTo_len by_ l k
theorem wTo_succ {by_ : List Int} {l : List Lv} {k : Nat} {x : Lv} (h : l[k]? = some x) : wTo by_ l (k + 1) = (wTo by_ l k).set k (wid by_ k x) := by
  rw [wTo, h]
theorem wTo_rest (by_ : List Int) (l : List Lv) : ∀ k j, k ≤ j → (wTo by_ l k)[j]? = l[j]?
  | 0, _, _ => rfl
  | k + 1, j, h => by
    have ih := wTo_rest by_ l k j (by omega)
    unfold wTo
    split
    · rw [List.getElem?_set_ne (by omega)]; exact ih
    · exact ih
theorem wTo_done {by_ : List Int} {l : List Lv} : ∀ {k j : Nat} {x : Lv}, j < k → l[j]? = some x → (wTo by_ l k)[j]? = some (wid by_ j x)
  | 0, _, _, h, _ => by omega
  | k + 1, j, x, h, hx => by
    rcases Nat.lt_or_ge j k with g | g
    · have ih := wTo_done (by_ := by_) (l := l) (k := k) g hx
      unfold wTo
      split
      · rw [List.getElem?_set_ne (by omega)]; exact ih
      · exact ih
    · obtain rfl : j = k := by omega
      rw [wTo_succ hx, List.getElem?_set_self (by rw [wTo_len]; exact (List.getElem?_eq_some_iff.1 hx).1)]
theorem bAt_in {by_ : List Int} (hb : ∀ z ∈ by_, 0 ≤ z ∧ z ≤ 255) (i : Nat) : 0 ≤ bAt by_ i ∧ bAt by_ i ≤ 255 := by
  unfold bAt
  split
  · rename_i z h
    exact hb z (List.mem_of_getElem? h)
  · omega
theorem wid_snd {by_ : List Int} {l : List Lv} (hb : ∀ z ∈ by_, 0 ≤ z ∧ z ≤ 255) (hs : Snd l) : Snd (wTo by_ l l.length) := by
  have hl := wTo_len by_ l l.length
  have n2 := hs.n2
  have n16 := hs.n16
  have at_ : ∀ {i : Nat} {y : Lv}, (wTo by_ l l.length)[i]? = some y → ∃ x, l[i]? = some x ∧ y = wid by_ i x := fun {i y} hy => by
    have hi := (List.getElem?_eq_some_iff.1 hy).1
    rw [hl] at hi
    have hx : l[i]? = some l[i] := List.getElem?_eq_getElem hi
    refine ⟨_, hx, ?_⟩
    rw [wTo_done hi hx] at hy
    exact (Option.some.inj hy).symm
  refine ⟨by omega, by omega, fun y hy => ?_, fun {i y z} hy hz => ?_⟩
  · obtain ⟨i, hi, rfl⟩ := List.getElem_of_mem hy
    obtain ⟨x, hx, e⟩ := at_ (List.getElem?_eq_getElem hi)
    rw [e]
    have o := hs.ok x (List.mem_of_getElem? hx)
    have b0 := bAt_in hb i
    have b1 := bAt_in hb (i + 1)
    have b2 := bAt_in hb (i + 2)
    have b3 := bAt_in hb (i + 3)
    unfold wid
    simp only
    omega
  · obtain ⟨x, hx, rfl⟩ := at_ hy
    obtain ⟨x', hx', rfl⟩ := at_ hz
    have := hs.rise hx hx'
    exact this
theorem wid_wider {by_ : List Int} {l : List Lv} (hb : ∀ z ∈ by_, 0 ≤ z ∧ z ≤ 255) (hs : Snd l) (i : Nat) (x y : Lv) (hx : l[i]? = some x) (hy : (wTo by_ l l.length)[i]? = some y) : x.h = y.h ∧ y.plo ≤ x.plo ∧ x.phi ≤ y.phi ∧ y.tlo ≤ x.tlo ∧ x.thi ≤ y.thi := by
  rw [wTo_done (List.getElem?_eq_some_iff.1 hx).1 hx] at hy
  have hy' := Option.some.inj hy
  subst hy'
  have o := hs.ok x (List.mem_of_getElem? hx)
  have b0 := bAt_in hb i
  have b1 := bAt_in hb (i + 1)
  have b2 := bAt_in hb (i + 2)
  have b3 := bAt_in hb (i + 3)
  unfold wid
  dsimp only
  refine ⟨rfl, ?_, ?_, ?_, ?_⟩ <;> omega
def Lv.te (x : Lv) (s : Int × Int) : Lv := ⟨x.h, x.plo, x.phi, s.1, s.2⟩
theorem lv_flat_te : ∀ {l : List Lv} {i : Nat} {x : Lv} {p q : Int}, l[i]? = some x → setL (l.map lvCells).flatten (0 + i * 5 + 3) [.int .i64 p, .int .i64 q] = ((l.set i (x.te (p, q))).map lvCells).flatten
  | [], i, x, p, q, h => by simp at h
  | y :: l, 0, x, p, q, h => by
    obtain rfl : y = x := by simpa using h
    rfl
  | y :: l, i + 1, x, p, q, h => by
    have ih := lv_flat_te (l := l) (i := i) (p := p) (q := q) (by simpa using h)
    simp only [setL] at ih ⊢
    rw [List.set_cons_succ, List.map_cons, List.map_cons, List.flatten_cons, List.flatten_cons, ← ih]
    have hl : (lvCells y).length = 5 := rfl
    rw [List.set_append_right _ _ (by omega), List.set_append_right _ _ (by omega), hl]
    rw [show 0 + (i + 1) * 5 + 3 - 5 = 0 + i * 5 + 3 by omega, show 0 + (i + 1) * 5 + 3 + 1 - 5 = 0 + i * 5 + 3 + 1 by omega]
theorem os_storeTe {c : Cx} {F : Fr} {H H' : Hp} {K : Value → Hp → Prop} {d : Option Tmp} {ty : TypeId} {pos : String} {af : Array Edge} {gd : Option (Nat × Bool)} {t : TypeId} {x y : Operand} {a0 : Bool} {z0 : List Value} {k0 : TyK} {g i : Nat} {l : List Lv} {z : Lv} {p q : Int} {tg : Tg}
    (hz : l[i]? = some z) (ht : tyAt c.tys t = some ⟨a0, 2, z0, k0⟩) (hx : ev F x = some (.pointer (some ⟨g, 0 + i * 5 + 3, none⟩))) (hy : ev F y = some (.agg ⟨[.int .i64 p, .int .i64 q]⟩)) (hp : Pick H g (l.map lvCells).flatten tg H')
    (k : K undef ((g, ((l.set i (z.te (p, q))).map lvCells).flatten, tg) :: H')) : OS c ⟨d, .store t x y, ty, pos, af, gd⟩ F H K :=
  store_gen (vs := [.int .i64 p, .int .i64 q]) ht hx hy rfl rfl (by simp [Value.oneCell']) hp (by rw [lv_flat_len]; have := (List.getElem?_eq_some_iff.1 hz).1; omega) (by rw [lv_flat_te hz]; exact k)
end Go.Proofs.Ytalidommelefaaa
/- Law 11: wider soundings are not settled to less. -/
namespace Go.Proofs.Ytalidommelefaaa
open Go.RowKit
attribute [local irreducible] OQ OS OX Rd T TL GX GL AL AI RV wpG SAny Calls
set_option maxRecDepth 100000
set_option maxHeartbeats 2000000
set_option linter.unusedVariables false
set_option linter.unusedSimpArgs false


def u8Cells (z : Int) : List Value := [.int .u8 z]
theorem u8_read {w : World} {b o n : Nat} {l : List Int} (h : RdS w 1 (some ⟨b, o, none⟩) n (l.map u8Cells)) {i : Nat} (hi : i < n) :
    ∃ x, l[i]? = some x ∧ w.cell? ⟨b, o + i * 1, none⟩ = some (.int .u8 x) := by
  obtain ⟨b', o', cs, hA, hb, hx, _, hc⟩ := h.row hi
  simp only [Option.some.injEq, Addr.mk.injEq, and_true] at hA
  obtain ⟨rfl, rfl⟩ := hA
  simp only [List.getElem?_map, Option.map_eq_some_iff] at hx
  obtain ⟨x, hx, rfl⟩ := hx
  exact ⟨x, hx, hc 0 _ rfl⟩
theorem u8_open {x : List Value} (h : LfsOk [.int .u8] x) : ∃ y : Int, x = u8Cells y ∧ (0 ≤ y ∧ y ≤ 255) := by
  obtain ⟨z0, u0, rfl, hw, h⟩ := h.int
  obtain rfl := h.nil
  simp only [Lit.wf, Bool.and_eq_true, decide_eq_true_eq] at hw
  exact ⟨z0, rfl, hw⟩
theorem oq_remE {c : Cx} {F : Fr} {H : Hp} {d : Option Tmp} {ty t t' : TypeId} {pos : String} {af : Array Edge} {g : Option (Nat × Bool)} {x y : Operand} {m n k : Int} (hx : ev F x = some (.int .i64 m)) (hy : ev F y = some (.int .i64 n)) (h0 : n ≠ 0) (hk : m.tmod n = k) : OQ c ⟨d, .binOp .rem t x y t', ty, pos, af, g⟩ F H (.int .i64 k) := hk ▸ oq_rem hx hy h0
theorem by_at {w : World} {b o n : Nat} {bs : List Int} (hq : RdS w 1 (some ⟨b, o, none⟩) n (bs.map u8Cells)) (hb : ∀ z ∈ bs, 0 ≤ z ∧ z ≤ 255) (hn : 0 < n) (i : Nat) :
    ∃ j : Nat, ((i : Nat) : Int).tmod (n : Int) = (j : Int) ∧ j < n ∧ ∃ z, w.cell? ⟨b, o + j * 1, none⟩ = some (.int .u8 z) ∧ bAt bs i = z ∧ 0 ≤ z ∧ z ≤ 255 := by
  have hl := hq.len
  simp only [List.length_map] at hl
  have hj : i % n < n := Nat.mod_lt _ hn
  obtain ⟨z, hz, hc⟩ := u8_read hq hj
  refine ⟨i % n, (Int.ofNat_tmod i n).symm, hj, z, hc, ?_, hb z (List.mem_of_getElem? hz)⟩
  unfold bAt
  rw [hl, hz]
theorem airWider_T (A : Option Addr) (n c : Nat) (l : List Lv) (A1 : Option Addr) (n1 cc : Nat) (bs : List Int) (w : World) (hr : RdS w 5 A n (l.map lvCells)) (hq : RdS w 1 A1 n1 (bs.map u8Cells)) (hb : ∀ z ∈ bs, 0 ≤ z ∧ z ≤ 255) :
    Calls Try.prog 11 #[.slice A n c, .slice A1 n1 cc] w fun e w' => e = .returned (.bool true) ∧ Ext w w' := by
  have hl := hr.len
  simp only [List.length_map] at hl
  subst hl
  by_cases hbig : l.length ≤ 24
  · have HR := fun w1 (hx : Ext w w1) => refCheck39_calls A l.length c l w1 (hr.ext hx) (by omega)
    have HS := fun w1 (hx : Ext w w1) => settle_T A l.length c l w1 (hr.ext hx) (by omega)
    cases hsb : soundB l with
    | false =>
      rw [hsb] at HR
      simp only [Bool.false_eq_true, if_false] at HR
      refine enterQ (c := cx w 198) Try.func11 rfl rfl rfl rfl ?_
      repeat' (first | ((with_reducible apply oq_id); first | ((with_reducible apply oq_leqT); exact rfl; exact rfl; omega) | ((with_reducible apply oq_leqF); exact rfl; exact rfl; omega) | ((with_reducible apply oq_lssT); exact rfl; exact rfl; omega) | ((with_reducible apply oq_lssF); exact rfl; exact rfl; omega) | ((with_reducible apply oq_gtrT); exact rfl; exact rfl; omega) | ((with_reducible apply oq_gtrF); exact rfl; exact rfl; omega) | ((with_reducible apply oq_geqT); exact rfl; exact rfl; omega) | ((with_reducible apply oq_geqF); exact rfl; exact rfl; omega) | ((with_reducible apply oq_eqlT); exact rfl; exact rfl; omega) | ((with_reducible apply oq_eqlF); exact rfl; exact rfl; omega) | ((with_reducible apply oq_neqT); exact rfl; exact rfl; omega) | ((with_reducible apply oq_neqF); exact rfl; exact rfl; omega) | (apply oq_fn; exact rfl; first | exact trivial | (refine ⟨?_, ?_⟩ <;> omega) | (refine ⟨?_, ?_, ?_⟩ <;> omega) | omega | skip) | ((with_reducible apply oq_load); exact rfl; exact rfl) | ((with_reducible apply oq_loadAgg); exact rfl; exact rfl) | ((with_reducible apply oq_call (k := 48) (hc := Try.call48)); exact rfl; exact rfl; exact fun D w1 hw1 => alive_calls w1) | ((with_reducible apply oq_call (k := 27) (hc := Try.call27)); exact rfl; exact rfl; exact fun D w1 hw1 => greatS_calls _ w1) | ((with_reducible apply oq_call (k := 39) (hc := Try.call39)); exact rfl; exact rfl; exact fun D w1 hw1 => HR w1 hw1.ext.ext)) | ((with_reducible apply tl_id); first | ((with_reducible apply tl_nil)) | ((with_reducible apply u_q); exact rfl; exact rfl; exact rfl; exact rfl) | ((with_reducible apply u_s0); exact rfl; exact rfl) | ((with_reducible apply u_s); exact rfl; exact rfl; exact rfl) | ((with_reducible apply u_skip); exact rfl; exact rfl; exact rfl) | ((with_reducible apply u_splitD); exact rfl; exact rfl; all_goals first | (intro hp; try (exfalso; omega)) | skip) | ((with_reducible apply u_splitN); exact rfl; exact rfl; all_goals first | (intro hp; try (exfalso; omega)) | skip) | ((with_reducible apply u_split); exact rfl; exact rfl; all_goals first | intro hp | skip)) | ((with_reducible apply gx_id); first | ((with_reducible apply v_nil)) | ((with_reducible apply v_q); exact rfl; exact rfl; exact rfl) | ((with_reducible apply v_skip); exact rfl; exact rfl; exact rfl) | ((with_reducible apply v_splitD); exact rfl; exact rfl; all_goals first | (intro hp; try (exfalso; omega)) | skip) | ((with_reducible apply v_splitN); exact rfl; exact rfl; all_goals first | (intro hp; try (exfalso; omega)) | skip) | ((with_reducible apply v_split); exact rfl; exact rfl; all_goals first | intro hp | skip)) | ((with_reducible apply os_id); first | ((with_reducible apply os_x); exact rfl) | ((with_reducible apply os_store); exact rfl; exact rfl; exact rfl; exact rfl) | ((with_reducible apply os_storeAgg); exact rfl; exact rfl; exact rfl; exact rfl; exact rfl)) | ((with_reducible apply ox_id); first | ((with_reducible apply ox_buildSlice1); exact rfl; exact rfl; exact rfl; exact rfl; exact rfl; exact rfl; intro _) | ((with_reducible apply ox_buildSlice2); exact rfl; exact rfl; exact rfl; exact rfl; exact rfl; exact rfl; intro _) | ((with_reducible apply ox_buildSlice); exact rfl; exact rfl; exact rfl; exact rfl)) | ((with_reducible apply rd_id); first | (apply Rd.own; (repeat (first | exact P0 | apply P1)); exact rfl; done) | (apply Rd.old; (first | (with_reducible assumption)); first | exact List.not_mem_nil)) | ((with_reducible apply t_id); first | ((with_reducible apply t_seq)) | (apply t_region; kernel_rfl) | (apply t_drawn; kernel_rfl; decide +kernel; try simp only [List.append_eq, List.cons_append, List.nil_append]) | ((with_reducible apply t_condT); exact rfl) | ((with_reducible apply t_condF); exact rfl) | ((with_reducible apply t_condD); exact rfl; all_goals first | (intro hp; try (exfalso; omega)) | skip) | ((with_reducible apply t_condN); exact rfl; all_goals first | (intro hp; try (exfalso; omega)) | skip) | ((with_reducible apply t_cond); exact rfl; all_goals first | intro hp | skip) | ((with_reducible apply t_ret)) | ((with_reducible apply t_skip)) | ((with_reducible apply t_exit)) | ((with_reducible apply t_block))) | with_reducible apply q_thenN | with_reducible apply q_thenR | with_reducible apply q_blockR | with_reducible apply q_blockN | with_reducible apply q_thenE | ((with_reducible apply q_blockE); exact rfl) | ((with_reducible apply q_blockO); exact rfl) | exact P0 | ((with_reducible apply P1)) | exact Rdn.zero | apply Rdn.succ | ((with_reducible apply Norm.nil); exact rfl) | ((with_reducible apply Norm.cons); exact rfl) | ((with_reducible apply end_ret)) | ((with_reducible apply end_normal)) | exact rvs_nil | ((with_reducible apply rvs_cons)) | ((with_reducible apply rv_tmp); exact rfl) | exact Nat.le_of_ble_eq_true rfl | exact (rfl : (_ : Bool) = true) | omega | (intro _ _; with_reducible apply tl_id) | (intro _; with_reducible apply tl_id) | (intro _ _; with_reducible apply al_id) | (intro _; with_reducible apply al_id))
      all_goals rfl
    | true =>
    rw [hsb] at HR
    simp only [if_true] at HR
    have hs := (soundB_iff l).1 hsb
    have n2 := hs.n2
    have n16 := hs.n16
    by_cases hnb : 0 < n1
    · obtain ⟨b, o, x0, rfl, _, hx0, _⟩ := lv_read hr (show 0 < l.length by omega)
      obtain ⟨bb, ob, _, rfl, _⟩ := hq.row hnb
      have hm := wid_snd hb hs
      have hw := wid_wider hb hs
      refine enterQ (c := cx w 198) Try.func11 rfl rfl rfl rfl ?_
      repeat' (first | ((with_reducible apply oq_id); first | ((with_reducible apply oq_leqT); exact rfl; exact rfl; omega) | ((with_reducible apply oq_leqF); exact rfl; exact rfl; omega) | ((with_reducible apply oq_lssT); exact rfl; exact rfl; omega) | ((with_reducible apply oq_lssF); exact rfl; exact rfl; omega) | ((with_reducible apply oq_gtrT); exact rfl; exact rfl; omega) | ((with_reducible apply oq_gtrF); exact rfl; exact rfl; omega) | ((with_reducible apply oq_geqT); exact rfl; exact rfl; omega) | ((with_reducible apply oq_geqF); exact rfl; exact rfl; omega) | ((with_reducible apply oq_eqlT); exact rfl; exact rfl; omega) | ((with_reducible apply oq_eqlF); exact rfl; exact rfl; omega) | ((with_reducible apply oq_neqT); exact rfl; exact rfl; omega) | ((with_reducible apply oq_neqF); exact rfl; exact rfl; omega) | (apply oq_fn; exact rfl; first | exact trivial | (refine ⟨?_, ?_⟩ <;> omega) | (refine ⟨?_, ?_, ?_⟩ <;> omega) | omega | skip) | ((with_reducible apply oq_load); exact rfl; exact rfl) | ((with_reducible apply oq_loadAgg); exact rfl; exact rfl) | ((with_reducible apply oq_call (k := 48) (hc := Try.call48)); exact rfl; exact rfl; exact fun D w1 hw1 => alive_calls w1) | ((with_reducible apply oq_call (k := 27) (hc := Try.call27)); exact rfl; exact rfl; exact fun D w1 hw1 => greatS_calls _ w1) | ((with_reducible apply oq_call (k := 39) (hc := Try.call39)); exact rfl; exact rfl; exact fun D w1 hw1 => HR w1 hw1.ext.ext)) | ((with_reducible apply tl_id); first | ((with_reducible apply tl_nil)) | ((with_reducible apply u_s); exact rfl; exact rfl; exact rfl; (with_reducible apply os_appendRows (hk := app_ok42) (rows := l.map lvCells) (hr := fun D w1 hw1 => hr.ext hw1.ext.ext)); exact rfl; exact rfl; exact P0; exact lv_len l; exact rfl; exact lv_one l; exact Nat.le_refl _; omega; omega; intro g cap; simp only [Nat.zero_add, List.nil_append]) | ((with_reducible apply u_q); exact rfl; exact rfl; exact rfl; exact rfl) | ((with_reducible apply u_s0); exact rfl; exact rfl) | ((with_reducible apply u_s); exact rfl; exact rfl; exact rfl) | ((with_reducible apply u_skip); exact rfl; exact rfl; exact rfl) | ((with_reducible apply u_splitD); exact rfl; exact rfl; all_goals first | (intro hp; try (exfalso; omega)) | skip) | ((with_reducible apply u_splitN); exact rfl; exact rfl; all_goals first | (intro hp; try (exfalso; omega)) | skip) | ((with_reducible apply u_split); exact rfl; exact rfl; all_goals first | intro hp | skip)) | ((with_reducible apply gx_id); first | ((with_reducible apply v_nil)) | ((with_reducible apply v_q); exact rfl; exact rfl; exact rfl) | ((with_reducible apply v_skip); exact rfl; exact rfl; exact rfl) | ((with_reducible apply v_splitD); exact rfl; exact rfl; all_goals first | (intro hp; try (exfalso; omega)) | skip) | ((with_reducible apply v_splitN); exact rfl; exact rfl; all_goals first | (intro hp; try (exfalso; omega)) | skip) | ((with_reducible apply v_split); exact rfl; exact rfl; all_goals first | intro hp | skip)) | ((with_reducible apply os_id); first | ((with_reducible apply os_x); exact rfl) | ((with_reducible apply os_store); exact rfl; exact rfl; exact rfl; exact rfl) | ((with_reducible apply os_storeAgg); exact rfl; exact rfl; exact rfl; exact rfl; exact rfl)) | ((with_reducible apply ox_id); first | ((with_reducible apply ox_buildSlice1); exact rfl; exact rfl; exact rfl; exact rfl; exact rfl; exact rfl; intro _) | ((with_reducible apply ox_buildSlice2); exact rfl; exact rfl; exact rfl; exact rfl; exact rfl; exact rfl; intro _) | ((with_reducible apply ox_buildSlice); exact rfl; exact rfl; exact rfl; exact rfl)) | ((with_reducible apply rd_id); first | (apply Rd.own; (repeat (first | exact P0 | apply P1)); exact rfl; done) | (apply Rd.old; (first | (with_reducible assumption)); first | exact List.not_mem_nil)) | ((with_reducible apply t_id); first | ((with_reducible apply t_seq)) | (apply t_region; kernel_rfl) | (apply t_drawn; kernel_rfl; decide +kernel; try simp only [List.append_eq, List.cons_append, List.nil_append]) | ((with_reducible apply t_condT); exact rfl) | ((with_reducible apply t_condF); exact rfl) | ((with_reducible apply t_condD); exact rfl; all_goals first | (intro hp; try (exfalso; omega)) | skip) | ((with_reducible apply t_condN); exact rfl; all_goals first | (intro hp; try (exfalso; omega)) | skip) | ((with_reducible apply t_cond); exact rfl; all_goals first | intro hp | skip) | ((with_reducible apply t_ret)) | ((with_reducible apply t_skip)) | ((with_reducible apply t_exit)) | ((with_reducible apply t_block))) | with_reducible apply q_thenN | with_reducible apply q_thenR | with_reducible apply q_blockR | with_reducible apply q_blockN | with_reducible apply q_thenE | ((with_reducible apply q_blockE); exact rfl) | ((with_reducible apply q_blockO); exact rfl) | exact P0 | ((with_reducible apply P1)) | exact Rdn.zero | apply Rdn.succ | ((with_reducible apply Norm.nil); exact rfl) | ((with_reducible apply Norm.cons); exact rfl) | ((with_reducible apply end_ret)) | ((with_reducible apply end_normal)) | exact rvs_nil | ((with_reducible apply rvs_cons)) | ((with_reducible apply rv_tmp); exact rfl) | exact Nat.le_of_ble_eq_true rfl | exact (rfl : (_ : Bool) = true) | omega | (intro _ _; with_reducible apply tl_id) | (intro _; with_reducible apply tl_id) | (intro _ _; with_reducible apply al_id) | (intro _; with_reducible apply al_id))
      apply t_loopK (ι := Nat) [0, 1, 4, 5, 6, 9, 11, 12, 14, 15, 39, 120, 121, 122, 123, 124, 125, 126, 127, 128, 129, 130, 131, 132, 133, 134, 135, 136, 137, 138, 139, 140, 141, 142, 143, 144, 145, 146, 147, 148, 149, 150, 151, 152, 153, 154, 155, 156, 157, 158, 159, 160, 161, 162, 163, 164, 165, 166, 167, 168, 169, 170, 171, 172, 173, 174, 175, 176, 177, 178, 179, 180, 181, 182, 183, 184, 185, 186, 187, 188, 189, 190, 191, 192, 193, 194, 195, 196, 197] (fun k => [(40, .int .i64 (k : Nat))]) (fun k => [(g, ((wTo bs l k).map lvCells).flatten, some (76, 5, cap))]) (fun k => k ≤ l.length) (fun k => l.length - k) (0)
      (repeat (first | exact KeepF.nil | (apply KeepF.cons; exact rfl) | apply KeepF.skip))
      (repeat (first | exact FrSub.nil | (apply FrSub.cons; exact rfl)))
      (repeat (first | exact HpSub.refl _ | (apply HpSub.consE; (repeat (first | exact P0 | apply P1)); exact rfl) | exact HpSub.nil))
      · omega
      intro k hk
      try simp only [List.cons_append, List.nil_append]
      by_cases hlt : k < l.length
      · obtain ⟨x, hx⟩ : ∃ x, l[k]? = some x := ⟨_, List.getElem?_eq_getElem hlt⟩
        obtain ⟨j0, hj0, hjl0, z0, b0, ez0, zi0⟩ := by_at hq hb hnb (k + 0)
        obtain ⟨j1, hj1, hjl1, z1, b1, ez1, zi1⟩ := by_at hq hb hnb (k + 1)
        obtain ⟨j2, hj2, hjl2, z2, b2, ez2, zi2⟩ := by_at hq hb hnb (k + 2)
        obtain ⟨j3, hj3, hjl3, z3, b3, ez3, zi3⟩ := by_at hq hb hnb (k + 3)
        rw [Nat.add_zero] at hj0 ez0
        have hlw := wTo_len bs l k
        have ox := hs.ok x (List.mem_of_getElem? hx)
        have hy : (wTo bs l k)[k]? = some x := (wTo_rest bs l k k (Nat.le_refl _)).trans hx
        obtain ⟨pv, hpv⟩ : ∃ pv, max (x.plo - z0 * 8) 1000 = pv := ⟨_, rfl⟩
        obtain ⟨qv, hqv⟩ : ∃ qv, min (x.phi + z1 * 8) 12000 = qv := ⟨_, rfl⟩
        obtain ⟨cv, hcv⟩ : ∃ cv, max (x.tlo - z2) 1500 = cv := ⟨_, rfl⟩
        obtain ⟨dv, hdv⟩ : ∃ dv, min (x.thi + z3) 3500 = dv := ⟨_, rfl⟩
        have hy2 : ((wTo bs l k).set k (x.put (pv, qv)))[k]? = some (x.put (pv, qv)) := List.getElem?_set_self (by omega)
        have ht1 : (x.put (pv, qv)).tlo = x.tlo := rfl
        have ht2 : (x.put (pv, qv)).thi = x.thi := rfl
        have hnx : ((wTo bs l k).set k (x.put (pv, qv))).set k ((x.put (pv, qv)).te (cv, dv)) = wTo bs l (k + 1) := by
          rw [List.set_set, wTo_succ hx]
          unfold wid Lv.te Lv.put
          rw [ez0, ez1, ez2, ez3, hpv, hqv, hcv, hdv]
        repeat' (first | ((with_reducible apply oq_id); first | ((with_reducible apply oq_max2E (k := pv)); exact rfl; exact rfl; omega) | ((with_reducible apply oq_min2E (k := qv)); exact rfl; exact rfl; omega) | ((with_reducible apply oq_max2E (k := cv)); exact rfl; exact rfl; omega) | ((with_reducible apply oq_min2E (k := dv)); exact rfl; exact rfl; omega) | ((with_reducible apply oq_addE (k := ((k + 1 : Nat) : Int))); exact rfl; exact rfl; omega) | ((with_reducible apply oq_addE (k := ((k + 2 : Nat) : Int))); exact rfl; exact rfl; omega) | ((with_reducible apply oq_addE (k := ((k + 3 : Nat) : Int))); exact rfl; exact rfl; omega) | ((with_reducible apply oq_remE (k := ((j0 : Nat) : Int))); exact rfl; exact rfl; omega; exact hj0) | ((with_reducible apply oq_remE (k := ((j1 : Nat) : Int))); exact rfl; exact rfl; omega; exact hj1) | ((with_reducible apply oq_remE (k := ((j2 : Nat) : Int))); exact rfl; exact rfl; omega; exact hj2) | ((with_reducible apply oq_remE (k := ((j3 : Nat) : Int))); exact rfl; exact rfl; omega; exact hj3) | (focus ((with_reducible apply oq_indexAddrN (i := j0)); exact rfl; exact rfl; exact rfl; exact rfl; omega)) | (focus ((with_reducible apply oq_indexAddrN (i := j1)); exact rfl; exact rfl; exact rfl; exact rfl; omega)) | (focus ((with_reducible apply oq_indexAddrN (i := j2)); exact rfl; exact rfl; exact rfl; exact rfl; omega)) | (focus ((with_reducible apply oq_indexAddrN (i := j3)); exact rfl; exact rfl; exact rfl; exact rfl; omega)) | (focus ((with_reducible apply oq_indexAddrN); exact rfl; exact rfl; exact rfl; exact rfl; omega)) | ((with_reducible apply oq_leqT); exact rfl; exact rfl; omega) | ((with_reducible apply oq_leqF); exact rfl; exact rfl; omega) | ((with_reducible apply oq_lssT); exact rfl; exact rfl; omega) | ((with_reducible apply oq_lssF); exact rfl; exact rfl; omega) | ((with_reducible apply oq_gtrT); exact rfl; exact rfl; omega) | ((with_reducible apply oq_gtrF); exact rfl; exact rfl; omega) | ((with_reducible apply oq_geqT); exact rfl; exact rfl; omega) | ((with_reducible apply oq_geqF); exact rfl; exact rfl; omega) | ((with_reducible apply oq_eqlT); exact rfl; exact rfl; omega) | ((with_reducible apply oq_eqlF); exact rfl; exact rfl; omega) | ((with_reducible apply oq_neqT); exact rfl; exact rfl; omega) | ((with_reducible apply oq_neqF); exact rfl; exact rfl; omega) | (apply oq_fn; exact rfl; first | exact trivial | (refine ⟨?_, ?_⟩ <;> omega) | (refine ⟨?_, ?_, ?_⟩ <;> omega) | omega | skip) | ((with_reducible apply oq_load); exact rfl; exact rfl) | ((with_reducible apply oq_loadAgg); exact rfl; exact rfl) | ((with_reducible apply oq_call (k := 52) (hc := Try.call52)); exact rfl; exact rfl; exact fun D w1 hw1 => span_calls _ _ w1)) | ((with_reducible apply tl_id); first | ((with_reducible apply tl_nil)) | ((with_reducible apply u_q); exact rfl; exact rfl; exact rfl; exact rfl) | ((with_reducible apply u_s0); exact rfl; exact rfl) | ((with_reducible apply u_s); exact rfl; exact rfl; exact rfl) | ((with_reducible apply u_skip); exact rfl; exact rfl; exact rfl) | ((with_reducible apply u_splitD); exact rfl; exact rfl; all_goals first | (intro hp; try (exfalso; omega)) | skip) | ((with_reducible apply u_splitN); exact rfl; exact rfl; all_goals first | (intro hp; try (exfalso; omega)) | skip) | ((with_reducible apply u_split); exact rfl; exact rfl; all_goals first | intro hp | skip)) | ((with_reducible apply gx_id); first | ((with_reducible apply v_nil)) | ((with_reducible apply v_q); exact rfl; exact rfl; exact rfl) | ((with_reducible apply v_skip); exact rfl; exact rfl; exact rfl) | ((with_reducible apply v_splitD); exact rfl; exact rfl; all_goals first | (intro hp; try (exfalso; omega)) | skip) | ((with_reducible apply v_splitN); exact rfl; exact rfl; all_goals first | (intro hp; try (exfalso; omega)) | skip) | ((with_reducible apply v_split); exact rfl; exact rfl; all_goals first | intro hp | skip)) | ((with_reducible apply os_id); first | ((with_reducible apply os_storeLv hy); exact rfl; exact rfl; exact rfl; (repeat (first | exact P0 | apply P1))) | ((with_reducible apply os_storeTe hy2); exact rfl; exact rfl; exact rfl; (repeat (first | exact P0 | apply P1))) | ((with_reducible apply os_x); exact rfl) | ((with_reducible apply os_store); exact rfl; exact rfl; exact rfl; exact rfl) | ((with_reducible apply os_storeAgg); exact rfl; exact rfl; exact rfl; exact rfl; exact rfl)) | ((with_reducible apply ox_id); first | ((with_reducible apply ox_buildSlice1); exact rfl; exact rfl; exact rfl; exact rfl; exact rfl; exact rfl; intro _) | ((with_reducible apply ox_buildSlice2); exact rfl; exact rfl; exact rfl; exact rfl; exact rfl; exact rfl; intro _) | ((with_reducible apply ox_buildSlice); exact rfl; exact rfl; exact rfl; exact rfl)) | ((with_reducible apply ai_id); first | ((with_reducible apply ai_q); exact rfl; exact rfl; exact rfl; exact rfl; exact rfl) | ((with_reducible apply ai_x); exact rfl; exact rfl; exact rfl; exact rfl; exact rfl) | ((with_reducible apply ai_s0); exact rfl; exact rfl; exact rfl; exact rfl) | ((with_reducible apply ai_n0); exact rfl; exact rfl; exact rfl) | ((with_reducible apply ai_s); exact rfl; exact rfl; exact rfl; exact rfl; exact rfl) | ((with_reducible apply ai_n); exact rfl; exact rfl; exact rfl; exact rfl) | ((with_reducible apply ai_skip); exact rfl; exact rfl; exact rfl; exact rfl) | ((with_reducible apply ai_splitD); exact rfl; exact rfl; exact rfl; all_goals first | (intro hp; try (exfalso; omega)) | skip) | ((with_reducible apply ai_splitN); exact rfl; exact rfl; exact rfl; all_goals first | (intro hp; try (exfalso; omega)) | skip) | ((with_reducible apply ai_split); exact rfl; exact rfl; exact rfl; all_goals first | intro hp | skip)) | ((with_reducible apply al_keep); focus (repeat (first | exact HpSub.refl _ | (apply HpSub.cons; (repeat (first | exact P0 | apply P1))) | exact HpSub.nil))) | ((with_reducible apply rd_id); first | (apply Rd.old; (first | exact b0 | exact b1 | exact b2 | exact b3); exact List.not_mem_nil) | (apply rdlv 0 hy rfl; (repeat (first | exact P0 | apply P1)); done) | (apply rdlv 1 hy rfl; (repeat (first | exact P0 | apply P1)); done) | (apply rdlv 2 hy rfl; (repeat (first | exact P0 | apply P1)); done) | (apply rdlv 3 hy rfl; (repeat (first | exact P0 | apply P1)); done) | (apply rdlv 4 hy rfl; (repeat (first | exact P0 | apply P1)); done) | (apply rdlv 0 hy2 rfl; (repeat (first | exact P0 | apply P1)); done) | (apply rdlv 1 hy2 rfl; (repeat (first | exact P0 | apply P1)); done) | (apply rdlv 2 hy2 rfl; (repeat (first | exact P0 | apply P1)); done) | (apply rdlv 3 hy2 rfl; (repeat (first | exact P0 | apply P1)); done) | (apply rdlv 4 hy2 rfl; (repeat (first | exact P0 | apply P1)); done) | (apply Rd.own; (repeat (first | exact P0 | apply P1)); exact rfl; done) | (apply Rd.old; (first | (with_reducible assumption)); first | exact List.not_mem_nil)) | ((with_reducible apply t_id); first | ((with_reducible apply t_seq)) | (apply t_region; kernel_rfl) | (apply t_drawn; kernel_rfl; decide +kernel; try simp only [List.append_eq, List.cons_append, List.nil_append]) | ((with_reducible apply t_condT); exact rfl) | ((with_reducible apply t_condF); exact rfl) | ((with_reducible apply t_condD); exact rfl; all_goals first | (intro hp; try (exfalso; omega)) | skip) | ((with_reducible apply t_condN); exact rfl; all_goals first | (intro hp; try (exfalso; omega)) | skip) | ((with_reducible apply t_cond); exact rfl; all_goals first | intro hp | skip) | ((with_reducible apply t_ret)) | ((with_reducible apply t_skip)) | ((with_reducible apply t_exit)) | ((with_reducible apply t_block))) | with_reducible apply q_thenN | with_reducible apply q_thenR | with_reducible apply q_blockR | with_reducible apply q_blockN | with_reducible apply q_thenE | ((with_reducible apply q_blockE); exact rfl) | ((with_reducible apply q_blockO); exact rfl) | exact P0 | ((with_reducible apply P1)) | exact Rdn.zero | apply Rdn.succ | ((with_reducible apply Norm.nil); exact rfl) | ((with_reducible apply Norm.cons); exact rfl) | ((with_reducible apply end_ret)) | ((with_reducible apply end_normal)) | exact rvs_nil | ((with_reducible apply rvs_cons)) | ((with_reducible apply rv_tmp); exact rfl) | (apply t_mix (id := 9) [0, 1, 2, 3, 4, 5, 6, 7, 8, 9, 10, 11, 12, 13, 14, 15, 16, 17, 18, 19, 20, 21, 22, 23, 24, 25, 26, 27, 28, 29, 30, 31, 32, 33, 34, 35, 36] 1 #[false, false, false, false, false, false, false, false, false, false, false, false, false, false, false, false, false, false, false, false, false, false, false, false, false, false, false, false, false, false, false, false, false, false, false, false, false, true]; kernel_rfl; kernel_rfl; exact rfl) | ((with_reducible apply al_id); first | (apply al_done; decide +kernel) | (apply al_one 37; decide +kernel)) | (apply t_mix (id := 10) [0, 1, 2, 3, 4, 5, 6, 7, 8, 9, 10, 11, 12, 13, 14, 15, 16, 17, 18, 19, 20, 21, 22, 23, 24, 25, 26, 27, 28, 29, 30, 31, 32, 33, 34, 35] 1 #[false, false, false, false, false, false, false, false, false, false, false, false, false, false, false, false, false, false, false, false, false, false, false, false, false, false, false, false, false, false, false, false, false, false, false, false, true]; kernel_rfl; kernel_rfl; exact rfl) | ((with_reducible apply al_id); first | (apply al_done; decide +kernel) | (apply al_one 36; decide +kernel)) | exact Nat.le_of_ble_eq_true rfl | exact (rfl : (_ : Bool) = true) | omega | (intro _ _; with_reducible apply tl_id) | (intro _; with_reducible apply tl_id) | (intro _ _; with_reducible apply al_id) | (intro _; with_reducible apply al_id))
        all_goals (refine ⟨k + 1, by omega, by omega, ?_, ?_⟩ <;> (try simp only [List.cons_append, List.nil_append]) <;> (repeat' (first | exact FrSub.nil | (apply FrSub.cons; exact rfl) | exact HpSub.refl _ | (apply HpSub.consE; (repeat (first | exact P0 | apply P1)); first | exact rfl | (rw [hnx])) | exact HpSub.nil)))
      · obtain rfl : k = l.length := by omega
        have hml := wTo_len bs l l.length
        generalize wTo bs l l.length = m at *
        have hmb := (soundB_iff m).2 hm
        have HS2 := fun g cp w1 h => settle_T (some ⟨g, 0, none⟩) l.length cp m w1 h (by omega)
        cases hu : unfit l with
        | true =>
          cases hv : unfit m with
          | true =>
            repeat' (first | ((with_reducible apply oq_id); first | ((with_reducible apply oq_leqT); exact rfl; exact rfl; omega) | ((with_reducible apply oq_leqF); exact rfl; exact rfl; omega) | ((with_reducible apply oq_lssT); exact rfl; exact rfl; omega) | ((with_reducible apply oq_lssF); exact rfl; exact rfl; omega) | ((with_reducible apply oq_gtrT); exact rfl; exact rfl; omega) | ((with_reducible apply oq_gtrF); exact rfl; exact rfl; omega) | ((with_reducible apply oq_geqT); exact rfl; exact rfl; omega) | ((with_reducible apply oq_geqF); exact rfl; exact rfl; omega) | ((with_reducible apply oq_eqlT); exact rfl; exact rfl; omega) | ((with_reducible apply oq_eqlF); exact rfl; exact rfl; omega) | ((with_reducible apply oq_neqT); exact rfl; exact rfl; omega) | ((with_reducible apply oq_neqF); exact rfl; exact rfl; omega) | (apply oq_fn; exact rfl; first | exact trivial | (refine ⟨?_, ?_⟩ <;> omega) | (refine ⟨?_, ?_, ?_⟩ <;> omega) | omega | skip) | ((with_reducible apply oq_load); exact rfl; exact rfl) | ((with_reducible apply oq_loadAgg); exact rfl; exact rfl)) | ((with_reducible apply tl_id); first | ((with_reducible apply tl_nil)) | ((with_reducible apply u_s); exact rfl; exact rfl; exact rfl; (with_reducible apply os_callF (PV := SetBad l) (k := 40) (hc := Try.call40)); exact rfl; exact rfl; exact fun D w1 hw1 => (HS w1 hw1.ext.ext).mono fun e w' ⟨v, H', h1, h2, h3⟩ => ⟨v, H', h1, setV_bad hsb hu h2, h3⟩; rintro v H' ⟨rfl, rfl⟩; simp only [List.cons_append, List.nil_append]) | ((with_reducible apply u_s); exact rfl; exact rfl; exact rfl; (with_reducible apply os_callF (PV := SetBad m) (k := 40) (hc := Try.call40)); exact rfl; exact rfl; exact fun D w1 hw1 => (HS2 _ _ w1 (lvS_rows hml hw1 (by (repeat (first | exact P0 | apply P1))))).mono fun e w' ⟨v, H', h1, h2, h3⟩ => ⟨v, H', h1, setV_bad hmb hv h2, h3⟩; rintro v H' ⟨rfl, rfl⟩; simp only [List.cons_append, List.nil_append]) | ((with_reducible apply u_q); exact rfl; exact rfl; exact rfl; exact rfl) | ((with_reducible apply u_s0); exact rfl; exact rfl) | ((with_reducible apply u_s); exact rfl; exact rfl; exact rfl) | ((with_reducible apply u_skip); exact rfl; exact rfl; exact rfl) | ((with_reducible apply u_splitD); exact rfl; exact rfl; all_goals first | (intro hp; try (exfalso; omega)) | skip) | ((with_reducible apply u_splitN); exact rfl; exact rfl; all_goals first | (intro hp; try (exfalso; omega)) | skip) | ((with_reducible apply u_split); exact rfl; exact rfl; all_goals first | intro hp | skip)) | ((with_reducible apply gx_id); first | ((with_reducible apply v_nil)) | ((with_reducible apply v_q); exact rfl; exact rfl; exact rfl) | ((with_reducible apply v_skip); exact rfl; exact rfl; exact rfl) | ((with_reducible apply v_splitD); exact rfl; exact rfl; all_goals first | (intro hp; try (exfalso; omega)) | skip) | ((with_reducible apply v_splitN); exact rfl; exact rfl; all_goals first | (intro hp; try (exfalso; omega)) | skip) | ((with_reducible apply v_split); exact rfl; exact rfl; all_goals first | intro hp | skip)) | ((with_reducible apply os_id); first | ((with_reducible apply os_x); exact rfl) | ((with_reducible apply os_store); exact rfl; exact rfl; exact rfl; exact rfl) | ((with_reducible apply os_storeAgg); exact rfl; exact rfl; exact rfl; exact rfl; exact rfl)) | ((with_reducible apply ox_id); first | ((with_reducible apply ox_buildSlice1); exact rfl; exact rfl; exact rfl; exact rfl; exact rfl; exact rfl; intro _) | ((with_reducible apply ox_buildSlice2); exact rfl; exact rfl; exact rfl; exact rfl; exact rfl; exact rfl; intro _) | ((with_reducible apply ox_buildSlice); exact rfl; exact rfl; exact rfl; exact rfl)) | ((with_reducible apply rd_id); first | (apply Rd.own; (repeat (first | exact P0 | apply P1)); exact rfl; done) | (apply Rd.old; (first | (with_reducible assumption)); first | exact List.not_mem_nil)) | ((with_reducible apply t_id); first | ((with_reducible apply t_seq)) | (apply t_region; kernel_rfl) | (apply t_drawn; kernel_rfl; decide +kernel; try simp only [List.append_eq, List.cons_append, List.nil_append]) | ((with_reducible apply t_condT); exact rfl) | ((with_reducible apply t_condF); exact rfl) | ((with_reducible apply t_condD); exact rfl; all_goals first | (intro hp; try (exfalso; omega)) | skip) | ((with_reducible apply t_condN); exact rfl; all_goals first | (intro hp; try (exfalso; omega)) | skip) | ((with_reducible apply t_cond); exact rfl; all_goals first | intro hp | skip) | ((with_reducible apply t_ret)) | ((with_reducible apply t_skip)) | ((with_reducible apply t_exit)) | ((with_reducible apply t_block))) | with_reducible apply q_thenN | with_reducible apply q_thenR | with_reducible apply q_blockR | with_reducible apply q_blockN | with_reducible apply q_thenE | ((with_reducible apply q_blockE); exact rfl) | ((with_reducible apply q_blockO); exact rfl) | exact P0 | ((with_reducible apply P1)) | exact Rdn.zero | apply Rdn.succ | ((with_reducible apply Norm.nil); exact rfl) | ((with_reducible apply Norm.cons); exact rfl) | ((with_reducible apply end_ret)) | ((with_reducible apply end_normal)) | exact rvs_nil | ((with_reducible apply rvs_cons)) | ((with_reducible apply rv_tmp); exact rfl) | exact Nat.le_of_ble_eq_true rfl | exact (rfl : (_ : Bool) = true) | omega | (intro _ _; with_reducible apply tl_id) | (intro _; with_reducible apply tl_id) | (intro _ _; with_reducible apply al_id) | (intro _; with_reducible apply al_id))
            all_goals rfl
          | false =>
            repeat' (first | ((with_reducible apply oq_id); first | ((with_reducible apply oq_leqT); exact rfl; exact rfl; omega) | ((with_reducible apply oq_leqF); exact rfl; exact rfl; omega) | ((with_reducible apply oq_lssT); exact rfl; exact rfl; omega) | ((with_reducible apply oq_lssF); exact rfl; exact rfl; omega) | ((with_reducible apply oq_gtrT); exact rfl; exact rfl; omega) | ((with_reducible apply oq_gtrF); exact rfl; exact rfl; omega) | ((with_reducible apply oq_geqT); exact rfl; exact rfl; omega) | ((with_reducible apply oq_geqF); exact rfl; exact rfl; omega) | ((with_reducible apply oq_eqlT); exact rfl; exact rfl; omega) | ((with_reducible apply oq_eqlF); exact rfl; exact rfl; omega) | ((with_reducible apply oq_neqT); exact rfl; exact rfl; omega) | ((with_reducible apply oq_neqF); exact rfl; exact rfl; omega) | (apply oq_fn; exact rfl; first | exact trivial | (refine ⟨?_, ?_⟩ <;> omega) | (refine ⟨?_, ?_, ?_⟩ <;> omega) | omega | skip) | ((with_reducible apply oq_load); exact rfl; exact rfl) | ((with_reducible apply oq_loadAgg); exact rfl; exact rfl)) | ((with_reducible apply tl_id); first | ((with_reducible apply tl_nil)) | ((with_reducible apply u_s); exact rfl; exact rfl; exact rfl; (with_reducible apply os_callF (PV := SetBad l) (k := 40) (hc := Try.call40)); exact rfl; exact rfl; exact fun D w1 hw1 => (HS w1 hw1.ext.ext).mono fun e w' ⟨v, H', h1, h2, h3⟩ => ⟨v, H', h1, setV_bad hsb hu h2, h3⟩; rintro v H' ⟨rfl, rfl⟩; simp only [List.cons_append, List.nil_append]) | ((with_reducible apply u_s); exact rfl; exact rfl; exact rfl; (with_reducible apply os_callF (PV := SetOk m) (k := 40) (hc := Try.call40)); exact rfl; exact rfl; exact fun D w1 hw1 => (HS2 _ _ w1 (lvS_rows hml hw1 (by (repeat (first | exact P0 | apply P1))))).mono fun e w' ⟨v, H', h1, h2, h3⟩ => ⟨v, H', h1, setV_ok hmb hv h2, h3⟩; rintro v H' ⟨g2, cap2, rfl, rfl⟩; simp only [List.cons_append, List.nil_append]) | ((with_reducible apply u_q); exact rfl; exact rfl; exact rfl; exact rfl) | ((with_reducible apply u_s0); exact rfl; exact rfl) | ((with_reducible apply u_s); exact rfl; exact rfl; exact rfl) | ((with_reducible apply u_skip); exact rfl; exact rfl; exact rfl) | ((with_reducible apply u_splitD); exact rfl; exact rfl; all_goals first | (intro hp; try (exfalso; omega)) | skip) | ((with_reducible apply u_splitN); exact rfl; exact rfl; all_goals first | (intro hp; try (exfalso; omega)) | skip) | ((with_reducible apply u_split); exact rfl; exact rfl; all_goals first | intro hp | skip)) | ((with_reducible apply gx_id); first | ((with_reducible apply v_nil)) | ((with_reducible apply v_q); exact rfl; exact rfl; exact rfl) | ((with_reducible apply v_skip); exact rfl; exact rfl; exact rfl) | ((with_reducible apply v_splitD); exact rfl; exact rfl; all_goals first | (intro hp; try (exfalso; omega)) | skip) | ((with_reducible apply v_splitN); exact rfl; exact rfl; all_goals first | (intro hp; try (exfalso; omega)) | skip) | ((with_reducible apply v_split); exact rfl; exact rfl; all_goals first | intro hp | skip)) | ((with_reducible apply os_id); first | ((with_reducible apply os_x); exact rfl) | ((with_reducible apply os_store); exact rfl; exact rfl; exact rfl; exact rfl) | ((with_reducible apply os_storeAgg); exact rfl; exact rfl; exact rfl; exact rfl; exact rfl)) | ((with_reducible apply ox_id); first | ((with_reducible apply ox_buildSlice1); exact rfl; exact rfl; exact rfl; exact rfl; exact rfl; exact rfl; intro _) | ((with_reducible apply ox_buildSlice2); exact rfl; exact rfl; exact rfl; exact rfl; exact rfl; exact rfl; intro _) | ((with_reducible apply ox_buildSlice); exact rfl; exact rfl; exact rfl; exact rfl)) | ((with_reducible apply rd_id); first | (apply Rd.own; (repeat (first | exact P0 | apply P1)); exact rfl; done) | (apply Rd.old; (first | (with_reducible assumption)); first | exact List.not_mem_nil)) | ((with_reducible apply t_id); first | ((with_reducible apply t_seq)) | (apply t_region; kernel_rfl) | (apply t_drawn; kernel_rfl; decide +kernel; try simp only [List.append_eq, List.cons_append, List.nil_append]) | ((with_reducible apply t_condT); exact rfl) | ((with_reducible apply t_condF); exact rfl) | ((with_reducible apply t_condD); exact rfl; all_goals first | (intro hp; try (exfalso; omega)) | skip) | ((with_reducible apply t_condN); exact rfl; all_goals first | (intro hp; try (exfalso; omega)) | skip) | ((with_reducible apply t_cond); exact rfl; all_goals first | intro hp | skip) | ((with_reducible apply t_ret)) | ((with_reducible apply t_skip)) | ((with_reducible apply t_exit)) | ((with_reducible apply t_block))) | with_reducible apply q_thenN | with_reducible apply q_thenR | with_reducible apply q_blockR | with_reducible apply q_blockN | with_reducible apply q_thenE | ((with_reducible apply q_blockE); exact rfl) | ((with_reducible apply q_blockO); exact rfl) | exact P0 | ((with_reducible apply P1)) | exact Rdn.zero | apply Rdn.succ | ((with_reducible apply Norm.nil); exact rfl) | ((with_reducible apply Norm.cons); exact rfl) | ((with_reducible apply end_ret)) | ((with_reducible apply end_normal)) | exact rvs_nil | ((with_reducible apply rvs_cons)) | ((with_reducible apply rv_tmp); exact rfl) | exact Nat.le_of_ble_eq_true rfl | exact (rfl : (_ : Bool) = true) | omega | (intro _ _; with_reducible apply tl_id) | (intro _; with_reducible apply tl_id) | (intro _ _; with_reducible apply al_id) | (intro _; with_reducible apply al_id))
            all_goals rfl
        | false =>
          have hv := wider_unfit hs hm (by omega) hw hu
          repeat' (first | ((with_reducible apply oq_id); first | ((with_reducible apply oq_leqT); exact rfl; exact rfl; omega) | ((with_reducible apply oq_leqF); exact rfl; exact rfl; omega) | ((with_reducible apply oq_lssT); exact rfl; exact rfl; omega) | ((with_reducible apply oq_lssF); exact rfl; exact rfl; omega) | ((with_reducible apply oq_gtrT); exact rfl; exact rfl; omega) | ((with_reducible apply oq_gtrF); exact rfl; exact rfl; omega) | ((with_reducible apply oq_geqT); exact rfl; exact rfl; omega) | ((with_reducible apply oq_geqF); exact rfl; exact rfl; omega) | ((with_reducible apply oq_eqlT); exact rfl; exact rfl; omega) | ((with_reducible apply oq_eqlF); exact rfl; exact rfl; omega) | ((with_reducible apply oq_neqT); exact rfl; exact rfl; omega) | ((with_reducible apply oq_neqF); exact rfl; exact rfl; omega) | (apply oq_fn; exact rfl; first | exact trivial | (refine ⟨?_, ?_⟩ <;> omega) | (refine ⟨?_, ?_, ?_⟩ <;> omega) | omega | skip) | ((with_reducible apply oq_load); exact rfl; exact rfl) | ((with_reducible apply oq_loadAgg); exact rfl; exact rfl)) | ((with_reducible apply tl_id); first | ((with_reducible apply tl_nil)) | ((with_reducible apply u_s); exact rfl; exact rfl; exact rfl; (with_reducible apply os_callF (PV := SetOk l) (k := 40) (hc := Try.call40)); exact rfl; exact rfl; exact fun D w1 hw1 => (HS w1 hw1.ext.ext).mono fun e w' ⟨v, H', h1, h2, h3⟩ => ⟨v, H', h1, setV_ok hsb hu h2, h3⟩; rintro v H' ⟨g1, cap1, rfl, rfl⟩; simp only [List.cons_append, List.nil_append]) | ((with_reducible apply u_s); exact rfl; exact rfl; exact rfl; (with_reducible apply os_callF (PV := SetOk m) (k := 40) (hc := Try.call40)); exact rfl; exact rfl; exact fun D w1 hw1 => (HS2 _ _ w1 (lvS_rows hml hw1 (by (repeat (first | exact P0 | apply P1))))).mono fun e w' ⟨v, H', h1, h2, h3⟩ => ⟨v, H', h1, setV_ok hmb hv h2, h3⟩; rintro v H' ⟨g2, cap2, rfl, rfl⟩; simp only [List.cons_append, List.nil_append]) | ((with_reducible apply u_q); exact rfl; exact rfl; exact rfl; exact rfl) | ((with_reducible apply u_s0); exact rfl; exact rfl) | ((with_reducible apply u_s); exact rfl; exact rfl; exact rfl) | ((with_reducible apply u_skip); exact rfl; exact rfl; exact rfl) | ((with_reducible apply u_splitD); exact rfl; exact rfl; all_goals first | (intro hp; try (exfalso; omega)) | skip) | ((with_reducible apply u_splitN); exact rfl; exact rfl; all_goals first | (intro hp; try (exfalso; omega)) | skip) | ((with_reducible apply u_split); exact rfl; exact rfl; all_goals first | intro hp | skip)) | ((with_reducible apply gx_id); first | ((with_reducible apply v_nil)) | ((with_reducible apply v_q); exact rfl; exact rfl; exact rfl) | ((with_reducible apply v_skip); exact rfl; exact rfl; exact rfl) | ((with_reducible apply v_splitD); exact rfl; exact rfl; all_goals first | (intro hp; try (exfalso; omega)) | skip) | ((with_reducible apply v_splitN); exact rfl; exact rfl; all_goals first | (intro hp; try (exfalso; omega)) | skip) | ((with_reducible apply v_split); exact rfl; exact rfl; all_goals first | intro hp | skip)) | ((with_reducible apply os_id); first | ((with_reducible apply os_x); exact rfl) | ((with_reducible apply os_store); exact rfl; exact rfl; exact rfl; exact rfl) | ((with_reducible apply os_storeAgg); exact rfl; exact rfl; exact rfl; exact rfl; exact rfl)) | ((with_reducible apply ox_id); first | ((with_reducible apply ox_buildSlice1); exact rfl; exact rfl; exact rfl; exact rfl; exact rfl; exact rfl; intro _) | ((with_reducible apply ox_buildSlice2); exact rfl; exact rfl; exact rfl; exact rfl; exact rfl; exact rfl; intro _) | ((with_reducible apply ox_buildSlice); exact rfl; exact rfl; exact rfl; exact rfl)) | ((with_reducible apply rd_id); first | (apply Rd.own; (repeat (first | exact P0 | apply P1)); exact rfl; done) | (apply Rd.old; (first | (with_reducible assumption)); first | exact List.not_mem_nil)) | ((with_reducible apply t_id); first | ((with_reducible apply t_seq)) | (apply t_region; kernel_rfl) | (apply t_drawn; kernel_rfl; decide +kernel; try simp only [List.append_eq, List.cons_append, List.nil_append]) | ((with_reducible apply t_condT); exact rfl) | ((with_reducible apply t_condF); exact rfl) | ((with_reducible apply t_condD); exact rfl; all_goals first | (intro hp; try (exfalso; omega)) | skip) | ((with_reducible apply t_condN); exact rfl; all_goals first | (intro hp; try (exfalso; omega)) | skip) | ((with_reducible apply t_cond); exact rfl; all_goals first | intro hp | skip) | ((with_reducible apply t_ret)) | ((with_reducible apply t_skip)) | ((with_reducible apply t_exit)) | ((with_reducible apply t_block))) | with_reducible apply q_thenN | with_reducible apply q_thenR | with_reducible apply q_blockR | with_reducible apply q_blockN | with_reducible apply q_thenE | ((with_reducible apply q_blockE); exact rfl) | ((with_reducible apply q_blockO); exact rfl) | exact P0 | ((with_reducible apply P1)) | exact Rdn.zero | apply Rdn.succ | ((with_reducible apply Norm.nil); exact rfl) | ((with_reducible apply Norm.cons); exact rfl) | ((with_reducible apply end_ret)) | ((with_reducible apply end_normal)) | exact rvs_nil | ((with_reducible apply rvs_cons)) | ((with_reducible apply rv_tmp); exact rfl) | exact Nat.le_of_ble_eq_true rfl | exact (rfl : (_ : Bool) = true) | omega | (intro _ _; with_reducible apply tl_id) | (intro _; with_reducible apply tl_id) | (intro _ _; with_reducible apply al_id) | (intro _; with_reducible apply al_id))
          apply t_loopK (ι := Nat) [5, 9, 12, 164, 197] (fun k => [(165, .int .i64 (k : Nat))]) (fun _ => []) (fun k => k ≤ l.length) (fun k => l.length - k) (0)
          (repeat (first | exact KeepF.nil | (apply KeepF.cons; exact rfl) | apply KeepF.skip))
          (repeat (first | exact FrSub.nil | (apply FrSub.cons; exact rfl)))
          (repeat (first | exact HpSub.refl _ | (apply HpSub.consE; (repeat (first | exact P0 | apply P1)); exact rfl) | exact HpSub.nil))
          · omega
          intro k hk
          try simp only [List.cons_append, List.nil_append]
          by_cases hlt : k < l.length
          · obtain ⟨x, hz1⟩ : ∃ z, (setl l)[k]? = some z := ⟨_, List.getElem?_eq_getElem (by rw [setl_len]; exact hlt)⟩
            obtain ⟨y, hz2⟩ : ∃ z, (setl m)[k]? = some z := ⟨_, List.getElem?_eq_getElem (by rw [setl_len]; omega)⟩
            have hwa := wider_at hs hm (by omega) hw hz1 hz2
            repeat' (first | ((with_reducible apply oq_id); first | (focus ((with_reducible apply oq_indexAddrN); exact rfl; exact rfl; exact rfl; exact rfl; omega)) | ((with_reducible apply oq_leqT); exact rfl; exact rfl; omega) | ((with_reducible apply oq_leqF); exact rfl; exact rfl; omega) | ((with_reducible apply oq_lssT); exact rfl; exact rfl; omega) | ((with_reducible apply oq_lssF); exact rfl; exact rfl; omega) | ((with_reducible apply oq_gtrT); exact rfl; exact rfl; omega) | ((with_reducible apply oq_gtrF); exact rfl; exact rfl; omega) | ((with_reducible apply oq_geqT); exact rfl; exact rfl; omega) | ((with_reducible apply oq_geqF); exact rfl; exact rfl; omega) | ((with_reducible apply oq_eqlT); exact rfl; exact rfl; omega) | ((with_reducible apply oq_eqlF); exact rfl; exact rfl; omega) | ((with_reducible apply oq_neqT); exact rfl; exact rfl; omega) | ((with_reducible apply oq_neqF); exact rfl; exact rfl; omega) | (apply oq_fn; exact rfl; first | exact trivial | (refine ⟨?_, ?_⟩ <;> omega) | (refine ⟨?_, ?_, ?_⟩ <;> omega) | omega | skip) | ((with_reducible apply oq_load); exact rfl; exact rfl) | ((with_reducible apply oq_loadAgg); exact rfl; exact rfl)) | ((with_reducible apply tl_id); first | ((with_reducible apply tl_nil)) | ((with_reducible apply u_q); exact rfl; exact rfl; exact rfl; exact rfl) | ((with_reducible apply u_s0); exact rfl; exact rfl) | ((with_reducible apply u_s); exact rfl; exact rfl; exact rfl) | ((with_reducible apply u_skip); exact rfl; exact rfl; exact rfl) | ((with_reducible apply u_splitD); exact rfl; exact rfl; all_goals first | (intro hp; try (exfalso; omega)) | skip) | ((with_reducible apply u_splitN); exact rfl; exact rfl; all_goals first | (intro hp; try (exfalso; omega)) | skip) | ((with_reducible apply u_split); exact rfl; exact rfl; all_goals first | intro hp | skip)) | ((with_reducible apply gx_id); first | ((with_reducible apply v_nil)) | ((with_reducible apply v_q); exact rfl; exact rfl; exact rfl) | ((with_reducible apply v_skip); exact rfl; exact rfl; exact rfl) | ((with_reducible apply v_splitD); exact rfl; exact rfl; all_goals first | (intro hp; try (exfalso; omega)) | skip) | ((with_reducible apply v_splitN); exact rfl; exact rfl; all_goals first | (intro hp; try (exfalso; omega)) | skip) | ((with_reducible apply v_split); exact rfl; exact rfl; all_goals first | intro hp | skip)) | ((with_reducible apply os_id); first | ((with_reducible apply os_x); exact rfl) | ((with_reducible apply os_store); exact rfl; exact rfl; exact rfl; exact rfl) | ((with_reducible apply os_storeAgg); exact rfl; exact rfl; exact rfl; exact rfl; exact rfl)) | ((with_reducible apply ox_id); first | ((with_reducible apply ox_buildSlice1); exact rfl; exact rfl; exact rfl; exact rfl; exact rfl; exact rfl; intro _) | ((with_reducible apply ox_buildSlice2); exact rfl; exact rfl; exact rfl; exact rfl; exact rfl; exact rfl; intro _) | ((with_reducible apply ox_buildSlice); exact rfl; exact rfl; exact rfl; exact rfl)) | ((with_reducible apply rd_id); first | (apply rdlv 0 hz1 rfl; (repeat (first | exact P0 | apply P1)); done) | (apply rdlv 1 hz1 rfl; (repeat (first | exact P0 | apply P1)); done) | (apply rdlv 2 hz1 rfl; (repeat (first | exact P0 | apply P1)); done) | (apply rdlv 3 hz1 rfl; (repeat (first | exact P0 | apply P1)); done) | (apply rdlv 4 hz1 rfl; (repeat (first | exact P0 | apply P1)); done) | (apply rdlv 0 hz2 rfl; (repeat (first | exact P0 | apply P1)); done) | (apply rdlv 1 hz2 rfl; (repeat (first | exact P0 | apply P1)); done) | (apply rdlv 2 hz2 rfl; (repeat (first | exact P0 | apply P1)); done) | (apply rdlv 3 hz2 rfl; (repeat (first | exact P0 | apply P1)); done) | (apply rdlv 4 hz2 rfl; (repeat (first | exact P0 | apply P1)); done) | (apply Rd.own; (repeat (first | exact P0 | apply P1)); exact rfl; done) | (apply Rd.old; (first | (with_reducible assumption)); first | exact List.not_mem_nil)) | ((with_reducible apply t_id); first | ((with_reducible apply t_seq)) | (apply t_region; kernel_rfl) | (apply t_drawn; kernel_rfl; decide +kernel; try simp only [List.append_eq, List.cons_append, List.nil_append]) | ((with_reducible apply t_condT); exact rfl) | ((with_reducible apply t_condF); exact rfl) | ((with_reducible apply t_condD); exact rfl; all_goals first | (intro hp; try (exfalso; omega)) | skip) | ((with_reducible apply t_condN); exact rfl; all_goals first | (intro hp; try (exfalso; omega)) | skip) | ((with_reducible apply t_cond); exact rfl; all_goals first | intro hp | skip) | ((with_reducible apply t_ret)) | ((with_reducible apply t_skip)) | ((with_reducible apply t_exit)) | ((with_reducible apply t_block))) | with_reducible apply q_thenN | with_reducible apply q_thenR | with_reducible apply q_blockR | with_reducible apply q_blockN | with_reducible apply q_thenE | ((with_reducible apply q_blockE); exact rfl) | ((with_reducible apply q_blockO); exact rfl) | exact P0 | ((with_reducible apply P1)) | exact Rdn.zero | apply Rdn.succ | ((with_reducible apply Norm.nil); exact rfl) | ((with_reducible apply Norm.cons); exact rfl) | ((with_reducible apply end_ret)) | ((with_reducible apply end_normal)) | exact rvs_nil | ((with_reducible apply rvs_cons)) | ((with_reducible apply rv_tmp); exact rfl) | exact Nat.le_of_ble_eq_true rfl | exact (rfl : (_ : Bool) = true) | omega | (intro _ _; with_reducible apply tl_id) | (intro _; with_reducible apply tl_id) | (intro _ _; with_reducible apply al_id) | (intro _; with_reducible apply al_id))
            all_goals (refine ⟨k + 1, by omega, by omega, ?_, ?_⟩ <;> (try simp only [List.cons_append, List.nil_append]) <;> (repeat' (first | exact FrSub.nil | (apply FrSub.cons; exact rfl) | exact HpSub.refl _ | (apply HpSub.consE; (repeat (first | exact P0 | apply P1)); exact rfl) | exact HpSub.nil)))
          · obtain rfl : k = l.length := by omega
            repeat' (first | ((with_reducible apply oq_id); first | ((with_reducible apply oq_leqT); exact rfl; exact rfl; omega) | ((with_reducible apply oq_leqF); exact rfl; exact rfl; omega) | ((with_reducible apply oq_lssT); exact rfl; exact rfl; omega) | ((with_reducible apply oq_lssF); exact rfl; exact rfl; omega) | ((with_reducible apply oq_gtrT); exact rfl; exact rfl; omega) | ((with_reducible apply oq_gtrF); exact rfl; exact rfl; omega) | ((with_reducible apply oq_geqT); exact rfl; exact rfl; omega) | ((with_reducible apply oq_geqF); exact rfl; exact rfl; omega) | ((with_reducible apply oq_eqlT); exact rfl; exact rfl; omega) | ((with_reducible apply oq_eqlF); exact rfl; exact rfl; omega) | ((with_reducible apply oq_neqT); exact rfl; exact rfl; omega) | ((with_reducible apply oq_neqF); exact rfl; exact rfl; omega) | (apply oq_fn; exact rfl; first | exact trivial | (refine ⟨?_, ?_⟩ <;> omega) | (refine ⟨?_, ?_, ?_⟩ <;> omega) | omega | skip) | ((with_reducible apply oq_load); exact rfl; exact rfl) | ((with_reducible apply oq_loadAgg); exact rfl; exact rfl)) | ((with_reducible apply tl_id); first | ((with_reducible apply tl_nil)) | ((with_reducible apply u_q); exact rfl; exact rfl; exact rfl; exact rfl) | ((with_reducible apply u_s0); exact rfl; exact rfl) | ((with_reducible apply u_s); exact rfl; exact rfl; exact rfl) | ((with_reducible apply u_skip); exact rfl; exact rfl; exact rfl) | ((with_reducible apply u_splitD); exact rfl; exact rfl; all_goals first | (intro hp; try (exfalso; omega)) | skip) | ((with_reducible apply u_splitN); exact rfl; exact rfl; all_goals first | (intro hp; try (exfalso; omega)) | skip) | ((with_reducible apply u_split); exact rfl; exact rfl; all_goals first | intro hp | skip)) | ((with_reducible apply gx_id); first | ((with_reducible apply v_nil)) | ((with_reducible apply v_q); exact rfl; exact rfl; exact rfl) | ((with_reducible apply v_skip); exact rfl; exact rfl; exact rfl) | ((with_reducible apply v_splitD); exact rfl; exact rfl; all_goals first | (intro hp; try (exfalso; omega)) | skip) | ((with_reducible apply v_splitN); exact rfl; exact rfl; all_goals first | (intro hp; try (exfalso; omega)) | skip) | ((with_reducible apply v_split); exact rfl; exact rfl; all_goals first | intro hp | skip)) | ((with_reducible apply os_id); first | ((with_reducible apply os_x); exact rfl) | ((with_reducible apply os_store); exact rfl; exact rfl; exact rfl; exact rfl) | ((with_reducible apply os_storeAgg); exact rfl; exact rfl; exact rfl; exact rfl; exact rfl)) | ((with_reducible apply ox_id); first | ((with_reducible apply ox_buildSlice1); exact rfl; exact rfl; exact rfl; exact rfl; exact rfl; exact rfl; intro _) | ((with_reducible apply ox_buildSlice2); exact rfl; exact rfl; exact rfl; exact rfl; exact rfl; exact rfl; intro _) | ((with_reducible apply ox_buildSlice); exact rfl; exact rfl; exact rfl; exact rfl)) | ((with_reducible apply rd_id); first | (apply Rd.own; (repeat (first | exact P0 | apply P1)); exact rfl; done) | (apply Rd.old; (first | (with_reducible assumption)); first | exact List.not_mem_nil)) | ((with_reducible apply t_id); first | ((with_reducible apply t_seq)) | (apply t_region; kernel_rfl) | (apply t_drawn; kernel_rfl; decide +kernel; try simp only [List.append_eq, List.cons_append, List.nil_append]) | ((with_reducible apply t_condT); exact rfl) | ((with_reducible apply t_condF); exact rfl) | ((with_reducible apply t_condD); exact rfl; all_goals first | (intro hp; try (exfalso; omega)) | skip) | ((with_reducible apply t_condN); exact rfl; all_goals first | (intro hp; try (exfalso; omega)) | skip) | ((with_reducible apply t_cond); exact rfl; all_goals first | intro hp | skip) | ((with_reducible apply t_ret)) | ((with_reducible apply t_skip)) | ((with_reducible apply t_exit)) | ((with_reducible apply t_block))) | with_reducible apply q_thenN | with_reducible apply q_thenR | with_reducible apply q_blockR | with_reducible apply q_blockN | with_reducible apply q_thenE | ((with_reducible apply q_blockE); exact rfl) | ((with_reducible apply q_blockO); exact rfl) | exact P0 | ((with_reducible apply P1)) | exact Rdn.zero | apply Rdn.succ | ((with_reducible apply Norm.nil); exact rfl) | ((with_reducible apply Norm.cons); exact rfl) | ((with_reducible apply end_ret)) | ((with_reducible apply end_normal)) | exact rvs_nil | ((with_reducible apply rvs_cons)) | ((with_reducible apply rv_tmp); exact rfl) | exact Nat.le_of_ble_eq_true rfl | exact (rfl : (_ : Bool) = true) | omega | (intro _ _; with_reducible apply tl_id) | (intro _; with_reducible apply tl_id) | (intro _ _; with_reducible apply al_id) | (intro _; with_reducible apply al_id))
            all_goals rfl
    · obtain rfl : n1 = 0 := by omega
      refine enterQ (c := cx w 198) Try.func11 rfl rfl rfl rfl ?_
      repeat' (first | ((with_reducible apply oq_id); first | ((with_reducible apply oq_leqT); exact rfl; exact rfl; omega) | ((with_reducible apply oq_leqF); exact rfl; exact rfl; omega) | ((with_reducible apply oq_lssT); exact rfl; exact rfl; omega) | ((with_reducible apply oq_lssF); exact rfl; exact rfl; omega) | ((with_reducible apply oq_gtrT); exact rfl; exact rfl; omega) | ((with_reducible apply oq_gtrF); exact rfl; exact rfl; omega) | ((with_reducible apply oq_geqT); exact rfl; exact rfl; omega) | ((with_reducible apply oq_geqF); exact rfl; exact rfl; omega) | ((with_reducible apply oq_eqlT); exact rfl; exact rfl; omega) | ((with_reducible apply oq_eqlF); exact rfl; exact rfl; omega) | ((with_reducible apply oq_neqT); exact rfl; exact rfl; omega) | ((with_reducible apply oq_neqF); exact rfl; exact rfl; omega) | (apply oq_fn; exact rfl; first | exact trivial | (refine ⟨?_, ?_⟩ <;> omega) | (refine ⟨?_, ?_, ?_⟩ <;> omega) | omega | skip) | ((with_reducible apply oq_load); exact rfl; exact rfl) | ((with_reducible apply oq_loadAgg); exact rfl; exact rfl) | ((with_reducible apply oq_call (k := 48) (hc := Try.call48)); exact rfl; exact rfl; exact fun D w1 hw1 => alive_calls w1) | ((with_reducible apply oq_call (k := 27) (hc := Try.call27)); exact rfl; exact rfl; exact fun D w1 hw1 => greatS_calls _ w1) | ((with_reducible apply oq_call (k := 39) (hc := Try.call39)); exact rfl; exact rfl; exact fun D w1 hw1 => HR w1 hw1.ext.ext)) | ((with_reducible apply tl_id); first | ((with_reducible apply tl_nil)) | ((with_reducible apply u_q); exact rfl; exact rfl; exact rfl; exact rfl) | ((with_reducible apply u_s0); exact rfl; exact rfl) | ((with_reducible apply u_s); exact rfl; exact rfl; exact rfl) | ((with_reducible apply u_skip); exact rfl; exact rfl; exact rfl) | ((with_reducible apply u_splitD); exact rfl; exact rfl; all_goals first | (intro hp; try (exfalso; omega)) | skip) | ((with_reducible apply u_splitN); exact rfl; exact rfl; all_goals first | (intro hp; try (exfalso; omega)) | skip) | ((with_reducible apply u_split); exact rfl; exact rfl; all_goals first | intro hp | skip)) | ((with_reducible apply gx_id); first | ((with_reducible apply v_nil)) | ((with_reducible apply v_q); exact rfl; exact rfl; exact rfl) | ((with_reducible apply v_skip); exact rfl; exact rfl; exact rfl) | ((with_reducible apply v_splitD); exact rfl; exact rfl; all_goals first | (intro hp; try (exfalso; omega)) | skip) | ((with_reducible apply v_splitN); exact rfl; exact rfl; all_goals first | (intro hp; try (exfalso; omega)) | skip) | ((with_reducible apply v_split); exact rfl; exact rfl; all_goals first | intro hp | skip)) | ((with_reducible apply os_id); first | ((with_reducible apply os_x); exact rfl) | ((with_reducible apply os_store); exact rfl; exact rfl; exact rfl; exact rfl) | ((with_reducible apply os_storeAgg); exact rfl; exact rfl; exact rfl; exact rfl; exact rfl)) | ((with_reducible apply ox_id); first | ((with_reducible apply ox_buildSlice1); exact rfl; exact rfl; exact rfl; exact rfl; exact rfl; exact rfl; intro _) | ((with_reducible apply ox_buildSlice2); exact rfl; exact rfl; exact rfl; exact rfl; exact rfl; exact rfl; intro _) | ((with_reducible apply ox_buildSlice); exact rfl; exact rfl; exact rfl; exact rfl)) | ((with_reducible apply rd_id); first | (apply Rd.own; (repeat (first | exact P0 | apply P1)); exact rfl; done) | (apply Rd.old; (first | (with_reducible assumption)); first | exact List.not_mem_nil)) | ((with_reducible apply t_id); first | ((with_reducible apply t_seq)) | (apply t_region; kernel_rfl) | (apply t_drawn; kernel_rfl; decide +kernel; try simp only [List.append_eq, List.cons_append, List.nil_append]) | ((with_reducible apply t_condT); exact rfl) | ((with_reducible apply t_condF); exact rfl) | ((with_reducible apply t_condD); exact rfl; all_goals first | (intro hp; try (exfalso; omega)) | skip) | ((with_reducible apply t_condN); exact rfl; all_goals first | (intro hp; try (exfalso; omega)) | skip) | ((with_reducible apply t_cond); exact rfl; all_goals first | intro hp | skip) | ((with_reducible apply t_ret)) | ((with_reducible apply t_skip)) | ((with_reducible apply t_exit)) | ((with_reducible apply t_block))) | with_reducible apply q_thenN | with_reducible apply q_thenR | with_reducible apply q_blockR | with_reducible apply q_blockN | with_reducible apply q_thenE | ((with_reducible apply q_blockE); exact rfl) | ((with_reducible apply q_blockO); exact rfl) | exact P0 | ((with_reducible apply P1)) | exact Rdn.zero | apply Rdn.succ | ((with_reducible apply Norm.nil); exact rfl) | ((with_reducible apply Norm.cons); exact rfl) | ((with_reducible apply end_ret)) | ((with_reducible apply end_normal)) | exact rvs_nil | ((with_reducible apply rvs_cons)) | ((with_reducible apply rv_tmp); exact rfl) | exact Nat.le_of_ble_eq_true rfl | exact (rfl : (_ : Bool) = true) | omega | (intro _ _; with_reducible apply tl_id) | (intro _; with_reducible apply tl_id) | (intro _ _; with_reducible apply al_id) | (intro _; with_reducible apply al_id))
      all_goals rfl
  · refine enterQ (c := cx w 198) Try.func11 rfl rfl rfl rfl ?_
    repeat' (first | ((with_reducible apply oq_id); first | ((with_reducible apply oq_leqT); exact rfl; exact rfl; omega) | ((with_reducible apply oq_leqF); exact rfl; exact rfl; omega) | ((with_reducible apply oq_lssT); exact rfl; exact rfl; omega) | ((with_reducible apply oq_lssF); exact rfl; exact rfl; omega) | ((with_reducible apply oq_gtrT); exact rfl; exact rfl; omega) | ((with_reducible apply oq_gtrF); exact rfl; exact rfl; omega) | ((with_reducible apply oq_geqT); exact rfl; exact rfl; omega) | ((with_reducible apply oq_geqF); exact rfl; exact rfl; omega) | ((with_reducible apply oq_eqlT); exact rfl; exact rfl; omega) | ((with_reducible apply oq_eqlF); exact rfl; exact rfl; omega) | ((with_reducible apply oq_neqT); exact rfl; exact rfl; omega) | ((with_reducible apply oq_neqF); exact rfl; exact rfl; omega) | (apply oq_fn; exact rfl; first | exact trivial | (refine ⟨?_, ?_⟩ <;> omega) | (refine ⟨?_, ?_, ?_⟩ <;> omega) | omega | skip) | ((with_reducible apply oq_load); exact rfl; exact rfl) | ((with_reducible apply oq_loadAgg); exact rfl; exact rfl) | ((with_reducible apply oq_call (k := 48) (hc := Try.call48)); exact rfl; exact rfl; exact fun D w1 hw1 => alive_calls w1) | ((with_reducible apply oq_call (k := 27) (hc := Try.call27)); exact rfl; exact rfl; exact fun D w1 hw1 => greatS_calls _ w1)) | ((with_reducible apply tl_id); first | ((with_reducible apply tl_nil)) | ((with_reducible apply u_q); exact rfl; exact rfl; exact rfl; exact rfl) | ((with_reducible apply u_s0); exact rfl; exact rfl) | ((with_reducible apply u_s); exact rfl; exact rfl; exact rfl) | ((with_reducible apply u_skip); exact rfl; exact rfl; exact rfl) | ((with_reducible apply u_splitD); exact rfl; exact rfl; all_goals first | (intro hp; try (exfalso; omega)) | skip) | ((with_reducible apply u_splitN); exact rfl; exact rfl; all_goals first | (intro hp; try (exfalso; omega)) | skip) | ((with_reducible apply u_split); exact rfl; exact rfl; all_goals first | intro hp | skip)) | ((with_reducible apply gx_id); first | ((with_reducible apply v_nil)) | ((with_reducible apply v_q); exact rfl; exact rfl; exact rfl) | ((with_reducible apply v_skip); exact rfl; exact rfl; exact rfl) | ((with_reducible apply v_splitD); exact rfl; exact rfl; all_goals first | (intro hp; try (exfalso; omega)) | skip) | ((with_reducible apply v_splitN); exact rfl; exact rfl; all_goals first | (intro hp; try (exfalso; omega)) | skip) | ((with_reducible apply v_split); exact rfl; exact rfl; all_goals first | intro hp | skip)) | ((with_reducible apply os_id); first | ((with_reducible apply os_x); exact rfl) | ((with_reducible apply os_store); exact rfl; exact rfl; exact rfl; exact rfl) | ((with_reducible apply os_storeAgg); exact rfl; exact rfl; exact rfl; exact rfl; exact rfl)) | ((with_reducible apply ox_id); first | ((with_reducible apply ox_buildSlice1); exact rfl; exact rfl; exact rfl; exact rfl; exact rfl; exact rfl; intro _) | ((with_reducible apply ox_buildSlice2); exact rfl; exact rfl; exact rfl; exact rfl; exact rfl; exact rfl; intro _) | ((with_reducible apply ox_buildSlice); exact rfl; exact rfl; exact rfl; exact rfl)) | ((with_reducible apply rd_id); first | (apply Rd.own; (repeat (first | exact P0 | apply P1)); exact rfl; done) | (apply Rd.old; (first | (with_reducible assumption)); first | exact List.not_mem_nil)) | ((with_reducible apply t_id); first | ((with_reducible apply t_seq)) | (apply t_region; kernel_rfl) | (apply t_drawn; kernel_rfl; decide +kernel; try simp only [List.append_eq, List.cons_append, List.nil_append]) | ((with_reducible apply t_condT); exact rfl) | ((with_reducible apply t_condF); exact rfl) | ((with_reducible apply t_condD); exact rfl; all_goals first | (intro hp; try (exfalso; omega)) | skip) | ((with_reducible apply t_condN); exact rfl; all_goals first | (intro hp; try (exfalso; omega)) | skip) | ((with_reducible apply t_cond); exact rfl; all_goals first | intro hp | skip) | ((with_reducible apply t_ret)) | ((with_reducible apply t_skip)) | ((with_reducible apply t_exit)) | ((with_reducible apply t_block))) | with_reducible apply q_thenN | with_reducible apply q_thenR | with_reducible apply q_blockR | with_reducible apply q_blockN | with_reducible apply q_thenE | ((with_reducible apply q_blockE); exact rfl) | ((with_reducible apply q_blockO); exact rfl) | exact P0 | ((with_reducible apply P1)) | exact Rdn.zero | apply Rdn.succ | ((with_reducible apply Norm.nil); exact rfl) | ((with_reducible apply Norm.cons); exact rfl) | ((with_reducible apply end_ret)) | ((with_reducible apply end_normal)) | exact rvs_nil | ((with_reducible apply rvs_cons)) | ((with_reducible apply rv_tmp); exact rfl) | exact Nat.le_of_ble_eq_true rfl | exact (rfl : (_ : Bool) = true) | omega | (intro _ _; with_reducible apply tl_id) | (intro _; with_reducible apply tl_id) | (intro _ _; with_reducible apply al_id) | (intro _; with_reducible apply al_id))
    all_goals rfl

end Go.Proofs.Ytalidommelefaaa
