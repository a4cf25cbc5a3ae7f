/- Soundings: what levels say of each other, and where that settles. Plain laws. -/
import Derived.Test.YtalidommelefaaaTabP
import Derived.Test.YtalidommelefaaaSpn
namespace Go.Proofs.Ytalidommelefaaa
set_option linter.unusedVariables false
set_option linter.unusedSimpArgs false
theorem joinS_left (a b : Int × Int) : SIn (joinS a b) a := by unfold SIn joinS; simp only; omega
theorem joinS_right (a b : Int × Int) : SIn (joinS a b) b := by unfold SIn joinS; simp only; omega
theorem joinS_least {a b c : Int × Int} (h : SIn c a) (k : SIn c b) : SIn c (joinS a b) := by unfold SIn joinS at *; simp only; omega
theorem joinS_same {a b : Int × Int} (h : SIn a b) : joinS a b = a := (joinS_left a b).antisymm (joinS_least (.refl a) h)

/-- A level: its height, pressure and temperature. -/
structure Lv where
  h : Int
  plo : Int
  phi : Int
  tlo : Int
  thi : Int
def Lv.press (x : Lv) : Int × Int := (x.plo, x.phi)
def Lv.temp (x : Lv) : Int × Int := (x.tlo, x.thi)
def Lv.put (x : Lv) (s : Int × Int) : Lv := ⟨x.h, s.1, s.2, x.tlo, x.thi⟩
/-- What a pressure may be so many metres higher, in a temperature. -/
def riseV (p : Int × Int) (climb : Int) (t : Int × Int) : Int × Int :=
  (p.1 * (1000000 * t.1 - 341632 * climb) / (1000000 * t.1), (p.2 * (1000000 * t.2) + (1000000 * t.2) + 341632 * climb - 1) / (1000000 * t.2 + 341632 * climb))
/-- And so many lower. -/
def sinkV (p : Int × Int) (climb : Int) (t : Int × Int) : Int × Int :=
  (p.1 * (1000000 * t.2 + 341632 * climb) / (1000000 * t.2), (p.2 * (1000000 * t.1) + (1000000 * t.1) - 341632 * climb - 1) / (1000000 * t.1 - 341632 * climb))
/-- What climbs and temperatures there are. -/
structure GapOk (climb : Int) (t : Int × Int) : Prop where
  c0 : 0 ≤ climb
  c1 : climb ≤ 2000
  t0 : 1500 ≤ t.1
  t1 : t.1 ≤ t.2
  t2 : t.2 ≤ 3500
theorem SIn.mk1 {a b : Int × Int} (h1 : a.1 ≤ b.1) (h2 : b.2 ≤ a.2) : SIn b a := ⟨h1, h2⟩
theorem ediv_mono {a b d : Int} (hd : 0 < d) (h : a ≤ b) : a / d ≤ b / d := Int.ediv_le_ediv hd h
theorem rise_mono {p q t : Int × Int} {c : Int} (hg : GapOk c t) (h : SIn q p) : SIn (riseV q c t) (riseV p c t) := by
  obtain ⟨c0, c1, t0, t1, t2⟩ := hg
  refine ⟨ediv_mono (by omega) (Int.mul_le_mul_of_nonneg_right h.1 (by omega)), ediv_mono (by omega) ?_⟩
  have := Int.mul_le_mul_of_nonneg_right (c := 1000000 * t.2) h.2 (by omega)
  omega
theorem sink_mono {p q t : Int × Int} {c : Int} (hg : GapOk c t) (h : SIn q p) : SIn (sinkV q c t) (sinkV p c t) := by
  obtain ⟨c0, c1, t0, t1, t2⟩ := hg
  refine ⟨ediv_mono (by omega) (Int.mul_le_mul_of_nonneg_right h.1 (by omega)), ediv_mono (by omega) ?_⟩
  have := Int.mul_le_mul_of_nonneg_right (c := 1000000 * t.1) h.2 (by omega)
  omega
/-- Down and up: rounded down, it is not more. -/
theorem fl_fl {x a b c d : Int} (hx : 0 ≤ x) (ha : 0 ≤ a) (hb : 0 < b) (hc : 0 ≤ c) (hd : 0 < d) (h : a * c ≤ b * d) : x * a / b * c / d ≤ x := by
  refine Int.ediv_le_of_le_mul hd ?_
  have h1 := Int.ediv_mul_le (x * a) (Int.ne_of_gt hb)
  -- (x a / b) b ≤ x a; times c: ≤ x a c ≤ x b d
  have h2 : x * a / b * b * c ≤ x * a * c := Int.mul_le_mul_of_nonneg_right h1 hc
  have h3 : x * (a * c) ≤ x * (b * d) := Int.mul_le_mul_of_nonneg_left h hx
  have h4 : b * (x * a / b * c) ≤ b * (x * d) := by
    have e1 : b * (x * a / b * c) = x * a / b * b * c := by ac_rfl
    have e2 : b * (x * d) = x * (b * d) := by ac_rfl
    have e3 : x * a * c = x * (a * c) := by ac_rfl
    omega
  exact Int.le_of_mul_le_mul_left h4 hb
/-- a / b, rounded up. -/
theorem cd_le {a b : Int} (hb : 0 < b) : a ≤ (a + b - 1) / b * b := by
  have := Int.lt_ediv_add_one_mul_self (a + b - 1) hb
  rw [Int.add_mul, Int.one_mul] at this
  omega
theorem cd_cd {x a b c d : Int} (hx : 0 ≤ x) (hb : 0 < b) (hc : 0 ≤ c) (hd : 0 < d) (h : b * d ≤ a * c) : x ≤ ((x * a + b - 1) / b * c + d - 1) / d := by
  have h1 := cd_le (a := x * a) hb
  have h2 := cd_le (a := (x * a + b - 1) / b * c) hd
  have h3 : x * a * c ≤ (x * a + b - 1) / b * b * c := Int.mul_le_mul_of_nonneg_right h1 hc
  have h4 : b * ((x * a + b - 1) / b * c) ≤ b * (((x * a + b - 1) / b * c + d - 1) / d * d) := Int.mul_le_mul_of_nonneg_left h2 (by omega)
  have h5 : x * (b * d) ≤ x * (a * c) := Int.mul_le_mul_of_nonneg_left h hx
  have h6 : (b * d) * x ≤ (b * d) * (((x * a + b - 1) / b * c + d - 1) / d) := by
    generalize (x * a + b - 1) / b = y at *
    generalize (y * c + d - 1) / d = z at *
    have e1 : b * (z * d) = b * d * z := by ac_rfl
    have e2 : b * (y * c) = y * b * c := by ac_rfl
    have e3 : x * a * c = x * (a * c) := by ac_rfl
    have e4 : b * d * x = x * (b * d) := by ac_rfl
    omega
  exact Int.le_of_mul_le_mul_left h6 (Int.mul_pos hb hd)
theorem gap_prod {t : Int × Int} {c : Int} (hg : GapOk c t) : (1000000 * t.1 - 341632 * c) * (1000000 * t.2 + 341632 * c) ≤ 1000000 * t.1 * (1000000 * t.2) := by
  obtain ⟨c0, c1, t0, t1, t2⟩ := hg
  generalize hu : 1000000 * t.1 = u
  generalize hv : 1000000 * t.2 = v
  generalize hs : 341632 * c = s
  have h0 : 0 ≤ s := by omega
  have e : (u - s) * (v + s) = u * v - s * (v - u) - s * s := by
    simp only [Int.sub_mul, Int.mul_add, Int.mul_sub]
    have : s * u = u * s := Int.mul_comm ..
    omega
  have h1 : 0 ≤ s * (v - u) := Int.mul_nonneg h0 (by omega)
  have h2 : 0 ≤ s * s := Int.mul_nonneg h0 h0
  omega
theorem rise_sink {x t : Int × Int} {c : Int} (hg : GapOk c t) (h1 : 0 ≤ x.1) (h2 : 0 ≤ x.2) : SIn x (riseV (sinkV x c t) c t) := by
  have hp := gap_prod hg
  obtain ⟨c0, c1, t0, t1, t2⟩ := hg
  unfold riseV sinkV
  refine ⟨fl_fl h1 (by omega) (by omega) (by omega) (by omega) ?_, ?_⟩
  · rw [Int.mul_comm]; rw [Int.mul_comm (1000000 * t.2)]; exact hp
  · have := cd_cd (x := x.2) (a := 1000000 * t.1) (b := 1000000 * t.1 - 341632 * c) (c := 1000000 * t.2) (d := 1000000 * t.2 + 341632 * c) h2 (by omega) (by omega) (by omega) hp
    simp only
    rw [show x.2 * (1000000 * t.1) + 1000000 * t.1 - 341632 * c - 1 = x.2 * (1000000 * t.1) + (1000000 * t.1 - 341632 * c) - 1 by omega]
    generalize (x.2 * (1000000 * t.1) + (1000000 * t.1 - 341632 * c) - 1) / (1000000 * t.1 - 341632 * c) = y at *
    rw [show y * (1000000 * t.2) + 1000000 * t.2 + 341632 * c - 1 = y * (1000000 * t.2) + (1000000 * t.2 + 341632 * c) - 1 by omega]
    exact this
theorem sink_rise {x t : Int × Int} {c : Int} (hg : GapOk c t) (h1 : 0 ≤ x.1) (h2 : 0 ≤ x.2) : SIn x (sinkV (riseV x c t) c t) := by
  have hp := gap_prod hg
  obtain ⟨c0, c1, t0, t1, t2⟩ := hg
  unfold riseV sinkV
  refine ⟨fl_fl h1 (by omega) (by omega) (by omega) (by omega) hp, ?_⟩
  · have := cd_cd (x := x.2) (a := 1000000 * t.2) (b := 1000000 * t.2 + 341632 * c) (c := 1000000 * t.1) (d := 1000000 * t.1 - 341632 * c) h2 (by omega) (by omega) (by omega) (by rw [Int.mul_comm]; rw [Int.mul_comm (1000000 * t.2)]; exact hp)
    simp only
    rw [show x.2 * (1000000 * t.2) + 1000000 * t.2 + 341632 * c - 1 = x.2 * (1000000 * t.2) + (1000000 * t.2 + 341632 * c) - 1 by omega]
    generalize (x.2 * (1000000 * t.2) + (1000000 * t.2 + 341632 * c) - 1) / (1000000 * t.2 + 341632 * c) = y at *
    rw [show y * (1000000 * t.1) + 1000000 * t.1 - 341632 * c - 1 = y * (1000000 * t.1) + (1000000 * t.1 - 341632 * c) - 1 by omega]
    exact this
theorem rise_pos {x t : Int × Int} {c : Int} (hg : GapOk c t) (h1 : 0 ≤ x.1) (h2 : 0 ≤ x.2) : 0 ≤ (riseV x c t).1 ∧ (riseV x c t).1 ≤ x.1 ∧ 0 ≤ (riseV x c t).2 := by
  obtain ⟨c0, c1, t0, t1, t2⟩ := hg
  unfold riseV
  refine ⟨Int.ediv_nonneg (Int.mul_nonneg h1 (by omega)) (by omega), Int.ediv_le_of_le_mul (by omega) (Int.mul_le_mul_of_nonneg_left (by omega) h1), Int.ediv_nonneg ?_ (by omega)⟩
  have := Int.mul_nonneg h2 (show 0 ≤ 1000000 * t.2 by omega)
  omega
theorem sink_pos {x t : Int × Int} {c : Int} (hg : GapOk c t) (h1 : 0 ≤ x.1) (h2 : 0 ≤ x.2) : 0 ≤ (sinkV x c t).1 ∧ (sinkV x c t).1 ≤ 2 * x.1 ∧ 0 ≤ (sinkV x c t).2 := by
  obtain ⟨c0, c1, t0, t1, t2⟩ := hg
  unfold sinkV
  refine ⟨Int.ediv_nonneg (Int.mul_nonneg h1 (by omega)) (by omega), Int.ediv_le_of_le_mul (by omega) ?_, Int.ediv_nonneg ?_ (by omega)⟩
  · rw [Int.mul_comm 2 x.1, Int.mul_assoc]; exact Int.mul_le_mul_of_nonneg_left (by omega) h1
  · have := Int.mul_nonneg h2 (show 0 ≤ 1000000 * t.1 by omega)
    omega
def gapT (a b : Lv) : Int × Int := hullS a.temp b.temp
/-- What a level says of the next one, and the next one of it. -/
def upI (a b : Lv) : Int × Int := riseV a.press (b.h - a.h) (gapT a b)
def dnI (a b : Lv) : Int × Int := sinkV b.press (b.h - a.h) (gapT a b)
/-- b, with what a below it says. -/
def upB (a b : Lv) : Lv := b.put (joinS b.press (upI a b))
/-- a, with what b above it says. -/
def dnA (a b : Lv) : Lv := a.put (joinS a.press (dnI a b))
def upF : Lv → List Lv → List Lv
  | a, [] => [a]
  | a, b :: r => a :: upF (upB a b) r
def upL : List Lv → List Lv
  | [] => []
  | a :: r => upF a r
def dnH (a : Lv) : List Lv → List Lv
  | [] => [a]
  | b :: r => dnA a b :: b :: r
def dnL : List Lv → List Lv
  | [] => []
  | a :: r => dnH a (dnL r)
def setl (l : List Lv) : List Lv := dnL (upL l)
/-- One step up, one step down. -/
def takeUp (l : List Lv) (i : Nat) : List Lv := match l[i]?, l[i + 1]? with
  | some a, some b => l.set (i + 1) (upB a b)
  | _, _ => l
def takeDn (l : List Lv) (i : Nat) : List Lv := match l[i]?, l[i + 1]? with
  | some a, some b => l.set i (dnA a b)
  | _, _ => l
theorem takeUp_len (l : List Lv) (i : Nat) : (takeUp l i).length = l.length := by unfold takeUp; split <;> simp
theorem takeDn_len (l : List Lv) (i : Nat) : (takeDn l i).length = l.length := by unfold takeDn; split <;> simp
theorem takeUp_cons (a : Lv) (l : List Lv) (i : Nat) : takeUp (a :: l) (i + 1) = a :: takeUp l i := by
  unfold takeUp
  simp only [List.getElem?_cons_succ]
  split <;> simp
theorem takeDn_cons (a : Lv) (l : List Lv) (i : Nat) : takeDn (a :: l) (i + 1) = a :: takeDn l i := by
  unfold takeDn
  simp only [List.getElem?_cons_succ]
  split <;> simp
def upTo (k : Nat) (l : List Lv) : List Lv := (List.range k).foldl takeUp l
theorem upTo_succ (k : Nat) (l : List Lv) : upTo (k + 1) l = takeUp (upTo k l) k := by
  unfold upTo
  rw [List.range_succ, List.foldl_append]
  rfl
theorem upTo_len (k : Nat) (l : List Lv) : (upTo k l).length = l.length := by
  induction k with
  | zero => rfl
  | succ k ih => rw [upTo_succ, takeUp_len, ih]
theorem upTo_cons (k : Nat) (a b : Lv) (r : List Lv) : upTo (k + 1) (a :: b :: r) = a :: upTo k (upB a b :: r) := by
  induction k with
  | zero => rfl
  | succ k ih => rw [upTo_succ, ih, takeUp_cons, ← upTo_succ]
theorem upTo_all : ∀ (a : Lv) (r : List Lv), upTo r.length (a :: r) = upF a r
  | a, [] => rfl
  | a, b :: r => by
    rw [List.length_cons, upTo_cons, upTo_all (upB a b) r]
    rfl
def dnS : Nat → List Lv → List Lv
  | 0, l => l
  | m + 1, l => takeDn (dnS m l) (l.length - 2 - m)
theorem dnS_len (m : Nat) (l : List Lv) : (dnS m l).length = l.length := by
  induction m with
  | zero => rfl
  | succ m ih => simp only [dnS]; rw [takeDn_len, ih]
theorem dnS_cons (a : Lv) (r : List Lv) : ∀ m, m + 1 ≤ r.length → dnS m (a :: r) = a :: dnS m r
  | 0, _ => rfl
  | m + 1, h => by
    simp only [dnS]
    rw [dnS_cons a r m (by omega), List.length_cons, show r.length + 1 - 2 - m = (r.length - 2 - m) + 1 by omega, takeDn_cons]
theorem upF_len : ∀ (a : Lv) (r : List Lv), (upF a r).length = r.length + 1
  | a, [] => rfl
  | a, b :: r => by simp [upF, upF_len (upB a b) r]
theorem dnH_len (a : Lv) (l : List Lv) : (dnH a l).length = l.length + 1 := by cases l <;> simp [dnH]
theorem dnL_len : ∀ (l : List Lv), (dnL l).length = l.length
  | [] => rfl
  | a :: r => by simp [dnL, dnH_len, dnL_len r]
theorem dnS_all : ∀ (l : List Lv), dnS (l.length - 1) l = dnL l
  | [] => rfl
  | [a] => rfl
  | a :: b :: r => by
    have ih := dnS_all (b :: r)
    simp only [List.length_cons, Nat.add_sub_cancel] at ih ⊢
    simp only [dnS]
    rw [dnS_cons a (b :: r) r.length (by simp), ih]
    simp only [List.length_cons, show r.length + 1 + 1 - 2 - r.length = 0 by omega]
    have hl := dnL_len (b :: r)
    show _ = dnH a (dnL (b :: r))
    cases hd : dnL (b :: r) with
    | nil => rw [hd] at hl; simp at hl
    | cons c s => rfl
theorem setl_len (l : List Lv) : (setl l).length = l.length := by
  unfold setl
  rw [dnL_len]
  cases l with
  | nil => rfl
  | cons a r => simp [upL, upF_len]

/-- The same levels, but tighter pressures. -/
inductive Tt : List Lv → List Lv → Prop
  | nil : Tt [] []
  | cons {y x : Lv} {m l : List Lv} (h : y.h = x.h ∧ y.tlo = x.tlo ∧ y.thi = x.thi ∧ SIn y.press x.press) (k : Tt m l) : Tt (y :: m) (x :: l)
theorem Tt.refl : ∀ (l : List Lv), Tt l l
  | [] => .nil
  | _ :: l => .cons ⟨rfl, rfl, rfl, .refl _⟩ (Tt.refl l)
theorem Tt.len {l m : List Lv} (h : Tt m l) : m.length = l.length := by
  induction h with
  | nil => rfl
  | cons _ _ ih => simp [ih]
theorem Tt.trans {l m n : List Lv} (h : Tt n m) (k : Tt m l) : Tt n l := by
  induction h generalizing l with
  | nil => exact k
  | cons h _ ih =>
    cases k with
    | cons h' k' => exact .cons ⟨h.1.trans h'.1, h.2.1.trans h'.2.1, h.2.2.1.trans h'.2.2.1, h.2.2.2.trans h'.2.2.2⟩ (ih k')
theorem Tt.antisymm {l m : List Lv} (h : Tt m l) (k : Tt l m) : m = l := by
  induction h with
  | nil => rfl
  | cons h _ ih =>
    cases k with
    | cons h' k' =>
      rw [ih k']
      rename_i y x m l _
      obtain ⟨a1, a2, a3, a4, a5⟩ := y
      obtain ⟨b1, b2, b3, b4, b5⟩ := x
      have e := h.2.2.2.antisymm h'.2.2.2
      simp only [Lv.press, Prod.mk.injEq] at e h
      obtain ⟨rfl, rfl, rfl, _⟩ := h
      obtain ⟨rfl, rfl⟩ := e
      rfl
theorem Tt.get {l m : List Lv} (h : Tt m l) {i : Nat} {y x : Lv} (hy : m[i]? = some y) (hx : l[i]? = some x) : y.h = x.h ∧ y.tlo = x.tlo ∧ y.thi = x.thi ∧ SIn y.press x.press := by
  induction h generalizing i with
  | nil => simp at hy
  | cons h _ ih =>
    cases i with
    | zero =>
      simp at hy hx
      subst hy hx
      exact h
    | succ i => exact ih (by simpa using hy) (by simpa using hx)
theorem Tt.set {l m : List Lv} (h : Tt m l) {i : Nat} {y x : Lv} (hx : l[i]? = some x) (hy : y.h = x.h ∧ y.tlo = x.tlo ∧ y.thi = x.thi ∧ SIn y.press x.press) : Tt (m.set i y) l := by
  induction h generalizing i with
  | nil => simp at hx
  | cons h k ih =>
    cases i with
    | zero =>
      simp at hx
      subst hx
      exact .cons hy k
    | succ i => exact .cons h (ih (by simpa using hx))
/-- A valid list: what is between neighbours, and no pressure below 0. -/
inductive Ch : List Lv → Prop
  | nil : Ch []
  | one {a : Lv} (h : 0 ≤ a.plo ∧ 0 ≤ a.phi) : Ch [a]
  | cons {a b : Lv} {l : List Lv} (h : 0 ≤ a.plo ∧ 0 ≤ a.phi) (g : GapOk (b.h - a.h) (gapT a b)) (k : Ch (b :: l)) : Ch (a :: b :: l)
theorem Ch.head {a : Lv} {l : List Lv} (h : Ch (a :: l)) : 0 ≤ a.plo ∧ 0 ≤ a.phi := by cases h <;> assumption
/-- Neighbours have nothing new to say. -/
inductive Fix : List Lv → Prop
  | nil : Fix []
  | one (a : Lv) : Fix [a]
  | cons {a b : Lv} {l : List Lv} (h : SIn b.press (upI a b)) (h' : SIn a.press (dnI a b)) (k : Fix (b :: l)) : Fix (a :: b :: l)
inductive FixU : List Lv → Prop
  | nil : FixU []
  | one (a : Lv) : FixU [a]
  | cons {a b : Lv} {l : List Lv} (h : SIn b.press (upI a b)) (k : FixU (b :: l)) : FixU (a :: b :: l)
theorem put_press (x : Lv) (s : Int × Int) : (x.put s).press = s := rfl
theorem upI_eq {a b a' b' : Lv} (h1 : a'.h = a.h) (h2 : a'.tlo = a.tlo) (h3 : a'.thi = a.thi) (k1 : b'.h = b.h) (k2 : b'.tlo = b.tlo) (k3 : b'.thi = b.thi) : gapT a' b' = gapT a b ∧ b'.h - a'.h = b.h - a.h := by
  unfold gapT Lv.temp
  rw [h1, h2, h3, k1, k2, k3]
  exact ⟨rfl, rfl⟩
theorem upB_pos {a b : Lv} (g : GapOk (b.h - a.h) (gapT a b)) (ha : 0 ≤ a.plo ∧ 0 ≤ a.phi) (hb : 0 ≤ b.plo ∧ 0 ≤ b.phi) : 0 ≤ (upB a b).plo ∧ 0 ≤ (upB a b).phi := by
  have := rise_pos g (x := a.press) ha.1 ha.2
  unfold upB Lv.put joinS upI
  simp only
  have := hb.1; have := hb.2
  unfold Lv.press at *
  simp only
  omega
theorem dnA_pos {a b : Lv} (g : GapOk (b.h - a.h) (gapT a b)) (ha : 0 ≤ a.plo ∧ 0 ≤ a.phi) (hb : 0 ≤ b.plo ∧ 0 ≤ b.phi) : 0 ≤ (dnA a b).plo ∧ 0 ≤ (dnA a b).phi := by
  have := sink_pos g (x := b.press) hb.1 hb.2
  unfold dnA Lv.put joinS dnI
  simp only
  have := ha.1; have := ha.2
  unfold Lv.press at *
  simp only
  omega
theorem Ch.put {x x' : Lv} {l : List Lv} (h : Ch (x :: l)) (h1 : x'.h = x.h) (h2 : x'.tlo = x.tlo) (h3 : x'.thi = x.thi) (hp : 0 ≤ x'.plo ∧ 0 ≤ x'.phi) : Ch (x' :: l) := by
  cases h with
  | one _ => exact .one hp
  | cons h g k =>
    rename_i b l
    have e := upI_eq (b' := b) (b := b) h1 h2 h3 rfl rfl rfl
    exact .cons hp (by rw [e.1, e.2]; exact g) k
theorem upF_ch : ∀ {r : List Lv} {a : Lv}, Ch (a :: r) → Ch (upF a r) ∧ FixU (upF a r) ∧ Tt (upF a r) (a :: r) ∧ ∃ s, upF a r = a :: s
  | [], a, h => ⟨h, .one a, .refl _, [], rfl⟩
  | b :: r, a, h => by
    cases h with
    | cons ha g k =>
      have hb : Ch (upB a b :: r) := k.put rfl rfl rfl (upB_pos g ha k.head)
      obtain ⟨i1, i2, i3, s, i4⟩ := upF_ch hb
      have hu : SIn (upB a b).press (upI a (upB a b)) := joinS_right _ _
      simp only [upF]
      refine ⟨?_, ?_, ?_, _, rfl⟩
      · rw [i4] at i1 ⊢
        exact .cons ha g i1
      · rw [i4] at i2 ⊢
        exact .cons hu i2
      · refine .cons ⟨rfl, rfl, rfl, .refl _⟩ (i3.trans (.cons ⟨rfl, rfl, rfl, joinS_left _ _⟩ (.refl r)))
theorem dnL_ch : ∀ {l : List Lv}, Ch l → FixU l → Ch (dnL l) ∧ Fix (dnL l) ∧ Tt (dnL l) l
  | [], _, _ => ⟨.nil, .nil, .nil⟩
  | [a], h, _ => ⟨h, .one a, .refl _⟩
  | a :: b :: r, h, hu => by
    cases h with
    | cons ha g k =>
      cases hu with
      | cons u1 u2 =>
        obtain ⟨i1, i2, i3⟩ := dnL_ch k u2
        show Ch (dnH a (dnL (b :: r))) ∧ Fix (dnH a (dnL (b :: r))) ∧ Tt (dnH a (dnL (b :: r))) (a :: b :: r)
        cases hd : dnL (b :: r) with
        | nil => rw [hd] at i3; cases i3
        | cons c s =>
          rw [hd] at i1 i2 i3
          cases i3 with
          | cons e i3 =>
            obtain ⟨e1, e2, e3, e4⟩ := e
            have eg := upI_eq (a := a) (a' := a) rfl rfl rfl e1 e2 e3
            have gc : GapOk (c.h - a.h) (gapT a c) := by rw [eg.1, eg.2]; exact g
            have hc := i1.head
            simp only [dnH]
            refine ⟨.cons (dnA_pos gc ha hc) gc i1, .cons ?_ (joinS_right _ _) i2, .cons ⟨rfl, rfl, rfl, joinS_left _ _⟩ (.cons ⟨e1, e2, e3, e4⟩ i3)⟩
            -- what a, tighter, says of c
            have m1 : SIn c.press (riseV a.press (c.h - a.h) (gapT a c)) := by
              have : SIn c.press (upI a b) := e4.trans u1
              unfold upI at this
              rw [eg.1, eg.2]; exact this
            have m2 : SIn c.press (riseV (sinkV c.press (c.h - a.h) (gapT a c)) (c.h - a.h) (gapT a c)) := rise_sink gc hc.1 hc.2
            show SIn c.press (riseV (joinS a.press (dnI a c)) (c.h - a.h) (gapT a c))
            unfold joinS dnI
            rcases Int.le_total a.press.1 (sinkV c.press (c.h - a.h) (gapT a c)).1 with h1 | h1 <;> rcases Int.le_total a.press.2 (sinkV c.press (c.h - a.h) (gapT a c)).2 with h2 | h2
            · rw [Int.max_eq_right h1, Int.min_eq_left h2]; exact ⟨m2.1, m1.2⟩
            · rw [Int.max_eq_right h1, Int.min_eq_right h2]; exact ⟨m2.1, m2.2⟩
            · rw [Int.max_eq_left h1, Int.min_eq_left h2]; exact ⟨m1.1, m1.2⟩
            · rw [Int.max_eq_left h1, Int.min_eq_right h2]; exact ⟨m1.1, m2.2⟩
theorem setl_fix {l : List Lv} (h : Ch l) : Ch (setl l) ∧ Fix (setl l) ∧ Tt (setl l) l := by
  cases l with
  | nil => exact ⟨.nil, .nil, .nil⟩
  | cons a r =>
    obtain ⟨h1, h2, h3, _⟩ := upF_ch h
    obtain ⟨k1, k2, k3⟩ := dnL_ch h1 h2
    exact ⟨k1, k2, k3.trans h3⟩
theorem Fix.get {l : List Lv} (h : Fix l) : ∀ {i : Nat} {a b : Lv}, l[i]? = some a → l[i + 1]? = some b → SIn b.press (upI a b) ∧ SIn a.press (dnI a b) := by
  induction h with
  | nil => intro i a b ha; simp at ha
  | one _ => intro i a b _ hb; simp at hb
  | cons h h' _ ih =>
    intro i a b ha hb
    cases i with
    | zero =>
      simp at ha hb
      subst ha hb
      exact ⟨h, h'⟩
    | succ i => exact ih (by simpa using ha) (by simpa using hb)
theorem Ch.get {l : List Lv} (h : Ch l) : ∀ {i : Nat} {a b : Lv}, l[i]? = some a → l[i + 1]? = some b → GapOk (b.h - a.h) (gapT a b) := by
  induction h with
  | nil => intro i a b ha; simp at ha
  | one _ => intro i a b _ hb; simp at hb
  | cons h h' _ ih =>
    intro i a b ha hb
    cases i with
    | zero =>
      simp at ha hb
      subst ha hb
      exact h'
    | succ i => exact ih (by simpa using ha) (by simpa using hb)
theorem Ch.pos {l : List Lv} (h : Ch l) {a : Lv} (ha : a ∈ l) : 0 ≤ a.plo ∧ 0 ≤ a.phi := by
  induction h with
  | nil => cases ha
  | one h =>
    obtain rfl : a = _ := by simpa using ha
    exact h
  | cons h _ _ ih =>
    rcases List.mem_cons.1 ha with rfl | ha
    · exact h
    · exact ih ha
/-- A step stays above what settles. -/
theorem takeUp_le {l f : List Lv} (hc : Ch f) (hf : Fix f) (h : Tt f l) (i : Nat) : Tt f (takeUp l i) := by
  unfold takeUp
  split
  · rename_i a b ha hb
    have la := h.len
    have ha1 := (List.getElem?_eq_some_iff.1 ha).1
    have hb1 := (List.getElem?_eq_some_iff.1 hb).1
    have fa : f[i]? = some f[i] := List.getElem?_eq_getElem (by omega)
    have fb : f[i + 1]? = some f[i + 1] := List.getElem?_eq_getElem (by omega)
    obtain ⟨a1, a2, a3, a4⟩ := h.get fa ha
    obtain ⟨b1, b2, b3, b4⟩ := h.get fb hb
    have g := hc.get fa fb
    have e := upI_eq a1 a2 a3 b1 b2 b3
    have key : SIn f[i + 1].press (upB a b).press := by
      refine joinS_least b4 ((hf.get fa fb).1.trans ?_)
      unfold upI
      rw [← e.1, ← e.2]
      exact rise_mono g a4
    -- set on the looser side
    exact tt_set_right h fb ⟨b1, b2, b3, key⟩
  · exact h
where
  tt_set_right {l m : List Lv} (h : Tt m l) {i : Nat} {y x : Lv} (hy : m[i]? = some y) (hx : y.h = x.h ∧ y.tlo = x.tlo ∧ y.thi = x.thi ∧ SIn y.press x.press) : Tt m (l.set i x) := by
    induction h generalizing i with
    | nil => simp at hy
    | cons h k ih =>
      cases i with
      | zero =>
        simp at hy
        subst hy
        exact .cons hx k
      | succ i => exact .cons h (ih (by simpa using hy))
theorem takeDn_le {l f : List Lv} (hc : Ch f) (hf : Fix f) (h : Tt f l) (i : Nat) : Tt f (takeDn l i) := by
  unfold takeDn
  split
  · rename_i a b ha hb
    have la := h.len
    have ha1 := (List.getElem?_eq_some_iff.1 ha).1
    have hb1 := (List.getElem?_eq_some_iff.1 hb).1
    have fa : f[i]? = some f[i] := List.getElem?_eq_getElem (by omega)
    have fb : f[i + 1]? = some f[i + 1] := List.getElem?_eq_getElem (by omega)
    obtain ⟨a1, a2, a3, a4⟩ := h.get fa ha
    obtain ⟨b1, b2, b3, b4⟩ := h.get fb hb
    have g := hc.get fa fb
    have e := upI_eq a1 a2 a3 b1 b2 b3
    have key : SIn f[i].press (dnA a b).press := by
      refine joinS_least a4 ((hf.get fa fb).2.trans ?_)
      unfold dnI
      rw [← e.1, ← e.2]
      exact sink_mono g b4
    exact takeUp_le.tt_set_right h fa ⟨a1, a2, a3, key⟩
  · exact h
theorem upTo_le {l f : List Lv} (hc : Ch f) (hf : Fix f) (h : Tt f l) (k : Nat) : Tt f (upTo k l) := by
  induction k with
  | zero => exact h
  | succ k ih => rw [upTo_succ]; exact takeUp_le hc hf ih k
theorem dnS_le {l f : List Lv} (hc : Ch f) (hf : Fix f) (h : Tt f l) (k : Nat) : Tt f (dnS k l) := by
  induction k with
  | zero => exact h
  | succ k ih => exact takeDn_le hc hf ih _
theorem setl_least {l f : List Lv} (hc : Ch f) (hf : Fix f) (h : Tt f l) : Tt f (setl l) := by
  unfold setl
  rw [← dnS_all]
  refine dnS_le hc hf ?_ _
  cases l with
  | nil => exact h
  | cons a r =>
    show Tt f (upF a r)
    rw [← upTo_all]
    exact upTo_le hc hf h _
/-- A step loses nothing. -/
theorem takeUp_ge (l : List Lv) (i : Nat) : Tt (takeUp l i) l := by
  unfold takeUp
  split
  · rename_i a b ha hb
    exact (Tt.refl l).set hb ⟨rfl, rfl, rfl, joinS_left _ _⟩
  · exact .refl l
theorem takeDn_ge (l : List Lv) (i : Nat) : Tt (takeDn l i) l := by
  unfold takeDn
  split
  · rename_i a b ha hb
    exact (Tt.refl l).set ha ⟨rfl, rfl, rfl, joinS_left _ _⟩
  · exact .refl l
/-- A settled list stays as it is. -/
theorem setl_of_fix {l : List Lv} (hc : Ch l) (hf : Fix l) : setl l = l := (setl_fix hc).2.2.antisymm (setl_least hc hf (.refl l))
theorem setl_setl {l : List Lv} (hc : Ch l) : setl (setl l) = setl l := setl_of_fix (setl_fix hc).1 (setl_fix hc).2.1
theorem upTo_of_fix {l : List Lv} (hc : Ch l) (hf : Fix l) (k : Nat) : upTo k l = l := by
  have h1 := upTo_le hc hf (.refl l) k
  have h2 : Tt (upTo k l) l := by
    induction k with
    | zero => exact .refl l
    | succ k ih => rw [upTo_succ]; exact (takeUp_ge _ k).trans (ih (upTo_le hc hf (.refl l) k))
  exact h2.antisymm h1
theorem dnS_of_fix {l : List Lv} (hc : Ch l) (hf : Fix l) (k : Nat) : dnS k l = l := by
  have h1 := dnS_le hc hf (.refl l) k
  have h2 : Tt (dnS k l) l := by
    induction k with
    | zero => exact .refl l
    | succ k ih => exact (takeDn_ge _ _).trans (ih (dnS_le hc hf (.refl l) k))
  exact h2.antisymm h1

def lvCells (x : Lv) : List Value := [.int .i64 x.h, .int .i64 x.plo, .int .i64 x.phi, .int .i64 x.tlo, .int .i64 x.thi]
theorem lv_read {w : World} {A : Option Addr} {n : Nat} {l : List Lv} (h : RdS w 5 A n (l.map lvCells)) {i : Nat} (hi : i < n) :
    ∃ b o x, A = some ⟨b, o, none⟩ ∧ b < w.heap.size ∧ l[i]? = some x ∧ w.cell? ⟨b, o + i * 5, none⟩ = some (.int .i64 x.h) ∧ w.cell? ⟨b, o + i * 5 + 1, none⟩ = some (.int .i64 x.plo) ∧ w.cell? ⟨b, o + i * 5 + 2, none⟩ = some (.int .i64 x.phi) ∧
      w.cell? ⟨b, o + i * 5 + 3, none⟩ = some (.int .i64 x.tlo) ∧ w.cell? ⟨b, o + i * 5 + 4, none⟩ = some (.int .i64 x.thi) := by
  obtain ⟨b, o, cs, hA, hb, hx, _, hc⟩ := h.row hi
  simp only [List.getElem?_map, Option.map_eq_some_iff] at hx
  obtain ⟨x, hx, rfl⟩ := hx
  exact ⟨b, o, x, hA, hb, hx, hc 0 _ rfl, hc 1 _ rfl, hc 2 _ rfl, hc 3 _ rfl, hc 4 _ rfl⟩
/-- A level of a valid sounding, but for its height. -/
def lvOk (x : Lv) : Bool := decide (x.plo ≤ x.phi ∧ 1000 ≤ x.plo ∧ x.phi ≤ 12000) && decide (x.tlo ≤ x.thi ∧ 1500 ≤ x.tlo ∧ x.thi ≤ 3500)
/-- The height of a level, and how far it is above the one below it. -/
def stepOk (l : List Int) (i : Nat) : Bool := match l[i]? with
  | some x => decide (-500 ≤ x ∧ x ≤ 9000) && (match i with | 0 => true | j + 1 => match l[j]? with | some y => decide (1 ≤ x - y ∧ x - y ≤ 2000) | none => true)
  | none => true
def climbsV (l : List Int) : Bool := (List.range l.length).all (stepOk l) && decide (2 ≤ l.length ∧ l.length ≤ 16)
def soundB (l : List Lv) : Bool := climbsV (l.map Lv.h) && l.all lvOk
theorem all_range_no {n k : Nat} {p : Nat → Bool} (hk : k < n) (h : p k = false) : (List.range n).all p = false := by
  rw [Bool.eq_false_iff, Ne, List.all_eq_true]
  intro h2
  have := h2 k (List.mem_range.2 hk)
  rw [h] at this
  cases this
theorem all_range_yes {n : Nat} {p : Nat → Bool} (h : ∀ k, k < n → p k = true) : (List.range n).all p = true :=
  List.all_eq_true.2 fun k hk => h k (List.mem_range.1 hk)
theorem stepOk_zero {l : List Int} {x : Int} (h : l[0]? = some x) : stepOk l 0 = decide (-500 ≤ x ∧ x ≤ 9000) := by unfold stepOk; simp [h]
theorem stepOk_succ {l : List Int} {x y : Int} {j : Nat} (h : l[j + 1]? = some x) (hy : l[j]? = some y) : stepOk l (j + 1) = (decide (-500 ≤ x ∧ x ≤ 9000) && decide (1 ≤ x - y ∧ x - y ≤ 2000)) := by unfold stepOk; simp [h, hy]
theorem stepOk_h {l : List Int} {x : Int} {i : Nat} (h : l[i]? = some x) (hs : stepOk l i = true) : -500 ≤ x ∧ x ≤ 9000 := by
  unfold stepOk at hs
  rw [h] at hs
  simp only [Bool.and_eq_true, decide_eq_true_eq] at hs
  exact hs.1
end Go.Proofs.Ytalidommelefaaa
