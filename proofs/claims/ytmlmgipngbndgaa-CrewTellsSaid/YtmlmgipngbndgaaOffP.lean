/- The office: plain laws. -/
import Derived.Test.YtmlmgipngbndgaaIntB
namespace Go.Proofs.Ytmlmgipngbndgaa
set_option linter.unusedVariables false
set_option linter.unusedSimpArgs false
structure Dep where
  seats : Int
  price : Int
  leaves : Int
  state : Int
structure Bk where
  flight : Int
  state : Int
  kept : Int
def depCells (x : Dep) : List Value := [.int .i64 x.seats, .int .i64 x.price, .int .i64 x.leaves, .int .u8 x.state]
def bkCells (x : Bk) : List Value := [.int .i64 x.flight, .int .u8 x.state, .int .i64 x.kept]
theorem dep_read {w : World} {A : Option Addr} {n : Nat} {l : List Dep} (h : RdS w 4 A n (l.map depCells)) {i : Nat} (hi : i < n) :
    ∃ b o x, A = some ⟨b, o, none⟩ ∧ b < w.heap.size ∧ l[i]? = some x ∧ w.cell? ⟨b, o + i * 4, none⟩ = some (.int .i64 x.seats) ∧ w.cell? ⟨b, o + i * 4 + 1, none⟩ = some (.int .i64 x.price) ∧ w.cell? ⟨b, o + i * 4 + 2, none⟩ = some (.int .i64 x.leaves) ∧ w.cell? ⟨b, o + i * 4 + 3, none⟩ = some (.int .u8 x.state) := by
  obtain ⟨b, o, cs, hA, hb, hx, _, hc⟩ := h.row hi
  simp only [List.getElem?_map, Option.map_eq_some_iff] at hx
  obtain ⟨x, hx, rfl⟩ := hx
  exact ⟨b, o, x, hA, hb, hx, hc 0 _ rfl, hc 1 _ rfl, hc 2 _ rfl, hc 3 _ rfl⟩
theorem bk_read {w : World} {A : Option Addr} {n : Nat} {l : List Bk} (h : RdS w 3 A n (l.map bkCells)) {i : Nat} (hi : i < n) :
    ∃ b o x, A = some ⟨b, o, none⟩ ∧ b < w.heap.size ∧ l[i]? = some x ∧ w.cell? ⟨b, o + i * 3, none⟩ = some (.int .i64 x.flight) ∧ w.cell? ⟨b, o + i * 3 + 1, none⟩ = some (.int .u8 x.state) ∧ w.cell? ⟨b, o + i * 3 + 2, none⟩ = some (.int .i64 x.kept) := by
  obtain ⟨b, o, cs, hA, hb, hx, _, hc⟩ := h.row hi
  simp only [List.getElem?_map, Option.map_eq_some_iff] at hx
  obtain ⟨x, hx, rfl⟩ := hx
  exact ⟨b, o, x, hA, hb, hx, hc 0 _ rfl, hc 1 _ rfl, hc 2 _ rfl⟩
def depOk (x : Dep) : Bool := decide (0 ≤ x.seats) && decide (x.seats ≤ 50) && (decide (0 ≤ x.price) && decide (x.price ≤ 1000000)) && (decide (0 ≤ x.leaves) && decide (x.leaves ≤ 1000000)) && decide (x.state ≤ 2)
/-- Is a booking of a departure, and in a state? -/
def isB (f s : Int) (x : Bk) : Bool := decide (x.flight = f) && decide (x.state = s)
def manyTo (bk : List Bk) (f s : Int) (k : Nat) : Int := (((bk.take k).filter (isB f s)).length : Nat)
def manyV (bk : List Bk) (f s : Int) : Int := ((bk.filter (isB f s)).length : Nat)
theorem many_zero (bk : List Bk) (f s : Int) : manyTo bk f s 0 = 0 := by simp [manyTo]
theorem many_yes {bk : List Bk} {f s : Int} {k : Nat} {x : Bk} (h : bk[k]? = some x) (hi : isB f s x = true) : manyTo bk f s (k + 1) = manyTo bk f s k + 1 := by
  unfold manyTo
  rw [List.take_add_one, h, List.filter_append]
  simp [hi]
theorem many_no {bk : List Bk} {f s : Int} {k : Nat} {x : Bk} (h : bk[k]? = some x) (hi : isB f s x = false) : manyTo bk f s (k + 1) = manyTo bk f s k := by
  unfold manyTo
  rw [List.take_add_one, h, List.filter_append]
  simp [hi]
theorem many_all {bk : List Bk} {f s : Int} {k : Nat} (h : bk.length ≤ k) : manyTo bk f s k = manyV bk f s := by
  unfold manyTo manyV
  rw [List.take_of_length_le h]
theorem many_in (bk : List Bk) (f s : Int) (k : Nat) : 0 ≤ manyTo bk f s k ∧ manyTo bk f s k ≤ (k : Int) := by
  unfold manyTo
  have h1 := List.length_filter_le (isB f s) (bk.take k)
  have h2 := List.length_take_le k bk
  omega
/-- What may be kept of the price of a departure. -/
def feeV (price fee : Int) : Int := (price * fee).tdiv 100
theorem fee_in {price fee : Int} (h1 : 0 ≤ price ∧ price ≤ 1000000) (h2 : 0 ≤ fee ∧ fee ≤ 100) : 0 ≤ price * fee ∧ price * fee ≤ 1000000 * 100 ∧ 0 ≤ feeV price fee ∧ feeV price fee ≤ 1000000 := by
  have a := Int.mul_nonneg h1.1 h2.1
  have b := Int.mul_le_mul h1.2 h2.2 h2.1 (by omega)
  unfold feeV
  rw [Int.tdiv_eq_ediv_of_nonneg a]
  omega
/-- May a booking of a departure in state g be in state s? -/
def fitB (g s : Int) : Bool := (decide (g = 0) && (decide (s = 1) || decide (s = 2))) || (decide (g = 1) && decide (s = 3))
def bookedB (fl : List Dep) (fee : Int) (x : Bk) : Bool :=
  if 0 ≤ x.flight ∧ x.flight < (fl.length : Int) then
    match fl[x.flight.toNat]? with
    | none => false
    | some d => if x.state = 4 then decide (0 ≤ x.kept) && decide (x.kept ≤ feeV d.price fee) else fitB d.state x.state && decide (x.kept = 0)
  else false
def prc (fl : List Dep) (x : Bk) : Int := match fl[x.flight.toNat]? with | some d => d.price | none => 0
structure Sum4 where
  held : Int
  earned : Int
  kept : Int
  back : Int
def addB (fl : List Dep) (p : Sum4) (x : Bk) : Sum4 :=
  if x.state = 1 ∨ x.state = 2 then ⟨p.held + prc fl x, p.earned, p.kept, p.back⟩
  else if x.state = 3 then ⟨p.held, p.earned + prc fl x, p.kept, p.back⟩
  else if x.state = 4 then ⟨p.held, p.earned, p.kept + x.kept, p.back + (prc fl x - x.kept)⟩
  else p
def sumsTo (fl : List Dep) (bk : List Bk) (k : Nat) : Sum4 := (bk.take k).foldl (addB fl) ⟨0, 0, 0, 0⟩
def sumsV (fl : List Dep) (bk : List Bk) : Sum4 := bk.foldl (addB fl) ⟨0, 0, 0, 0⟩
theorem sums_succ {fl : List Dep} {bk : List Bk} {k : Nat} {x : Bk} (h : bk[k]? = some x) : sumsTo fl bk (k + 1) = addB fl (sumsTo fl bk k) x := by
  unfold sumsTo
  rw [List.take_add_one, h, List.foldl_append]
  rfl
theorem sums_all {fl : List Dep} {bk : List Bk} {k : Nat} (h : bk.length ≤ k) : sumsTo fl bk k = sumsV fl bk := by
  unfold sumsTo sumsV
  rw [List.take_of_length_le h]
/-- Are the seats of a departure given as they have to be? -/
def seatB (fl : List Dep) (bk : List Bk) (i : Nat) : Bool := match fl[i]? with
  | none => true
  | some d => let s := manyV bk i 1 + manyV bk i 3
    decide (s ≤ d.seats) && (decide (s = d.seats) || decide (manyV bk i 2 ≤ 0))
structure Off where
  now : Int
  notice : Int
  fee : Int
  inn : Int
  out : Int
  fl : List Dep
  bk : List Bk
def headB (o : Off) : Bool := decide (0 ≤ o.now ∧ o.now ≤ 1000000 ∧ 0 ≤ o.notice ∧ o.notice ≤ 1000000 ∧ 0 ≤ o.fee ∧ o.fee ≤ 100 ∧ o.fl.length ≤ 10 ∧ o.bk.length ≤ 120)
def moneyB (o : Off) : Bool := decide (o.inn = (sumsV o.fl o.bk).held + (sumsV o.fl o.bk).earned + (sumsV o.fl o.bk).kept + (sumsV o.fl o.bk).back) && decide (o.out = (sumsV o.fl o.bk).back)
/-- Is an office valid? -/
def officeB (o : Off) : Bool := headB o && (o.fl.all depOk && (o.bk.all (bookedB o.fl o.fee) && ((List.range o.fl.length).all (seatB o.fl o.bk) && moneyB o)))
def offCells (o : Off) (A : Option Addr) (cf : Nat) (B : Option Addr) (cb : Nat) : List Value := [.int .i64 o.now, .int .i64 o.notice, .int .i64 o.fee, .slice A o.fl.length cf, .slice B o.bk.length cb, .int .i64 o.inn, .int .i64 o.out]
end Go.Proofs.Ytmlmgipngbndgaa
