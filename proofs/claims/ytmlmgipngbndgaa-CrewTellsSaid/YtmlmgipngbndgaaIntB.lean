/- Own lists of numbers: reading, writing, making. -/
import Derived.Test.YtmlmgipngbndgaaInt1
namespace Go.Proofs.Ytmlmgipngbndgaa
set_option linter.unusedVariables false
set_option linter.unusedSimpArgs false
open Go.RowKit
def iv (z : Int) : Value := .int .i64 z
theorem iv_one (l : List Int) : ∀ v ∈ l.map iv, v.oneCell' = true := by
  intro v hv
  obtain ⟨z, _, rfl⟩ := List.mem_map.1 hv
  rfl
theorem iv_flat (l : List Int) : (l.map inCells).flatten = l.map iv := by
  induction l with
  | nil => rfl
  | cons z l ih => simp [inCells, iv] at ih ⊢; exact ih
theorem int_rows {w0 : World} {M : Ms} {H H' : Hp} {w : World} {g n : Nat} {l : List Int} {tg : Tg} (hl : l.length = n) (h : Has w0 M H w) (q : Pick H g (l.map iv) tg H') : RdS w 1 (some ⟨g, 0, none⟩) n (l.map inCells) :=
  Blk.rows (by rw [iv_flat]; exact (h.blk _ q.mem).2) (by simpa using hl) (by simp only [List.mem_map]; rintro r ⟨x, _, rfl⟩; rfl)
section
variable {c : Cx} {F : Fr} {H H' : Hp} {K : Value → Hp → Prop} {d : Option Tmp} {ty : TypeId} {pos : String} {af : Array Edge} {gd : Option (Nat × Bool)} {t : TypeId} {x y : Operand} {a0 : Bool} {z0 : List Value} {k0 : TyK} {g k : Nat} {tg : Tg} {row A : List Int} {B : List Value} {z u : Int}
theorem rdI (hx : row[k]? = some z) (p : Pick H g (row.map iv) tg H') : Rd c H ⟨g, 0 + k * 1, none⟩ (.int .i64 z) := Rd.own p (by rw [Nat.zero_add, Nat.mul_one, List.getElem?_map, hx]; rfl)
theorem mid_at (h : A.length = k) : (A.map iv ++ Value.int .i64 z :: B)[0 + k * 1]? = some (Value.int .i64 z) := by
  rw [Nat.zero_add, Nat.mul_one, ← h]
  simp
theorem mid_set (h : A.length = k) : (A.map iv ++ Value.int .i64 z :: B).set (0 + k * 1) (Value.int .i64 u) = A.map iv ++ Value.int .i64 u :: B := by
  rw [Nat.zero_add, Nat.mul_one, ← h]
  rw [List.set_append_right _ _ (by simp)]
  simp
theorem rdM (h : A.length = k) (p : Pick H g (A.map iv ++ Value.int .i64 z :: B) tg H') : Rd c H ⟨g, 0 + k * 1, none⟩ (.int .i64 z) := Rd.own p (mid_at h)
theorem os_storeM (h : A.length = k) (ht : tyAt c.tys t = some ⟨a0, 1, z0, k0⟩) (hx : ev F x = some (.pointer (some ⟨g, 0 + k * 1, none⟩))) (hy : ev F y = some (.int .i64 u)) (hp : Pick H g (A.map iv ++ Value.int .i64 z :: B) tg H')
    (kk : K undef ((g, A.map iv ++ Value.int .i64 u :: B, tg) :: H')) : OS c ⟨d, .store t x y, ty, pos, af, gd⟩ F H K :=
  store_gen (vs := [.int .i64 u]) ht hx hy rfl rfl (by simp [Value.oneCell']) hp (by simp; omega) (by
    have e : setL (A.map iv ++ Value.int .i64 z :: B) (0 + k * 1) [Value.int .i64 u] = A.map iv ++ Value.int .i64 u :: B := by simp only [setL]; exact mid_set h
    rw [e]; exact kk)
theorem os_storeI (h : k < row.length) (ht : tyAt c.tys t = some ⟨a0, 1, z0, k0⟩) (hx : ev F x = some (.pointer (some ⟨g, 0 + k * 1, none⟩))) (hy : ev F y = some (.int .i64 u)) (hp : Pick H g (row.map iv) tg H')
    (kk : K undef ((g, (row.set k u).map iv, tg) :: H')) : OS c ⟨d, .store t x y, ty, pos, af, gd⟩ F H K :=
  store_gen (vs := [.int .i64 u]) ht hx hy rfl rfl (by simp [Value.oneCell']) hp (by simp; omega) (by
    have e : setL (row.map iv) (0 + k * 1) [Value.int .i64 u] = (row.set k u).map iv := by simp only [setL]; rw [Nat.zero_add, Nat.mul_one, List.map_set]; rfl
    rw [e]; exact kk)
theorem ox_makeI {n : Nat} {tt : TypeId} {bytes : Nat} (hk : AppOk c.P tt 3 1 bytes) (hz : (c.P.info? 3).map (fun i => i.zero) = some (some (.int .i64 0)))
    (hx : ev F x = some (.int .i64 (n : Int))) (hy : ev F y = some (.int .i64 (n : Int))) (hb : bytes * n ≤ 281474976710656) (hn : n ≤ maxLen) (k : ∀ b, K (.slice (some ⟨b, 0, none⟩) n n) ((b, List.replicate n (Value.int .i64 0), some (3, 1, n)) :: H)) : OX c ⟨d, .makeSlice tt x y, ty, pos, af, gd⟩ F H K := by
  refine ox_make (zs := [.int .i64 0]) hk hz rfl rfl hx hy hb hn fun b => ?_
  have e : (List.replicate n [Value.int .i64 0]).flatten = List.replicate n (Value.int .i64 0) := by simp
  rw [e]
  exact k b
theorem os_makeI {n : Nat} {tt : TypeId} {bytes : Nat} (hk : AppOk c.P tt 3 1 bytes) (hz : (c.P.info? 3).map (fun i => i.zero) = some (some (.int .i64 0)))
    (hx : ev F x = some (.int .i64 (n : Int))) (hy : ev F y = some (.int .i64 (n : Int))) (hb : bytes * n ≤ 281474976710656) (hn : n ≤ maxLen) (k : ∀ b, K (.slice (some ⟨b, 0, none⟩) n n) ((b, List.replicate n (Value.int .i64 0), some (3, 1, n)) :: H)) : OS c ⟨d, .makeSlice tt x y, ty, pos, af, gd⟩ F H K := .ofX (ox_makeI hk hz hx hy hb hn k)
end
end Go.Proofs.Ytmlmgipngbndgaa
