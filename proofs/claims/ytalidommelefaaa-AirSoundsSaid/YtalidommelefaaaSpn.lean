/- Spans as rows. -/
import Derived.Test.YtalidommelefaaaBase
namespace Go.Proofs.Ytalidommelefaaa
open Go.RowKit
/-- spans as rows -/
def spanCells (s : Int × Int) : List Value := [.int .i64 s.1, .int .i64 s.2]
def joinS (a b : Int × Int) : Int × Int := (max a.1 b.1, min a.2 b.2)
def joinAll (s : Int × Int) (l : List (Int × Int)) : Int × Int := l.foldl joinS s
theorem joinAll_take (s : Int × Int) (l : List (Int × Int)) (k : Nat) (x : Int × Int) (h : l[k]? = some x) : joinAll s (l.take (k + 1)) = joinS (joinAll s (l.take k)) x := by
  unfold joinAll
  rw [List.take_add_one, h, List.foldl_append]
  rfl
theorem span_read {w : World} {A : Option Addr} {n : Nat} {l : List (Int × Int)} (h : RdS w 2 A n (l.map spanCells)) {i : Nat} (hi : i < n) :
    ∃ b o x, A = some ⟨b, o, none⟩ ∧ b < w.heap.size ∧ l[i]? = some x ∧ w.cell? ⟨b, o + i * 2, none⟩ = some (.int .i64 x.1) ∧ w.cell? ⟨b, o + i * 2 + 1, none⟩ = some (.int .i64 x.2) := by
  obtain ⟨b, o, cs, hA, hb, hx, _, hc⟩ := h.row hi
  simp only [List.getElem?_map, Option.map_eq_some_iff] at hx
  obtain ⟨x, hx, rfl⟩ := hx
  exact ⟨b, o, x, hA, hb, hx, hc 0 _ rfl, hc 1 _ rfl⟩

end Go.Proofs.Ytalidommelefaaa
