/- The calculus: make of a slice. -/
import Derived.Test.YtmlmgipngbndgaaSl14
import Derived.Laws.MakeOwn
namespace Go.Proofs.Ytmlmgipngbndgaa
set_option linter.unusedVariables false
set_option linter.unusedSimpArgs false
open Go.RowKit
theorem madeCells_rows (zs : List Value) : ∀ n : Nat, (madeCells zs.toArray (n * zs.length)).toList = (List.replicate n zs).flatten := by
  intro n
  have key : (List.range (n * zs.length)).map (fun j => zs[j % zs.length]!) = (List.replicate n zs).flatten := by
    induction n with
    | zero => simp
    | succ n ih =>
      rw [Nat.succ_mul, Nat.add_comm, List.range_add, List.map_append, List.map_map, List.replicate_succ, List.flatten_cons, ← ih]
      congr 1
      · refine List.ext_getElem (by simp) fun i h1 h2 => ?_
        simp at h1
        simp [Nat.mod_eq_of_lt h1, h1]
      · refine List.map_congr_left fun j _ => ?_
        simp
  rw [← key]
  simp [madeCells]
theorem ox_make {c : Cx} {F : Fr} {H : Hp} {K : Value → Hp → Prop} {d : Option Tmp} {ty : TypeId} {pos : String} {af : Array Edge} {g : Option (Nat × Bool)} {x y : Operand} {t e size bytes n : Nat} {z : Value} {zs : List Value} (hk : AppOk c.P t e size bytes) (hz : (c.P.info? e).map (fun i => i.zero) = some (some z)) (hzs : z.cells = zs.toArray) (hl : zs.length = size)
    (hx : ev F x = some (.int .i64 (n : Int))) (hy : ev F y = some (.int .i64 (n : Int))) (hb : bytes * n ≤ 281474976710656) (hn : n ≤ maxLen) (k : ∀ b, K (.slice (some ⟨b, 0, none⟩) n n) ((b, (List.replicate n zs).flatten, some (e, size, n)) :: H)) : OX c ⟨d, .makeSlice t x y, ty, pos, af, g⟩ F H K := by
  intro D a w ha hw
  obtain ⟨i, z', k1, k2, k3, k4, k5⟩ := hk.info
  have hz' : i.zero = some z := by rw [k1] at hz; simpa using hz
  have hn' : (n : Int) ≤ 9223372036854775807 := by unfold maxLen at hn; omega
  have hb' : (i.bytes : Int) * (n : Int) ≤ 281474976710656 := by
    have h : ((i.bytes * n : Nat) : Int) ≤ 281474976710656 := by rw [k4]; omega
    rwa [Int.natCast_mul] at h
  have hr := run_make (P := c.P) w t e i z hk.und k1 hz' .i64 .i64 n n (by omega) (Int.le_refl _) hb' hn'
  simp only [Int.toNat_natCast, k3, hzs] at hr
  have hc : (madeCells zs.toArray (n * size)) = ((List.replicate n zs).flatten).toArray := by
    rw [← Array.toList_inj, ← hl, madeCells_rows]
  rw [hc] at hr
  have : (execOp a.eval ⟨d, .makeSlice t x y, ty, pos, af, g⟩).run c.P w = .ok (.value (.slice (some ⟨w.heap.size, 0, none⟩) n n)) (w.alloc (.cells ((List.replicate n zs).flatten).toArray e)) := by
    simp [execOp, ha.ev hx, ha.ev hy, Sem.run_bind, Sem.run_pure, Result.andThen, hr]
  rw [this]
  exact ⟨⟨_, k w.heap.size, hw.fresh ((Ext.refl w).alloc _) (Nat.le_refl _) (Blk.row w _ e size n (by simp [hl]) hn)⟩, (Ext.refl w).alloc _⟩
theorem os_make {c : Cx} {F : Fr} {H : Hp} {K : Value → Hp → Prop} {d : Option Tmp} {ty : TypeId} {pos : String} {af : Array Edge} {g : Option (Nat × Bool)} {x y : Operand} {t e size bytes n : Nat} {z : Value} {zs : List Value} (hk : AppOk c.P t e size bytes) (hz : (c.P.info? e).map (fun i => i.zero) = some (some z)) (hzs : z.cells = zs.toArray) (hl : zs.length = size)
    (hx : ev F x = some (.int .i64 (n : Int))) (hy : ev F y = some (.int .i64 (n : Int))) (hb : bytes * n ≤ 281474976710656) (hn : n ≤ maxLen) (k : ∀ b, K (.slice (some ⟨b, 0, none⟩) n n) ((b, (List.replicate n zs).flatten, some (e, size, n)) :: H)) : OS c ⟨d, .makeSlice t x y, ty, pos, af, g⟩ F H K := .ofX (ox_make hk hz hzs hl hx hy hb hn k)
section
variable {c : Cx} {S : WS c.P} {Q : QS} {F : Fr} {H : Hp}
/-- A cut behind a region: the slots 'keep' stay, 'ch' are new; of the blocks only hc are known from there on. -/
theorem t_cutD {ι : Type} (rid : Nat) {ops : Array Oper} {dr : Bool} {y : Code} (keep : List Nat) (ch : ι → Fr) (hc : ι → Hp) {G : Fr} (hK : KeepF F keep G)
    (h1 : T c S (.region rid ops dr) (cutQ ch hc G []) F H) (h2 : ∀ i, T c S y Q (ch i ++ G) (hc i ++ [])) : T c S (.seq (.region rid ops dr) y) Q F H :=
  t_cut (fun i => ch i ++ G) (fun i => hc i ++ []) (fun _ => True) (fun D a w ha hw => S.mono (h1 D a w ha hw) fun e a' w' ⟨D', F', H', ⟨he, i, hF, hH⟩, h4, h5⟩ => ⟨D', F', H', ⟨he, i, trivial, hF, hH⟩, h4, h5⟩) (fun i _ => h2 i)
end
end Go.Proofs.Ytmlmgipngbndgaa
