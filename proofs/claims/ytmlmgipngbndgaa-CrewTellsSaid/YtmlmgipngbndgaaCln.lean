/- Copies of the departures and of the bookings. -/
import Derived.Test.YtmlmgipngbndgaaCnt
namespace Go.Proofs.Ytmlmgipngbndgaa
open Go.RowKit
attribute [local irreducible] OQ OS OX Rd T TL GX GL AL AI RV wpG SAny Calls
set_option maxRecDepth 100000
set_option maxHeartbeats 2000000
set_option linter.unusedVariables false
set_option linter.unusedSimpArgs false

/-- A slice that is nil. -/
theorem oq_eqNilT {c : Cx} {F : Fr} {H : Hp} {d : Option Tmp} {ty t t' : TypeId} {pos : String} {af : Array Edge} {g : Option (Nat × Bool)} {x y : Operand} {e s0 : Nat} {a0 : Bool} {z0 : List Value} (ht : tyAt c.tys t = some ⟨a0, s0, z0, .slice e⟩)
    (hx : ev F x = some (.slice none 0 0)) (hy : ev F y = some (.slice none 0 0)) : OQ c ⟨d, .binOp .eql t x y t', ty, pos, af, g⟩ F H (.bool true) := .of fun D a w ha _ => by
  have hk := (c.ty ht).kind w
  have e0 : (Op.equalIn 10000 t (.slice none 0 0) (.slice none 0 0)).run c.P w = .ok true w := by
    have key : ∀ d : Nat, (Op.equalIn (d + 1) t (.slice none 0 0) (.slice none 0 0)).run c.P w = .ok true w := fun d => by
      simp only [Op.equalIn, Sem.run_bind, hk, Result.andThen, Sem.run_pure, Option.isNone]
    exact key 9999
  have e : (binOp .eql t (.slice none 0 0) (.slice none 0 0)).run c.P w = .ok (.bool true) w := by
    simp only [binOp, Op.equal, Op.maxDepth, Sem.run_bind, e0, Result.andThen, Sem.run_pure]
  have e1 : (eqGuard .eql t x y (.slice none 0 0) (.slice none 0 0)).run c.P w = .ok () w := by simp [eqGuard, go_sem]
  simp only [execOp, ha.ev hx, ha.ev hy, Sem.run_bind, e, e1, Result.andThen, Sem.run_pure]
def clA : Option (Nat × Nat) → Option Addr
  | none => none
  | some (g, _) => some ⟨g, 0, none⟩
def clC : Option (Nat × Nat) → Nat
  | none => 0
  | some (_, c) => c
def clH (e s : Nat) (C : List Value) : Option (Nat × Nat) → Hp
  | none => []
  | some (g, c) => [(g, C, some (e, s, c))]
/-- What a copy hands out: nil, or own memory. -/
def CloneV (e s : Nat) (C : List Value) (n : Nat) (v : Value) (H : Hp) : Prop := ∃ x, (x = none → n = 0) ∧ v = .slice (clA x) n (clC x) ∧ H = clH e s C x
theorem dep_len (l : List Dep) : ∀ r ∈ l.map depCells, r.length = 4 := by simp only [List.mem_map]; rintro r ⟨x, _, rfl⟩; rfl
theorem bk_len (l : List Bk) : ∀ r ∈ l.map bkCells, r.length = 3 := by simp only [List.mem_map]; rintro r ⟨x, _, rfl⟩; rfl
theorem dep_one (l : List Dep) : ∀ r ∈ l.map depCells, ∀ u ∈ r, u.oneCell' = true := by
  simp only [List.mem_map]; rintro r ⟨x, _, rfl⟩ u hu
  simp only [depCells, List.mem_cons, List.not_mem_nil, or_false] at hu
  rcases hu with rfl | rfl | rfl | rfl <;> rfl
theorem bk_one (l : List Bk) : ∀ r ∈ l.map bkCells, ∀ u ∈ r, u.oneCell' = true := by
  simp only [List.mem_map]; rintro r ⟨x, _, rfl⟩ u hu
  simp only [bkCells, List.mem_cons, List.not_mem_nil, or_false] at hu
  rcases hu with rfl | rfl | rfl <;> rfl

theorem cloneF_T (A : Option Addr) (n c : Nat) (l : List Dep) (w : World) (hr : RdS w 4 A n (l.map depCells)) (hnil : A = none → n = 0 ∧ c = 0) (hn : n ≤ 1000000) :
    Calls Try.prog 92 #[.slice A n c] w fun e w' => ∃ v H', e = .returned v ∧ CloneV 106 4 (l.map depCells).flatten n v H' ∧ Has w ⟨[], []⟩ H' w' := by
  cases A with
  | none =>
    obtain ⟨rfl, rfl⟩ := hnil rfl
    refine enterF (c := cx w 8) Try.func92 rfl rfl rfl rfl ?_
    repeat' (first | ((with_reducible apply oq_id); first | ((with_reducible apply oq_eqNilT); exact rfl; exact rfl; exact rfl) | (apply oq_fn; exact rfl; first | exact trivial | (refine ⟨?_, ?_⟩ <;> omega) | (refine ⟨?_, ?_, ?_⟩ <;> omega) | omega | skip)) | ((with_reducible apply tl_id); first | ((with_reducible apply tl_nil)) | ((with_reducible apply u_q); exact rfl; exact rfl; exact rfl; exact rfl)) | ((with_reducible apply t_id); first | ((with_reducible apply t_seq)) | (apply t_region; kernel_rfl) | ((with_reducible apply t_condT); exact rfl) | ((with_reducible apply t_ret))) | with_reducible apply q_thenN | with_reducible apply q_thenR | ((with_reducible apply end_ret)) | exact rvs_nil | ((with_reducible apply rvs_cons)) | ((with_reducible apply rv_tmp); exact rfl))
    exact ⟨_, ⟨none, fun _ => rfl, rfl, rfl⟩, HpSub.nil⟩
  | some p =>
    refine enterF (c := cx w 8) Try.func92 rfl rfl rfl rfl ?_
    repeat' (first | ((with_reducible apply oq_id); first | ((with_reducible apply oq_eqNil); exact rfl; exact rfl; exact rfl) | (apply oq_fn; exact rfl; first | exact trivial | (refine ⟨?_, ?_⟩ <;> omega) | (refine ⟨?_, ?_, ?_⟩ <;> omega) | omega | skip)) | ((with_reducible apply tl_id); first | ((with_reducible apply tl_nil)) | ((with_reducible apply u_s); exact rfl; exact rfl; exact rfl; (with_reducible apply os_appendRows (hk := app_ok22) (rows := l.map depCells) (hr := fun D w1 hw1 => hr.ext hw1.ext.ext)); exact rfl; exact rfl; exact P0; exact dep_len l; exact rfl; exact dep_one l; exact Nat.le_refl _; omega; omega; intro b cap'; simp only [Nat.zero_add, List.nil_append]) | ((with_reducible apply u_q); exact rfl; exact rfl; exact rfl; exact rfl) | ((with_reducible apply u_s); exact rfl; exact rfl; exact rfl)) | ((with_reducible apply os_id); first | ((with_reducible apply os_x); exact rfl)) | ((with_reducible apply ox_id); first | ((with_reducible apply ox_buildSlice); exact rfl; exact rfl; exact rfl; exact rfl)) | ((with_reducible apply t_id); first | ((with_reducible apply t_seq)) | (apply t_region; kernel_rfl) | ((with_reducible apply t_condF); exact rfl) | ((with_reducible apply t_ret)) | ((with_reducible apply t_skip))) | with_reducible apply q_thenN | ((with_reducible apply Norm.nil); exact rfl) | ((with_reducible apply end_ret)) | exact rvs_nil | ((with_reducible apply rvs_cons)) | ((with_reducible apply rv_tmp); exact rfl) | exact (rfl : (_ : Bool) = true) | (intro _; with_reducible apply tl_id))
    exact ⟨_, ⟨some (b, cap'), fun h => (by cases h), rfl, rfl⟩, HpSub.refl _⟩

theorem cloneB_T (A : Option Addr) (n c : Nat) (l : List Bk) (w : World) (hr : RdS w 3 A n (l.map bkCells)) (hnil : A = none → n = 0 ∧ c = 0) (hn : n ≤ 1000000) :
    Calls Try.prog 93 #[.slice A n c] w fun e w' => ∃ v H', e = .returned v ∧ CloneV 71 3 (l.map bkCells).flatten n v H' ∧ Has w ⟨[], []⟩ H' w' := by
  cases A with
  | none =>
    obtain ⟨rfl, rfl⟩ := hnil rfl
    refine enterF (c := cx w 8) Try.func93 rfl rfl rfl rfl ?_
    repeat' (first | ((with_reducible apply oq_id); first | ((with_reducible apply oq_eqNilT); exact rfl; exact rfl; exact rfl) | (apply oq_fn; exact rfl; first | exact trivial | (refine ⟨?_, ?_⟩ <;> omega) | (refine ⟨?_, ?_, ?_⟩ <;> omega) | omega | skip)) | ((with_reducible apply tl_id); first | ((with_reducible apply tl_nil)) | ((with_reducible apply u_q); exact rfl; exact rfl; exact rfl; exact rfl)) | ((with_reducible apply t_id); first | ((with_reducible apply t_seq)) | (apply t_region; kernel_rfl) | ((with_reducible apply t_condT); exact rfl) | ((with_reducible apply t_ret))) | with_reducible apply q_thenN | with_reducible apply q_thenR | ((with_reducible apply end_ret)) | exact rvs_nil | ((with_reducible apply rvs_cons)) | ((with_reducible apply rv_tmp); exact rfl))
    exact ⟨_, ⟨none, fun _ => rfl, rfl, rfl⟩, HpSub.nil⟩
  | some p =>
    refine enterF (c := cx w 8) Try.func93 rfl rfl rfl rfl ?_
    repeat' (first | ((with_reducible apply oq_id); first | ((with_reducible apply oq_eqNil); exact rfl; exact rfl; exact rfl) | (apply oq_fn; exact rfl; first | exact trivial | (refine ⟨?_, ?_⟩ <;> omega) | (refine ⟨?_, ?_, ?_⟩ <;> omega) | omega | skip)) | ((with_reducible apply tl_id); first | ((with_reducible apply tl_nil)) | ((with_reducible apply u_s); exact rfl; exact rfl; exact rfl; (with_reducible apply os_appendRows (hk := app_ok23) (rows := l.map bkCells) (hr := fun D w1 hw1 => hr.ext hw1.ext.ext)); exact rfl; exact rfl; exact P0; exact bk_len l; exact rfl; exact bk_one l; exact Nat.le_refl _; omega; omega; intro b cap'; simp only [Nat.zero_add, List.nil_append]) | ((with_reducible apply u_q); exact rfl; exact rfl; exact rfl; exact rfl) | ((with_reducible apply u_s); exact rfl; exact rfl; exact rfl)) | ((with_reducible apply os_id); first | ((with_reducible apply os_x); exact rfl)) | ((with_reducible apply ox_id); first | ((with_reducible apply ox_buildSlice); exact rfl; exact rfl; exact rfl; exact rfl)) | ((with_reducible apply t_id); first | ((with_reducible apply t_seq)) | (apply t_region; kernel_rfl) | ((with_reducible apply t_condF); exact rfl) | ((with_reducible apply t_ret)) | ((with_reducible apply t_skip))) | with_reducible apply q_thenN | ((with_reducible apply Norm.nil); exact rfl) | ((with_reducible apply end_ret)) | exact rvs_nil | ((with_reducible apply rvs_cons)) | ((with_reducible apply rv_tmp); exact rfl) | exact (rfl : (_ : Bool) = true) | (intro _; with_reducible apply tl_id))
    exact ⟨_, ⟨some (b, cap'), fun h => (by cases h), rfl, rfl⟩, HpSub.refl _⟩

end Go.Proofs.Ytmlmgipngbndgaa
