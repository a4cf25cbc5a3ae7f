/- What a desk knows. -/
import Derived.Test.YtalidommelefaaaSl5
import Derived.Test.YtalidommelefaaaTys
import Derived.Test.YtalidommelefaaaWalk7
namespace Go.Proofs.Ytalidommelefaaa
open Go.RowKit Go.Shelf
attribute [local irreducible] OQ OS OX Rd T TL GX GL AL AI RV wpG SAny
set_option maxRecDepth 100000
set_option maxHeartbeats 2000000
set_option linter.unusedVariables false
set_option linter.unusedSimpArgs false


/-- What the desk hands out: an iterator. -/
def HandV (bd : Nat) (post kind now : Int) (v : Value) (H : Hp) : Prop :=
  ∃ b0 b1 b2 b3, v = .func (.func 143) #[] #[.pointer (some ⟨b0, 0, none⟩), .pointer (some ⟨b1, 0, none⟩), .pointer (some ⟨b2, 0, none⟩), .pointer (some ⟨b3, 0, none⟩)] ∧
    H = [(b3, [.int .i64 now], some (3, 1, 1)), (b2, [.int .i64 kind], some (3, 1, 1)), (b1, [.int .i64 post], some (3, 1, 1)), (b0, [.pointer (some ⟨bd, 0, none⟩)], some (115, 1, 1))]
theorem hand_T (bd : Nat) (post kind now : Int) (w : World) : Calls Try.prog 122 #[.pointer (some ⟨bd, 0, none⟩), .int .i64 post, .int .i64 kind, .int .i64 now] w fun e w' => ∃ v H', e = .returned v ∧ HandV bd post kind now v H' ∧ Has w ⟨[], []⟩ H' w' := by
  refine enter (c := cx w 10) (H := []) (F := frOf 0 _) Try.func122 rfl rfl rfl (fun d v hv => (look_frOf _ 0 d v hv).2) (Has.start _) ?_
  repeat' (first | ((with_reducible apply oq_id); first | (apply oq_fn; exact rfl; first | exact trivial | (refine ⟨?_, ?_⟩ <;> omega) | (refine ⟨?_, ?_, ?_⟩ <;> omega) | omega | skip)) | ((with_reducible apply tl_id); first | ((with_reducible apply tl_nil)) | ((with_reducible apply u_q); exact rfl; exact rfl; exact rfl; exact rfl) | ((with_reducible apply u_s); exact rfl; exact rfl; exact rfl)) | ((with_reducible apply os_id); first | ((with_reducible apply os_x); exact rfl) | ((with_reducible apply os_append (hk := app_ok109)); exact rfl; exact rfl; (repeat (first | exact P0 | apply P1))) | ((with_reducible apply os_appendNil (hk := app_ok109)); exact rfl; exact rfl)) | ((with_reducible apply ox_id); first | ((with_reducible apply ox_box); exact rfl; exact rfl; intro _) | ((with_reducible apply ox_boxAgg); exact rfl; intro _)) | ((with_reducible apply t_id); first | ((with_reducible apply t_seq)) | (apply t_region; kernel_rfl) | ((with_reducible apply t_ret))) | with_reducible apply q_thenN | with_reducible apply q_thenR | exact P0 | ((with_reducible apply P1)) | ((with_reducible apply Norm.nil); exact rfl) | ((with_reducible apply Norm.cons); exact rfl) | ((with_reducible apply end_ret)) | ((with_reducible apply end_normal)) | exact rvs_nil | ((with_reducible apply rvs_cons)) | ((with_reducible apply rv_tmp); exact rfl) | exact Nat.le_of_ble_eq_true rfl | exact (rfl : (_ : Bool) = true) | omega | (intro _ _; with_reducible apply tl_id) | (intro _; with_reducible apply tl_id) | (intro _ _; with_reducible apply al_id) | (intro _; with_reducible apply al_id))
  exact ⟨_, _, _, _, rfl, rfl⟩


/-- What reports say of a time, as spans. -/
def saysOf (r0 at_ : Int) {l : List News} {post kind now : Int} (pre : List (HN l post kind now)) : List (Int × Int) := pre.map fun x => (sayLo r0 at_ x.1.2, sayHi r0 at_ x.1.2)
def KHp (b12 : Nat) : Option (Nat × Nat × List (Int × Int)) → Hp
  | none => [(b12, [.slice none 0 0], some (109, 1, 1))]
  | some (g, cap, ls) => [(b12, [.slice (some ⟨g, 0, none⟩) ls.length cap], some (109, 1, 1)), (g, (ls.map spanCells).flatten, some (26, 2, cap))]
def KPi (r0 at_ : Int) {l : List News} {post kind now : Int} (pre : List (HN l post kind now)) : Option (Nat × Nat × List (Int × Int)) → Prop
  | none => pre = []
  | some (_, _, ls) => ls = saysOf r0 at_ pre ∧ ls ≠ []
theorem flat_len (ls : List (Int × Int)) : (ls.map spanCells).flatten.length = ls.length * 2 := by
  induction ls with
  | nil => rfl
  | cons x ls ih => simp [spanCells] at ih ⊢; omega
theorem flat_snoc (ls : List (Int × Int)) (x : Int × Int) : ((ls ++ [x]).map spanCells).flatten = (ls.map spanCells).flatten ++ [.int .i64 x.1, .int .i64 x.2] := by
  simp [spanCells]


def SaysC (bd : Nat) (x : News) (at_ r0 : Int) (w : World) : Prop :=
  Calls Try.prog 123 #[.pointer (some ⟨bd, 0, none⟩), .agg #[.int .i64 x.post, .int .i64 x.kind, .int .i64 x.seen, .int .i64 x.came, .int .i64 x.lo, .int .i64 x.hi], .int .i64 at_] w fun e w' => e = .returned (.agg #[.int .i64 (sayLo r0 at_ x), .int .i64 (sayHi r0 at_ x)]) ∧ Ext w w'
theorem says_m {H : Hp} {bd : Nat} {A : Option Addr} {n cp : Nat} {p t v : Int} {x : News} {at_ r0 : Int} {W w1 : World} (hD : Desk W bd A n cp p t v) (hx : x.ok = true) (h0 : 0 ≤ at_) (h1 : at_ ≤ 1000000)
    (p0 : 0 ≤ p) (p1 : p ≤ 100) (t0 : 0 ≤ t) (t1 : t ≤ 100) (v0 : 0 ≤ v) (v1 : v ≤ 100) (hr : rateOf p t v x.kind = r0) (he : ExtM (H.map Prod.fst) W w1) (hne : ∀ y ∈ H, y.1 = bd → False) : SaysC bd x at_ r0 w1 := by
  have hDw : Desk w1 bd A n cp p t v := isNew.extM hD he fun hm => by
    obtain ⟨y, hy, e⟩ := List.mem_map.1 hm
    exact hne y hy e
  have := says_calls bd A n cp p t v x at_ w1 hDw hx h0 h1 p0 p1 t0 t1 v0 v1
  rw [hr] at this
  exact this

end Go.Proofs.Ytalidommelefaaa
