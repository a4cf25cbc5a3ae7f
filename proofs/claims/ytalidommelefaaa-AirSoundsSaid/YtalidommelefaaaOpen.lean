/- A desk is opened. -/
import Derived.Test.YtalidommelefaaaSl6
import Derived.Test.YtalidommelefaaaKnown
namespace Go.Proofs.Ytalidommelefaaa
open Go.RowKit Go.Shelf
attribute [local irreducible] OQ OS OX Rd T TL GX GL AL AI RV wpG SAny Calls
set_option maxRecDepth 100000
set_option maxHeartbeats 2000000
set_option linter.unusedVariables false
set_option linter.unusedSimpArgs false

def OpenV (p t v : Int) (A : Option Addr) (n c : Nat) (E : Int) (V : Value) (H : Hp) : Prop :=
  (E = 0 ∧ ∃ bd, V = .tuple #[.pointer (some ⟨bd, 0, none⟩), .int .i64 0] ∧ H = [(bd, [.slice A n c, .int .i64 0, .int .i64 p, .int .i64 t, .int .i64 v, .int .i64 v], some (171, 6, 1))]) ∨
  (E ≠ 0 ∧ V = .tuple #[.pointer none, .int .i64 E] ∧ H = [])
theorem ints3 (a b c : Int) : [Value.int .i64 a, .int .i64 b, .int .i64 c] = ([a, b, c].map fun z => [Value.int .i64 z]).flatten := rfl
theorem fromS3 {w0 : World} {M : Ms} {H H' : Hp} {w : World} {g : Nat} {a b c lo hi : Int} {tg : Tg} {cp : Nat} {q : Bool} (hq : allFrom lo hi [a, b, c] = q) (h : Has w0 M H w) (p : Pick H g [.int .i64 a, .int .i64 b, .int .i64 c] tg H') :
    Calls Try.prog 71 #[.int .i64 lo, .int .i64 hi, .slice (some ⟨g, 0, none⟩) 3 cp] w fun e w' => e = .returned (.bool q) ∧ Ext w w' :=
  hq ▸ from_calls lo hi (some ⟨g, 0, none⟩) 3 cp [a, b, c] w (Blk.rows (k := 1) (rows := [a, b, c].map fun z => [Value.int .i64 z]) (h.blk _ p.mem).2 rfl (by simp)) (by omega)
theorem fromS1 {w0 : World} {M : Ms} {H H' : Hp} {w : World} {g : Nat} {a lo hi : Int} {tg : Tg} {cp : Nat} {q : Bool} (hq : allFrom lo hi [a] = q) (h : Has w0 M H w) (p : Pick H g [.int .i64 a] tg H') :
    Calls Try.prog 71 #[.int .i64 lo, .int .i64 hi, .slice (some ⟨g, 0, none⟩) 1 cp] w fun e w' => e = .returned (.bool q) ∧ Ext w w' :=
  hq ▸ from_calls lo hi (some ⟨g, 0, none⟩) 1 cp [a] w (Blk.rows (k := 1) (rows := [a].map fun z => [Value.int .i64 z]) (h.blk _ p.mem).2 rfl (by simp)) (by omega)


theorem open_T (p t v : Int) (A : Option Addr) (n c : Nat) (l : List News) (post kind : Int) (At : Option Addr) (nt ct : Nat) (times : List Int) (w : World) (hr : RdS w 6 A n (l.map News.cells)) (hn : n ≤ 1000000)
    (ht : RdS w 1 At nt (times.map fun z => [.int .i64 z])) (hnt : nt ≤ 1000000) :
    Calls Try.prog 62 #[.agg #[.int .i64 p, .int .i64 t, .int .i64 v], .slice A n c, .int .i64 post, .int .i64 kind, .slice At nt ct] w fun e w' => ∃ V H', e = .returned V ∧ OpenV p t v A n c (openE p t v l post kind times) V H' ∧ Has w ⟨[], []⟩ H' w' := by
  have HC : ∀ w1, Ext w w1 → Calls Try.prog 24 #[.slice A n c] w1 fun e w' => e = .returned (.int .i64 (checkNews l)) ∧ Ext w1 w' := fun w1 hx => checkNews_calls A n c l w1 (hr.ext hx) hn
  have HT : ∀ w1, Ext w w1 → Calls Try.prog 71 #[.int .i64 0, .int .i64 1000000, .slice At nt ct] w1 fun e w' => e = .returned (.bool (allFrom 0 1000000 times)) ∧ Ext w1 w' := fun w1 hx => from_calls 0 1000000 At nt ct times w1 (ht.ext hx) (by omega)
  clear hr hn ht hnt
  unfold openE openOk
  generalize h4 : allFrom 0 1000000 times = q4 at HT ⊢
  generalize h0 : checkNews l = E0 at HC ⊢
  generalize h1 : allFrom 0 100 [p, t, v] = q1
  generalize h2 : allFrom 0 15 [post] = q2
  generalize h3 : allFrom 1 4 [kind] = q3
  refine enterF (c := cx w 56) Try.func62 rfl rfl rfl rfl ?_
  repeat' (first | ((with_reducible apply oq_id); first | (apply oq_fn; exact rfl; first | exact trivial | (refine ⟨?_, ?_⟩ <;> omega) | (refine ⟨?_, ?_, ?_⟩ <;> omega) | omega | skip) | ((with_reducible apply oq_load); exact rfl; exact rfl) | ((with_reducible apply oq_loadAgg); exact rfl; exact rfl) | ((with_reducible apply oq_call (k := 24) (hc := Try.call24)); exact rfl; exact rfl; exact fun D w1 hw1 => HC w1 hw1.ext.ext) | ((with_reducible apply oq_call (k := 71) (hc := Try.call71)); exact rfl; exact rfl; exact fun D w1 hw1 => HT w1 hw1.ext.ext) | ((with_reducible apply oq_call (k := 71) (hc := Try.call71)); exact rfl; exact rfl; exact fun D w1 hw1 => fromS3 h1 hw1 (by (repeat (first | exact P0 | apply P1)))) | ((with_reducible apply oq_call (k := 71) (hc := Try.call71)); exact rfl; exact rfl; exact fun D w1 hw1 => fromS1 h2 hw1 (by (repeat (first | exact P0 | apply P1)))) | ((with_reducible apply oq_call (k := 71) (hc := Try.call71)); exact rfl; exact rfl; exact fun D w1 hw1 => fromS1 h3 hw1 (by (repeat (first | exact P0 | apply P1)))) | ((with_reducible apply oq_build); exact rfl; exact rfl; exact rfl) | ((with_reducible apply oq_buildA); exact rfl; exact rfl; exact rfl; exact rfl)) | ((with_reducible apply tl_id); first | ((with_reducible apply tl_nil)) | ((with_reducible apply u_q); exact rfl; exact rfl; exact rfl; exact rfl) | ((with_reducible apply u_s0); exact rfl; exact rfl) | ((with_reducible apply u_s); exact rfl; exact rfl; exact rfl) | ((with_reducible apply u_skip); exact rfl; exact rfl; exact rfl) | ((with_reducible apply u_splitD); exact rfl; exact rfl; all_goals first | (intro hp; try (exfalso; omega)) | skip) | ((with_reducible apply u_splitN); exact rfl; exact rfl; all_goals first | (intro hp; try (exfalso; omega)) | skip) | ((with_reducible apply u_split); exact rfl; exact rfl; all_goals first | intro hp | skip)) | ((with_reducible apply os_id); first | ((with_reducible apply os_x); exact rfl)) | ((with_reducible apply ox_id); first | ((with_reducible apply ox_box); exact rfl; exact rfl; intro _) | ((with_reducible apply ox_boxAgg); exact rfl; intro _) | ((with_reducible apply ox_buildSlice1); exact rfl; exact rfl; exact rfl; exact rfl; exact rfl; exact rfl; intro _) | ((with_reducible apply ox_buildSlice2); exact rfl; exact rfl; exact rfl; exact rfl; exact rfl; exact rfl; intro _) | ((with_reducible apply ox_buildSlice); exact rfl; exact rfl; exact rfl; exact rfl)) | ((with_reducible apply rd_id); first | (apply Rd.own; (repeat (first | exact P0 | apply P1)); exact rfl; done) | (apply Rd.old; (first | (with_reducible assumption)); first | exact List.not_mem_nil)) | ((with_reducible apply t_id); first | ((with_reducible apply t_seq)) | (apply t_region; kernel_rfl) | ((with_reducible apply t_condT); exact rfl) | ((with_reducible apply t_condF); exact rfl) | ((with_reducible apply t_condD); exact rfl; all_goals first | (intro hp; try (exfalso; omega)) | skip) | ((with_reducible apply t_condN); exact rfl; all_goals first | (intro hp; try (exfalso; omega)) | skip) | ((with_reducible apply t_cond); exact rfl; all_goals first | intro hp | skip) | ((with_reducible apply t_ret)) | ((with_reducible apply t_skip))) | with_reducible apply q_thenN | with_reducible apply q_thenR | exact P0 | ((with_reducible apply P1)) | exact Rdn.zero | apply Rdn.succ | ((with_reducible apply Norm.nil); exact rfl) | ((with_reducible apply Norm.cons); exact rfl) | ((with_reducible apply end_ret)) | ((with_reducible apply end_normal)) | exact rvs_nil | ((with_reducible apply rvs_cons)) | ((with_reducible apply rv_tmp); exact rfl) | exact Nat.le_of_ble_eq_true rfl | exact (rfl : (_ : Bool) = true) | omega | (intro _ _; with_reducible apply tl_id) | (intro _; with_reducible apply tl_id) | (intro _ _; with_reducible apply al_id) | (intro _; with_reducible apply al_id))
  · exact ⟨_, .inr ⟨by simp [hp], by simp [hp, retOf], rfl⟩, HpSub.nil⟩
  iterate 4 exact ⟨_, .inr ⟨by simp_all, by simp_all [retOf], rfl⟩, HpSub.nil⟩
  exact ⟨_, .inl ⟨by simp_all, _, rfl, rfl⟩, HpSub.cons P0 HpSub.nil⟩

end Go.Proofs.Ytalidommelefaaa
