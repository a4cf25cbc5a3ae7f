/- What is known of reports. -/
import Derived.Test.YtalidommelefaaaPkC
import Derived.Test.YtalidommelefaaaPkB
import Derived.RangeFuncNested
import Derived.RangeFuncBound
import Derived.RangeFuncCalls
import Derived.RangeFuncLeaves
import Derived.Shelf.Abstract
import Derived.Shelf.RegionOpen
import Derived.OwnWalkIn
import Derived.TacticsInMore
import Derived.LoopNIn
import Derived.LoopIn
/- What a desk is; what a report says; spans together. -/
namespace Go.Proofs.Ytalidommelefaaa
open Go.RowKit
attribute [local irreducible] OQ OS OX Rd T TL GX GL AL AI RV wpG SAny Calls
set_option maxRecDepth 100000
set_option maxHeartbeats 2000000
set_option linter.unusedVariables false
set_option linter.unusedSimpArgs false


theorem mul_in6 (p d : Int) (h0 : 0 ≤ p) (h1 : p ≤ 100) (h2 : 0 ≤ d) (h3 : d ≤ 1000000) : 0 ≤ p * d ∧ p * d ≤ 100000000 :=
  ⟨Int.mul_nonneg h0 h2, by
    have h4 : p * d ≤ 100 * d := Int.mul_le_mul_of_nonneg_right h1 h2
    omega⟩
/-- A desk: reports with the rates of their kinds. -/
def Desk (w : World) (b : Nat) (A : Option Addr) (n c : Nat) (p t v : Int) : Prop :=
  isNew w b #[Value.slice A n c, .int .i64 0, .int .i64 p, .int .i64 t, .int .i64 v, .int .i64 v]

def openOk (p t v post kind : Int) (times : List Int) : Bool :=
  allFrom 0 100 [p, t, v] && (allFrom 0 15 [post] && (allFrom 1 4 [kind] && allFrom 0 1000000 times))
def openE (p t v : Int) (l : List News) (post kind : Int) (times : List Int) : Int :=
  if checkNews l = 0 then (if openOk p t v post kind times then 0 else 2) else checkNews l

theorem says_calls (bd : Nat) (A : Option Addr) (n c : Nat) (p t v : Int) (x : News) (at_ : Int) (w : World) (hD : Desk w bd A n c p t v) (hx : x.ok = true) (h0 : 0 ≤ at_) (h1 : at_ ≤ 1000000)
    (p0 : 0 ≤ p) (p1 : p ≤ 100) (t0 : 0 ≤ t) (t1 : t ≤ 100) (v0 : 0 ≤ v) (v1 : v ≤ 100) :
    Calls Try.prog 123 #[.pointer (some ⟨bd, 0, none⟩), .agg #[.int .i64 x.post, .int .i64 x.kind, .int .i64 x.seen, .int .i64 x.came, .int .i64 x.lo, .int .i64 x.hi], .int .i64 at_] w fun e w' => e = .returned (.agg #[.int .i64 (sayLo (rateOf p t v x.kind) at_ x), .int .i64 (sayHi (rateOf p t v x.kind) at_ x)]) ∧ Ext w w' := by
  obtain ⟨post, kind, seen, came, lo, hi⟩ := x
  rw [News.ok_iff] at hx
  obtain ⟨a1, a2, a3, a4, a5, a6, a7, a8, a9, a10⟩ := hx
  simp only at a1 a2 a3 a4 a5 a6 a7 a8 a9 a10
  have c2 : w.cell? ⟨bd, 2, none⟩ = some (.int .i64 p) := hD.1 2
  have c3 : w.cell? ⟨bd, 3, none⟩ = some (.int .i64 t) := hD.1 3
  have c4 : w.cell? ⟨bd, 4, none⟩ = some (.int .i64 v) := hD.1 4
  have c5 : w.cell? ⟨bd, 5, none⟩ = some (.int .i64 v) := hD.1 5
  simp only [sayLo, sayHi]
  have hk : kind = 1 ∨ kind = 2 ∨ kind = 3 ∨ kind = 4 := by omega
  obtain ⟨m0, m1⟩ := mul_in6 p (absd seen at_) p0 p1 (absd_nonneg _ _) (by unfold absd; omega)
  obtain ⟨m2, m3⟩ := mul_in6 t (absd seen at_) t0 t1 (absd_nonneg _ _) (by unfold absd; omega)
  obtain ⟨m4, m5⟩ := mul_in6 v (absd seen at_) v0 v1 (absd_nonneg _ _) (by unfold absd; omega)
  have ec : absd seen at_ = max (at_ - seen) (seen - at_) := by unfold absd; omega
  rw [ec] at m0 m1 m2 m3 m4 m5 ⊢
  rcases hk with rfl | rfl | rfl | rfl
  all_goals
    refine enterQ (c := cx w 36) Try.func123 rfl rfl rfl rfl ?_
    repeat' (first | ((with_reducible apply oq_id); first | (apply oq_fn; exact rfl; first | exact trivial | (refine ⟨?_, ?_⟩ <;> omega) | (refine ⟨?_, ?_, ?_⟩ <;> omega) | omega | skip) | ((with_reducible apply oq_load); exact rfl; exact rfl) | ((with_reducible apply oq_build); exact rfl; exact rfl; exact rfl)) | ((with_reducible apply tl_id); first | ((with_reducible apply tl_nil)) | ((with_reducible apply u_q); exact rfl; exact rfl; exact rfl; exact rfl) | ((with_reducible apply u_s0); exact rfl; exact rfl) | ((with_reducible apply u_s); exact rfl; exact rfl; exact rfl)) | ((with_reducible apply gx_id); first | ((with_reducible apply v_nil)) | ((with_reducible apply v_q); exact rfl; exact rfl; exact rfl)) | ((with_reducible apply os_id); first | ((with_reducible apply os_x); exact rfl) | ((with_reducible apply os_storeAgg); exact rfl; exact rfl; exact rfl; exact rfl; exact rfl)) | ((with_reducible apply ox_id); first | ((with_reducible apply ox_alloc); exact rfl; intro _) | ((with_reducible apply ox_boxAgg); exact rfl; intro _)) | ((with_reducible apply rd_id); first | (apply Rd.own; (repeat (first | exact P0 | apply P1)); exact rfl; done) | (apply Rd.old; (first | (with_reducible assumption) | exact c2 | exact c3 | exact c4 | exact c5); first | exact List.not_mem_nil | exact m0 | exact m1 | exact m2 | exact m3 | exact m4 | exact m5)) | ((with_reducible apply t_id); first | ((with_reducible apply t_seq)) | (apply t_region; kernel_rfl) | (apply t_drawn; kernel_rfl; decide +kernel) | ((with_reducible apply t_ret))) | with_reducible apply q_thenN | exact P0 | exact Rdn.zero | apply Rdn.succ | ((with_reducible apply Norm.nil); exact rfl) | ((with_reducible apply Norm.cons); exact rfl) | ((with_reducible apply end_ret)) | exact rvs_nil | ((with_reducible apply rvs_cons)) | ((with_reducible apply rv_cellAgg); exact rfl; exact rfl) | exact Nat.le_of_ble_eq_true rfl)
    all_goals rfl

theorem together_calls (A : Option Addr) (n c : Nat) (s : Int × Int) (l : List (Int × Int)) (w : World) (hr : RdS w 2 A n (l.map spanCells)) (hn : n ≤ 1000000) (h0 : l[0]? = some s) :
    Calls Try.prog 79 #[.slice A n c] w fun e w' => e = .returned (.agg #[.int .i64 (joinAll s l).1, .int .i64 (joinAll s l).2]) ∧ Ext w w' := by
  have hl := hr.len
  simp at hl
  have hn0 : 0 < n := by
    rcases Nat.eq_zero_or_pos n with h | h
    · subst h; cases l with
      | nil => cases h0
      | cons a b => simp at hl
    · exact h
  obtain ⟨b, o, x, rfl, hb, hkx, c0, c1⟩ := span_read hr hn0
  simp only [Nat.zero_mul, Nat.add_zero] at c0 c1
  obtain rfl : s = x := by rw [hkx] at h0; exact (Option.some.inj h0).symm
  refine enterQ (c := cx w 29) Try.func79 rfl rfl rfl rfl ?_
  repeat' (first | ((with_reducible apply oq_id); first | (apply oq_fn; exact rfl; first | exact trivial | (refine ⟨?_, ?_⟩ <;> omega) | (refine ⟨?_, ?_, ?_⟩ <;> omega) | omega | skip) | ((with_reducible apply oq_loadAgg); exact rfl; exact rfl)) | ((with_reducible apply tl_id); first | ((with_reducible apply tl_nil)) | ((with_reducible apply u_q); exact rfl; exact rfl; exact rfl; exact rfl) | ((with_reducible apply u_s0); exact rfl; exact rfl) | ((with_reducible apply u_s); exact rfl; exact rfl; exact rfl)) | ((with_reducible apply os_id); first | ((with_reducible apply os_x); exact rfl) | ((with_reducible apply os_storeAgg); exact rfl; exact rfl; exact rfl; exact rfl; exact rfl)) | ((with_reducible apply ox_id); first | ((with_reducible apply ox_alloc); exact rfl; intro _)) | ((with_reducible apply rd_id); first | (apply Rd.old; (first | (with_reducible assumption) | exact c0 | exact c1); first | exact List.not_mem_nil)) | ((with_reducible apply t_id); first | ((with_reducible apply t_seq)) | (apply t_region; kernel_rfl) | ((with_reducible apply t_block))) | with_reducible apply q_thenN | exact P0 | exact Rdn.zero | apply Rdn.succ | ((with_reducible apply Norm.nil); exact rfl) | ((with_reducible apply Norm.cons); exact rfl) | exact Nat.le_of_ble_eq_true rfl)
  rename_i b2 b3
  apply t_loopK (ι := Nat) [2, 3, 9, 10, 28] (fun k => [(11, .int .i64 (k : Nat))]) (fun k => [(b3, [.int .i64 (joinAll s (l.take k)).1, .int .i64 (joinAll s (l.take k)).2], some (26, 2, 1))]) (fun k => k ≤ n) (fun k => n - k) (0)
  (repeat (first | exact KeepF.nil | (apply KeepF.cons; exact rfl) | apply KeepF.skip))
  (repeat (first | exact FrSub.nil | (apply FrSub.cons; exact rfl)))
  (repeat (first | exact HpSub.refl _ | (apply HpSub.consE; (repeat (first | exact P0 | apply P1)); first | exact rfl | ((simp [joinAll]))) | exact HpSub.nil))
  · omega
  intro k hk
  try simp only [List.cons_append, List.nil_append]
  by_cases hlt : k < n
  · obtain ⟨b', o', y, hbo, _, hky, c0, c1⟩ := span_read hr hlt
    obtain ⟨rfl, rfl⟩ : b' = b ∧ o' = o := by simpa using hbo.symm
    repeat' (first | ((with_reducible apply oq_id); first | (focus ((with_reducible apply oq_indexAddrN); exact rfl; exact rfl; exact rfl; exact rfl; omega)) | (apply oq_fn; exact rfl; first | exact trivial | (refine ⟨?_, ?_⟩ <;> omega) | (refine ⟨?_, ?_, ?_⟩ <;> omega) | omega | skip) | ((with_reducible apply oq_load); exact rfl; exact rfl) | ((with_reducible apply oq_loadAgg); exact rfl; exact rfl)) | ((with_reducible apply tl_id); first | ((with_reducible apply tl_nil)) | ((with_reducible apply u_q); exact rfl; exact rfl; exact rfl; exact rfl) | ((with_reducible apply u_s0); exact rfl; exact rfl) | ((with_reducible apply u_s); exact rfl; exact rfl; exact rfl)) | ((with_reducible apply gx_id); first | ((with_reducible apply v_nil)) | ((with_reducible apply v_q); exact rfl; exact rfl; exact rfl)) | ((with_reducible apply os_id); first | ((with_reducible apply os_x); exact rfl) | ((with_reducible apply os_store); exact rfl; exact rfl; exact rfl; exact rfl) | ((with_reducible apply os_storeAgg); exact rfl; exact rfl; exact rfl; exact rfl; exact rfl)) | ((with_reducible apply ox_id); first | ((with_reducible apply ox_alloc); exact rfl; intro _)) | ((with_reducible apply ai_id); first | ((with_reducible apply ai_q); exact rfl; exact rfl; exact rfl; exact rfl; exact rfl) | ((with_reducible apply ai_s0); exact rfl; exact rfl; exact rfl; exact rfl)) | ((with_reducible apply rd_id); first | (apply Rd.own; (repeat (first | exact P0 | apply P1)); exact rfl; done) | (apply Rd.old; (first | (with_reducible assumption) | exact c0 | exact c1); first | exact List.not_mem_nil)) | ((with_reducible apply t_id); first | ((with_reducible apply t_seq)) | (apply t_region; kernel_rfl) | ((with_reducible apply t_condD); exact rfl; all_goals first | (intro hp; try (exfalso; omega)) | skip) | ((with_reducible apply t_skip)) | ((with_reducible apply t_block))) | with_reducible apply q_thenN | with_reducible apply q_blockN | exact P0 | ((with_reducible apply P1)) | exact Rdn.zero | apply Rdn.succ | ((with_reducible apply Norm.nil); exact rfl) | ((with_reducible apply Norm.cons); exact rfl) | (apply t_mix (id := 5) [0, 1, 2, 3, 4, 5, 6, 10] 6 #[false, false, false, false, false, false, false, false, false, false, false, true, false, true]; kernel_rfl; kernel_rfl; exact rfl) | ((with_reducible apply al_id); first | (apply al_done; decide +kernel) | (apply al_one 7; decide +kernel) | (apply al_one 8; decide +kernel) | (apply al_one 9; decide +kernel) | (apply al_one 11; decide +kernel) | (apply al_one 12; decide +kernel) | (apply al_one 13; decide +kernel) | (apply al_two 7 11; decide +kernel) | (apply al_two 8 11; decide +kernel) | (apply al_two 9 11; decide +kernel)) | exact Nat.le_of_ble_eq_true rfl)
    all_goals (refine ⟨k + 1, by omega, by omega, ?_, ?_⟩ <;> (try simp only [List.cons_append, List.nil_append]) <;> (repeat' (first | exact FrSub.nil | (apply FrSub.cons; exact rfl) | (apply HpSub.consE; (repeat (first | exact P0 | apply P1)); first | exact rfl | (rw [joinAll_take s l k _ hky]; rfl)) | exact HpSub.nil)))
  · obtain rfl : k = n := by omega
    rw [List.take_of_length_le (by omega)]
    repeat' (first | ((with_reducible apply oq_id); first | (apply oq_fn; exact rfl; first | exact trivial | (refine ⟨?_, ?_⟩ <;> omega) | (refine ⟨?_, ?_, ?_⟩ <;> omega) | omega | skip) | ((with_reducible apply oq_loadAgg); exact rfl; exact rfl)) | ((with_reducible apply tl_id); first | ((with_reducible apply tl_nil)) | ((with_reducible apply u_q); exact rfl; exact rfl; exact rfl; exact rfl) | ((with_reducible apply u_s0); exact rfl; exact rfl)) | ((with_reducible apply os_id); first | ((with_reducible apply os_storeAgg); exact rfl; exact rfl; exact rfl; exact rfl; exact rfl)) | ((with_reducible apply rd_id); first | (apply Rd.own; (repeat (first | exact P0 | apply P1)); exact rfl; done)) | ((with_reducible apply t_id); first | ((with_reducible apply t_seq)) | (apply t_region; kernel_rfl) | ((with_reducible apply t_condD); exact rfl; all_goals first | (intro hp; try (exfalso; omega)) | skip) | ((with_reducible apply t_ret)) | ((with_reducible apply t_exit))) | with_reducible apply q_thenN | with_reducible apply q_thenE | ((with_reducible apply q_blockE); exact rfl) | exact P0 | ((with_reducible apply P1)) | exact Rdn.zero | apply Rdn.succ | ((with_reducible apply Norm.nil); exact rfl) | ((with_reducible apply Norm.cons); exact rfl) | ((with_reducible apply end_ret)) | exact rvs_nil | ((with_reducible apply rvs_cons)) | ((with_reducible apply rv_cellAgg); exact rfl; exact rfl) | exact Nat.le_of_ble_eq_true rfl)
    all_goals rfl

end Go.Proofs.Ytalidommelefaaa
/- The iterator over what is at hand. -/
namespace Go.Proofs.Ytalidommelefaaa
set_option linter.unusedVariables false
set_option linter.unusedSimpArgs false
open Go.RowKit Go.Shelf
attribute [local irreducible] wpG SAny
attribute [local go_sem] Oper.semAt_some

/-- What is handed out: a report with its place. -/
abbrev HN (l : List News) (post kind now : Int) := { p : Nat × News // l[p.1]? = some p.2 ∧ p.2.hand post kind now = true }
def hn (l : List News) (post kind now : Int) (i : Nat) : Option (HN l post kind now) :=
  match h : l[i]? with
  | some x => if hh : x.hand post kind now = true then some ⟨(i, x), h, hh⟩ else none
  | none => none
def hns (l : List News) (post kind now : Int) (k : Nat) : List (HN l post kind now) := (List.range k).filterMap (hn l post kind now)
theorem hn_yes {l : List News} {post kind now : Int} {i : Nat} {x : News} (h : l[i]? = some x) (hh : x.hand post kind now = true) : hn l post kind now i = some ⟨(i, x), h, hh⟩ := by
  unfold hn
  split
  · rename_i y hy
    obtain rfl : y = x := by rw [hy] at h; exact Option.some.inj h
    rw [dif_pos hh]
  · rename_i hy
    rw [hy] at h; cases h
theorem hn_no {l : List News} {post kind now : Int} {i : Nat} {x : News} (h : l[i]? = some x) (hh : x.hand post kind now = false) : hn l post kind now i = none := by
  unfold hn
  split
  · rename_i y hy
    obtain rfl : y = x := by rw [hy] at h; exact Option.some.inj h
    rw [dif_neg (by simp [hh])]
  · rfl
theorem hns_yes {l : List News} {post kind now : Int} {i : Nat} {x : News} (h : l[i]? = some x) (hh : x.hand post kind now = true) : hns l post kind now (i + 1) = hns l post kind now i ++ [⟨(i, x), h, hh⟩] := by
  unfold hns
  rw [List.range_succ, List.filterMap_append]
  simp [hn_yes h hh]
theorem hns_no {l : List News} {post kind now : Int} {i : Nat} {x : News} (h : l[i]? = some x) (hh : x.hand post kind now = false) : hns l post kind now (i + 1) = hns l post kind now i := by
  unfold hns
  rw [List.range_succ, List.filterMap_append]
  simp [hn_no h hh]
theorem hns_len (l : List News) (post kind now : Int) (k : Nat) : (hns l post kind now k).length ≤ k := by
  unfold hns
  exact Nat.le_trans (List.length_filterMap_le _ _) (by simp)
theorem hns_pre (l : List News) (post kind now : Int) (k n : Nat) (h : k ≤ n) : hns l post kind now k <+: hns l post kind now n := by
  obtain ⟨d, rfl⟩ := Nat.exists_eq_add_of_le h
  unfold hns
  rw [List.range_add, List.filterMap_append]
  exact List.prefix_append _ _

/-- The blocks of M lie as they lay. -/
def KeepM (M : Nat → Prop) (W W' : World) : Prop := ∀ b, M b → W'.heap[b]? = W.heap[b]?
theorem KeepM.trans {M : Nat → Prop} {A B C : World} (h : KeepM M A B) (k : KeepM M B C) : KeepM M A C := fun b hb => (k b hb).trans (h b hb)
theorem KeepM.cell {M : Nat → Prop} {A B : World} (h : KeepM M A B) {p : Addr} (hp : M p.block) : B.cell? p = A.cell? p := by
  unfold World.cell?; rw [h _ hp]
theorem KeepM.put {M : Nat → Prop} {w : World} (hM : ∀ b, M b → b < w.heap.size) (W : World) (l : Nat) (o o' : Obj) (hl : w.heap.size ≤ l) (_ : W.heap[l]? = some o) (_ : o.isCells = false) (_ : o.isWalk = false) : KeepM M W (W.putObj l o') := fun b hb => by
  have := hM b hb
  simp [World.putObj, Array.getElem?_setIfInBounds]
  omega

theorem RdS.keep {M : Nat → Prop} {w w' : World} {k : Nat} {A : Option Addr} {n : Nat} {xs : List (List Value)} (h : RdS w k A n xs) (he : KeepM M w w') (hM : 0 < n → ∀ b o, A = some ⟨b, o, none⟩ → M b) : RdS w' k A n xs :=
  ⟨h.len, fun hn => by
    obtain ⟨b, o, rfl, hb, hc⟩ := h.at_ hn
    have hh := he b (hM hn b o rfl)
    refine ⟨b, o, rfl, ?_, fun i x hx => ⟨(hc i x hx).1, fun j u hu => (he.cell (hM hn b o rfl)).trans ((hc i x hx).2 j u hu)⟩⟩
    rw [Array.getElem?_eq_getElem hb] at hh
    exact (Array.getElem?_eq_some_iff.1 hh).1⟩
/-- A box. -/
def Bx (W : World) (b : Nat) (v : Value) : Prop := W.cell? ⟨b, 0, none⟩ = some v

set_option maxRecDepth 100000 in
set_option maxHeartbeats 2000000 in
theorem hand1_in (F : Fence) (m : Nat) (h143 : F.fn 143) (hro : F.round = none) (hm : 1 ≤ m) (y B0 B1 B2 B3 bd : Nat) (A : Option Addr) (n c : Nat) (p t v : Int) (l : List News) (post kind now : Int) (hn0 : n ≤ 1000000)
    (M : Nat → Prop) (hM0 : M B0) (hM1 : M B1) (hM2 : M B2) (hM3 : M B3) (hMd : M bd) (hMA : 0 < n → ∀ b o, A = some ⟨b, o, none⟩ → M b)
    (J Jx : List (HN l post kind now) → World → Prop)
    (hJa : ∀ pre W o, J pre W → J pre (W.alloc o))
    (hJR : ∀ pre W, J pre W → RdS W 6 A n (l.map News.cells) ∧ Bx W B0 (.pointer (some ⟨bd, 0, none⟩)) ∧ Bx W B1 (.int .i64 post) ∧ Bx W B2 (.int .i64 kind) ∧ Bx W B3 (.int .i64 now) ∧ W.cell? ⟨bd, 0, none⟩ = some (.slice A n c))
    (hY : ∀ pre x W, J pre W → pre.length < l.length → YieldAt F (m - 1) Try.prog y #[.int .i64 (x.1.1 : Int), .agg #[.int .i64 x.1.2.post, .int .i64 x.1.2.kind, .int .i64 x.1.2.seen, .int .i64 x.1.2.came, .int .i64 x.1.2.lo, .int .i64 x.1.2.hi]] W fun e W' =>
      (e = .returned (.bool true) ∧ J (pre ++ [x]) W' ∧ KeepM M W W') ∨ (e = .returned (.bool false) ∧ Jx (pre ++ [x]) W'))
    (W : World) (h0 : J [] W) :
    CallsIn F m Try.prog 143 #[.func (.yield y) #[] #[], .pointer (some ⟨B0, 0, none⟩), .pointer (some ⟨B1, 0, none⟩), .pointer (some ⟨B2, 0, none⟩), .pointer (some ⟨B3, 0, none⟩)] W fun e W' => (∃ v, e = .returned v) ∧
      ((∃ ys, ys = hns l post kind now l.length ∧ J ys W') ∨ (∃ pre, pre <+: hns l post kind now l.length ∧ Jx pre W')) := by
  have HJR := Lib.hid hJR
  have HJa := Lib.hid hJa
  have HY := Lib.hid hY
  clear hJR hJa hY
  have r0 := HJR.out _ _ h0
  obtain ⟨hr, b0, b1, b2, b3, bD⟩ := r0
  have hl := hr.len
  simp at hl
  have HR := Lib.hid hr
  clear hr
  unfold Bx at b0 b1 b2 b3
  refine callsIn_of_wp Try.func143 rfl h143 ?_ hro
  simp only [Try.ntmps143, List.size_toArray, List.length_cons, List.length_nil, Nat.reduceAdd, Nat.reduceSub, Array.replicate_succ, Array.replicate_zero, List.push_toArray, List.append_toArray, List.nil_append, List.cons_append]
  gi_wp2
  gi_loopw [13] (fun i wr => ∃ k : Nat, k ≤ n ∧ i = .int .i64 k ∧ J (hns l post kind now k) wr)
    (fun i wr => n - (intOf i).toNat)
  case atStart =>
    exact ⟨0, by omega, rfl, h0⟩
  case round =>
    obtain ⟨k, hk, rfl, hJ⟩ := hrel
    clear b0 b1 b2 b3 bD
    by_cases hlt : k < n
    · obtain ⟨hr, b0, b1, b2, b3, bD⟩ := HJR.out _ _ hJ
      unfold Bx at b0 b1 b2 b3
      obtain ⟨b, o, x, rfl, hb, hkx, c0, c1, c2, c3, c4, c5⟩ := News.read hr hlt
      have HJ := Lib.hid hJ
      have HK := Lib.hid hkx
      have hb1 := cell_lt b1
      have hb2 := cell_lt b2
      have hb3 := cell_lt b3
      simp only at hb1 hb2 hb3
      clear hr hJ hkx b0 bD
      by_cases hh : x.hand post kind now = true
      · have hlen := hns_len l post kind now k
        have hh' := hh
        simp only [News.hand, Bool.and_eq_true, decide_eq_true_eq] at hh'
        obtain ⟨⟨h1, h2⟩, h3⟩ := hh'
        obtain ⟨xp, xk, xs, xc, xl, xh⟩ := x
        simp only at h1 h2 h3 c0 c1 c2 c3 c4 c5
        subst h1 h2
        have HJ2 := HJa.out _ _ (.cells #[.int .i64 xp, .int .i64 xk, .int .i64 xs, .int .i64 xc, .int .i64 xl, .int .i64 xh] 102) HJ.out
        obtain ⟨fn, tmps, assign, body, hy, hR⟩ := HY.out (hns l _ _ now k) ⟨(k, ⟨xp, xk, xs, xc, xl, xh⟩), HK.out, hh⟩ _ HJ2 (by omega)
        dsimp only at hy
        clear HJ2
        gi_wp2
        refine hR.mono ?_
        rintro e W3 (⟨rfl, hJ3, hk3⟩ | ⟨rfl, hJx3⟩)
        · gi_wp2
          go_roundw
          case rel => exact ⟨k + 1, by omega, by go_num, by rw [hns_yes HK.out hh]; exact hJ3⟩
          case measure => simp [intOf]; omega
        · gi_wp2
          refine bodyPost_ret (results_none rfl _ _ _) rfl ?_
          exact ⟨⟨_, rfl⟩, .inr ⟨_, by rw [← hns_yes HK.out hh]; exact hns_pre _ _ _ _ _ _ (by omega), hJx3⟩⟩
      · have hhf : x.hand post kind now = false := by simpa using hh
        have HH := Lib.hid hhf
        have hns := Lib.hid (hns_no HK.out hhf)
        by_cases h1 : x.post = post <;> by_cases h2 : x.kind = kind <;> by_cases h3 : x.came ≤ now
        · exact absurd (by simp [News.hand, h1, h2, h3]) hh
        all_goals
          clear hh hhf
          gi_wp2
          refine ⟨fun _ h => (by cases h), ?_⟩
          gi_wp2
          go_roundw
          case rel => exact ⟨k + 1, by omega, by go_num, by rw [hns.out]; exact HJa.out _ _ _ HJ.out⟩
          case measure => simp [intOf]; omega
    · obtain rfl : k = n := by omega
      gi_wp2
      go_end0
      exact ⟨⟨_, rfl⟩, .inl ⟨_, by rw [hl], hJ⟩⟩
/-- What the iterator reads. -/
def HandAt (W : World) (B0 B1 B2 B3 bd : Nat) (A : Option Addr) (n c : Nat) (l : List News) (post kind now : Int) : Prop :=
  RdS W 6 A n (l.map News.cells) ∧ Bx W B0 (.pointer (some ⟨bd, 0, none⟩)) ∧ Bx W B1 (.int .i64 post) ∧ Bx W B2 (.int .i64 kind) ∧ Bx W B3 (.int .i64 now) ∧ W.cell? ⟨bd, 0, none⟩ = some (.slice A n c)
theorem HandAt.ext {W W' : World} {B0 B1 B2 B3 bd : Nat} {A : Option Addr} {n c : Nat} {l : List News} {post kind now : Int} (h : HandAt W B0 B1 B2 B3 bd A n c l post kind now) (he : Ext W W') : HandAt W' B0 B1 B2 B3 bd A n c l post kind now :=
  ⟨h.1.ext he, he.cell h.2.1, he.cell h.2.2.1, he.cell h.2.2.2.1, he.cell h.2.2.2.2.1, he.cell h.2.2.2.2.2⟩

theorem hand_stops (F : Fence) (m : Nat) (h143 : F.fn 143) (hro : F.round = none) (hm : 1 ≤ m) (B0 B1 B2 B3 bd : Nat) (A : Option Addr) (n c : Nat) (l : List News) (post kind now : Int) (hn0 : n ≤ 1000000)
    (M : Nat → Prop) (hM0 : M B0) (hM1 : M B1) (hM2 : M B2) (hM3 : M B3) (hMd : M bd) (hMA : 0 < n → ∀ b o, A = some ⟨b, o, none⟩ → M b) (w : World) (h : HandAt w B0 B1 B2 B3 bd A n c l post kind now) :
    SeqStopsK F m Try.prog 143 #[.pointer (some ⟨B0, 0, none⟩), .pointer (some ⟨B1, 0, none⟩), .pointer (some ⟨B2, 0, none⟩), .pointer (some ⟨B3, 0, none⟩)]
      (fun x : HN l post kind now => #[.int .i64 (x.1.1 : Int), .agg #[.int .i64 x.1.2.post, .int .i64 x.1.2.kind, .int .i64 x.1.2.seen, .int .i64 x.1.2.came, .int .i64 x.1.2.lo, .int .i64 x.1.2.hi]])
      (KeepM M) (fun ys => ys = hns l post kind now l.length) (fun pre => pre <+: hns l post kind now l.length) l.length w := fun y J Jx W hW hJ hJx hY h0 => by
  refine (hand1_in F m h143 hro hm y B0 B1 B2 B3 bd A n c 0 0 0 l post kind now hn0 M hM0 hM1 hM2 hM3 hMd hMA (fun pre W => J pre W ∧ HandAt W B0 B1 B2 B3 bd A n c l post kind now) Jx ?_ (fun pre W h => h.2) ?_ W ⟨h0, h.ext hW⟩).mono ?_
  · exact fun pre W o hj => ⟨hJ _ _ _ none hj.1 (World.grownBy_alloc W o none) (fun r e => by cases e), hj.2.ext ((Ext.refl W).alloc o)⟩
  · intro pre x W1 hj hlen
    obtain ⟨fn, tmps, assign, body, hy, hR⟩ := hY pre x W1 hj.1 hlen
    refine ⟨fn, tmps, assign, body, hy, hR.mono ?_⟩
    rintro e W' (⟨he, hj', hk⟩ | h)
    · exact .inl ⟨he, ⟨hj', hj.2.1.keep hk hMA, (hk.cell hM0).trans hj.2.2.1, (hk.cell hM1).trans hj.2.2.2.1, (hk.cell hM2).trans hj.2.2.2.2.1, (hk.cell hM3).trans hj.2.2.2.2.2.1, (hk.cell hMd).trans hj.2.2.2.2.2.2⟩, hk⟩
    · exact .inr h
  · rintro e W' ⟨hv, ⟨ys, hys, hj⟩ | h⟩
    · exact ⟨hv, .inl ⟨ys, hys, hj.1⟩⟩
    · exact ⟨hv, .inr h⟩

theorem hand_in (F : Fence) (m : Nat) (h122 : F.fn 122) (hro : F.round = none) (bd : Nat) (post kind now : Int) (w : World) :
    CallsIn F m Try.prog 122 #[.pointer (some ⟨bd, 0, none⟩), .int .i64 post, .int .i64 kind, .int .i64 now] w fun e w' =>
      e = .returned (.func (.func 143) #[] #[.pointer (some ⟨w.heap.size, 0, none⟩), .pointer (some ⟨w.heap.size + 1, 0, none⟩), .pointer (some ⟨w.heap.size + 2, 0, none⟩), .pointer (some ⟨w.heap.size + 3, 0, none⟩)]) ∧
      w' = (((w.alloc (.cells #[.pointer (some ⟨bd, 0, none⟩)] 115)).alloc (.cells #[.int .i64 post] 3)).alloc (.cells #[.int .i64 kind] 3)).alloc (.cells #[.int .i64 now] 3) := by
  refine callsIn_of_wp Try.func122 rfl h122 ?_ hro
  simp only [Try.ntmps122, List.size_toArray, List.length_cons, List.length_nil, Nat.reduceAdd, Nat.reduceSub, Array.replicate_succ, Array.replicate_zero, List.push_toArray, List.append_toArray, List.nil_append, List.cons_append]
  gi_wp2
  go_ret
  exact ⟨rfl, rfl⟩
end Go.Proofs.Ytalidommelefaaa
/- What a desk knows. -/
namespace Go.Proofs.Ytalidommelefaaa
open Go.RowKit Go.Shelf
attribute [local irreducible] OQ OS OX Rd T TL GX GL AL AI RV wpG SAny
set_option maxRecDepth 100000
set_option maxHeartbeats 2000000
set_option linter.unusedVariables false
set_option linter.unusedSimpArgs false


/-- What the desk hands out: an iterator. -/
def HandV (bd : Nat) (post kind now : Int) (v : Value) (H : Hp) : Prop :=
  ∃ b0 b1 b2 b3, v = .func (.func 143) #[] #[.pointer (some ⟨b0, 0, none⟩), .pointer (some ⟨b1, 0, none⟩), .pointer (some ⟨b2, 0, none⟩), .pointer (some ⟨b3, 0, none⟩)] ∧
    H = [(b3, [.int .i64 now], some (3, 1, 1)), (b2, [.int .i64 kind], some (3, 1, 1)), (b1, [.int .i64 post], some (3, 1, 1)), (b0, [.pointer (some ⟨bd, 0, none⟩)], some (115, 1, 1))]
theorem hand_T (bd : Nat) (post kind now : Int) (w : World) : Calls Try.prog 122 #[.pointer (some ⟨bd, 0, none⟩), .int .i64 post, .int .i64 kind, .int .i64 now] w fun e w' => ∃ v H', e = .returned v ∧ HandV bd post kind now v H' ∧ Has w ⟨[], []⟩ H' w' := by
  refine enter (c := cx w 10) (H := []) (F := frOf 0 _) Try.func122 rfl rfl rfl (fun d v hv => (look_frOf _ 0 d v hv).2) (Has.start _) ?_
  repeat' (first | ((with_reducible apply oq_id); first | (apply oq_fn; exact rfl; first | exact trivial | (refine ⟨?_, ?_⟩ <;> omega) | (refine ⟨?_, ?_, ?_⟩ <;> omega) | omega | skip)) | ((with_reducible apply tl_id); first | ((with_reducible apply tl_nil)) | ((with_reducible apply u_q); exact rfl; exact rfl; exact rfl; exact rfl) | ((with_reducible apply u_s); exact rfl; exact rfl; exact rfl)) | ((with_reducible apply os_id); first | ((with_reducible apply os_x); exact rfl)) | ((with_reducible apply ox_id); first | ((with_reducible apply ox_box); exact rfl; exact rfl; intro _)) | ((with_reducible apply t_id); first | ((with_reducible apply t_seq)) | (apply t_region; kernel_rfl) | ((with_reducible apply t_ret))) | with_reducible apply q_thenN | ((with_reducible apply end_ret)) | exact rvs_nil | ((with_reducible apply rvs_cons)) | ((with_reducible apply rv_tmp); exact rfl))
  exact ⟨_, _, _, _, rfl, rfl⟩


/-- What reports say of a time, as spans. -/
def saysOf (r0 at_ : Int) {l : List News} {post kind now : Int} (pre : List (HN l post kind now)) : List (Int × Int) := pre.map fun x => (sayLo r0 at_ x.1.2, sayHi r0 at_ x.1.2)
def KHp (b12 : Nat) : Option (Nat × Nat × List (Int × Int)) → Hp
  | none => [(b12, [.slice none 0 0], some (109, 1, 1))]
  | some (g, cap, ls) => [(b12, [.slice (some ⟨g, 0, none⟩) ls.length cap], some (109, 1, 1)), (g, (ls.map spanCells).flatten, some (26, 2, cap))]
def KPi (r0 at_ : Int) {l : List News} {post kind now : Int} (pre : List (HN l post kind now)) : Option (Nat × Nat × List (Int × Int)) → Prop
  | none => pre = []
  | some (_, _, ls) => ls = saysOf r0 at_ pre ∧ ls ≠ []
theorem flat_len (ls : List (Int × Int)) : (ls.map spanCells).flatten.length = ls.length * 2 := by
  induction ls with
  | nil => rfl
  | cons x ls ih => simp [spanCells] at ih ⊢; omega
theorem flat_snoc (ls : List (Int × Int)) (x : Int × Int) : ((ls ++ [x]).map spanCells).flatten = (ls.map spanCells).flatten ++ [.int .i64 x.1, .int .i64 x.2] := by
  simp [spanCells]


def SaysC (bd : Nat) (x : News) (at_ r0 : Int) (w : World) : Prop :=
  Calls Try.prog 123 #[.pointer (some ⟨bd, 0, none⟩), .agg #[.int .i64 x.post, .int .i64 x.kind, .int .i64 x.seen, .int .i64 x.came, .int .i64 x.lo, .int .i64 x.hi], .int .i64 at_] w fun e w' => e = .returned (.agg #[.int .i64 (sayLo r0 at_ x), .int .i64 (sayHi r0 at_ x)]) ∧ Ext w w'
theorem says_m {H : Hp} {bd : Nat} {A : Option Addr} {n cp : Nat} {p t v : Int} {x : News} {at_ r0 : Int} {W w1 : World} (hD : Desk W bd A n cp p t v) (hx : x.ok = true) (h0 : 0 ≤ at_) (h1 : at_ ≤ 1000000)
    (p0 : 0 ≤ p) (p1 : p ≤ 100) (t0 : 0 ≤ t) (t1 : t ≤ 100) (v0 : 0 ≤ v) (v1 : v ≤ 100) (hr : rateOf p t v x.kind = r0) (he : ExtM (H.map Prod.fst) W w1) (hne : ∀ y ∈ H, y.1 = bd → False) : SaysC bd x at_ r0 w1 := by
  have hDw : Desk w1 bd A n cp p t v := isNew.extM hD he fun hm => by
    obtain ⟨y, hy, e⟩ := List.mem_map.1 hm
    exact hne y hy e
  have := says_calls bd A n cp p t v x at_ w1 hDw hx h0 h1 p0 p1 t0 t1 v0 v1
  rw [hr] at this
  exact this

end Go.Proofs.Ytalidommelefaaa
/- Which reports of a desk contradict each other. -/
namespace Go.Proofs.Ytalidommelefaaa
open Go.RowKit Go.Shelf
attribute [local irreducible] OQ OS OX Rd T TL GX GL AL AI RV wpG SAny
set_option maxRecDepth 100000
set_option maxHeartbeats 2000000
set_option linter.unusedVariables false
set_option linter.unusedSimpArgs false


/-- The body of conflict's outer loop. -/
noncomputable def outerOf : Code → Code
  | .seq _ (.seq (.seq _ (.block _ (.rangeFunc _ _ _ b))) _) => b
  | _ => .skip
noncomputable def code69 : Code := match Try.f69.body with | some c => outerOf c | none => .skip


theorem tog_own {w0 : World} {M : Ms} {H H' : Hp} {w : World} {bb : Nat} {a b c d : Int} {g : Tg} (h : Has w0 M H w) (p : Pick H bb [.int .i64 a, .int .i64 b, .int .i64 c, .int .i64 d] g H') :
    Calls Try.prog 79 #[.slice (some ⟨bb, 0, none⟩) 2 2] w fun e w' => e = .returned (.agg #[.int .i64 (max a c), .int .i64 (min b d)]) ∧ Ext w w' := by
  have hb := (h.blk _ p.mem).2
  have hr : RdS w 2 (some ⟨bb, 0, none⟩) 2 ([(a, b), (c, d)].map spanCells) := Blk.rows (rows := [(a, b), (c, d)].map spanCells) (g := g) hb rfl (by simp [spanCells])
  have := together_calls (some ⟨bb, 0, none⟩) 2 2 (a, b) [(a, b), (c, d)] w hr (by omega) rfl
  simpa [joinAll, joinS] using this
theorem contra_span (r : Int) (x y : News) (hx : x.lo ≤ x.hi) (hy : y.lo ≤ y.hi) (hr : 0 ≤ r) : (min (sayHi r y.seen x) y.hi < max (sayLo r y.seen x) y.lo) ↔ contra r x y = true := by
  have h0 : 0 ≤ r * absd x.seen y.seen := Int.mul_nonneg hr (absd_nonneg _ _)
  unfold sayHi sayLo contra
  generalize r * absd x.seen y.seen = q at *
  simp only [decide_eq_true_eq]
  omega

/-- No report of the list contradicts any. -/
def CPi (r0 : Int) {l : List News} {post kind now : Int} (pre : List (HN l post kind now)) : Prop := ∀ x ∈ pre, ∀ y : HN l post kind now, pairs r0 l post kind now x.1.1 y.1.1 = false
def CPi2 (r0 : Int) {l : List News} {post kind now : Int} (x : HN l post kind now) (pre : List (HN l post kind now)) : Prop := ∀ y ∈ pre, pairs r0 l post kind now x.1.1 y.1.1 = false
/-- Reports x and y are the first that contradict each other. -/
def CPl (r0 : Int) {l : List News} {post kind now : Int} (k : Code) (pre : List (HN l post kind now)) (i : Nat × Nat) : Prop :=
  k = .ret ∧ ∃ pre0 x pre2 y, pre = pre0 ++ [x] ∧ CPi r0 pre0 ∧ (pre2 ++ [y]) <+: hns l post kind now l.length ∧ CPi2 r0 x pre2 ∧ pairs r0 l post kind now x.1.1 y.1.1 = true ∧ i = (x.1.1, y.1.1)
def CPl2 (r0 : Int) {l : List News} {post kind now : Int} (x : HN l post kind now) (k : Code) (pre : List (HN l post kind now)) (i : Nat × Nat) : Prop :=
  k = .ret ∧ ∃ pre2 y, pre = pre2 ++ [y] ∧ CPi2 r0 x pre2 ∧ pairs r0 l post kind now x.1.1 y.1.1 = true ∧ i = (x.1.1, y.1.1)


theorem pairs_hn (r : Int) {l : List News} {post kind now : Int} (x y : HN l post kind now) : pairs r l post kind now x.1.1 y.1.1 = (decide (x.1.1 < y.1.1) && contra r x.1.2 y.1.2) := by
  unfold pairs
  rw [x.2.1, y.2.1]
  simp [x.2.2, y.2.2]
theorem hns_mem {l : List News} {post kind now : Int} (x : HN l post kind now) : x ∈ hns l post kind now l.length := by
  unfold hns
  rw [List.mem_filterMap]
  exact ⟨x.1.1, by rw [List.mem_range]; exact (List.getElem?_eq_some_iff.1 x.2.1).1, hn_yes x.2.1 x.2.2⟩
theorem hn_at {l : List News} {post kind now : Int} {i : Nat} {x : HN l post kind now} (h : hn l post kind now i = some x) : x.1.1 = i := by
  unfold hn at h
  split at h
  · split at h
    · cases h; rfl
    · cases h
  · cases h
theorem hns_sorted (l : List News) (post kind now : Int) (k : Nat) : (hns l post kind now k).Pairwise (fun a b => a.1.1 < b.1.1) := by
  unfold hns
  rw [List.pairwise_filterMap]
  refine List.Pairwise.imp ?_ (List.pairwise_lt_range (n := k))
  intro a b hab x hx y hy
  rw [hn_at hx, hn_at hy]; exact hab
/-- What comes before x is handed out before x. -/
theorem hns_before {l : List News} {post kind now : Int} {pre : List (HN l post kind now)} {x z : HN l post kind now} (h : (pre ++ [x]) <+: hns l post kind now l.length) (hz : z.1.1 < x.1.1) : z ∈ pre := by
  obtain ⟨r, hr⟩ := h
  have hm := hns_mem z
  have hs := hns_sorted l post kind now l.length
  rw [← hr] at hm hs
  rcases List.mem_append.1 hm with hm | hm
  · rcases List.mem_append.1 hm with hm | hm
    · exact hm
    · obtain rfl : z = x := by simpa using hm
      omega
  · have := (List.pairwise_append.1 hs).2.2 x (by simp) z hm
    omega
theorem pairs_no {r : Int} {l : List News} {post kind now : Int} {j m : Nat} (h : ∀ x y : HN l post kind now, x.1.1 = j → y.1.1 = m → pairs r l post kind now x.1.1 y.1.1 = false) : pairs r l post kind now j m = false := by
  cases hp : pairs r l post kind now j m with
  | false => rfl
  | true =>
    unfold pairs at hp
    simp only [Bool.and_eq_true] at hp
    have hp2 := hp.2
    split at hp2
    · rename_i x y hx hy
      simp only [Bool.and_eq_true] at hp2
      have := h ⟨(j, x), hx, hp2.1.1⟩ ⟨(m, y), hy, hp2.1.2⟩ rfl rfl
      simp only at this
      unfold pairs at this
      rw [hx, hy] at this
      simp [hp.1, hp2.1.1, hp2.1.2, hp2.2] at this
    · cases hp2
noncomputable def innerOf : Code → Code
  | .block _ (.seq _ (.block _ (.rangeFunc _ _ _ b))) => b
  | _ => .skip
noncomputable def code69i : Code := innerOf code69
theorem conf_inner {bd : Nat} {A : Option Addr} {n cp : Nat} {p t v : Int} {l : List News} {post kind now : Int} {w W : World}
    (hD : Desk w bd A n cp p t v) (hok : ∀ x ∈ l, x.ok = true) (p0 : 0 ≤ p) (p1 : p ≤ 100) (t0 : 0 ≤ t) (t1 : t ≤ 100) (v0 : 0 ≤ v) (v1 : v ≤ 100) {r0 : Int} (hrt : rateOf p t v kind = r0) (hx : Ext w W)
    {q0 q1 q2 q3 b4 b8 b9 b10 l2 b14 : Nat} {pre2 : List (HN l post kind now)} {x y : HN l post kind now} {b : Nat × Nat} {W2 : World} {D2 : List Nat}
    (hbdM : bd ∉ ([(b.2, [.int .i64 x.1.2.post, .int .i64 x.1.2.kind, .int .i64 x.1.2.seen, .int .i64 x.1.2.came, .int .i64 x.1.2.lo, .int .i64 x.1.2.hi], some (102, 6, 1)), (b.1, [.int .i64 (x.1.1 : Int)], some (3, 1, 1)), (b10, [.bool false], some (4, 1, 1)), (b9, [.int .i64 0], some (3, 1, 1)), (b8, [.int .i64 0], some (3, 1, 1))] : Hp).map Prod.fst)
    (hDW : Desk W bd A n cp p t v) (c4 : W.cell? ⟨b4, 0, none⟩ = some (.pointer (some ⟨bd, 0, none⟩))) (hb4 : b4 < W.heap.size)
    (m4 : b4 ∉ ([(b.2, [.int .i64 x.1.2.post, .int .i64 x.1.2.kind, .int .i64 x.1.2.seen, .int .i64 x.1.2.came, .int .i64 x.1.2.lo, .int .i64 x.1.2.hi], some (102, 6, 1)), (b.1, [.int .i64 (x.1.1 : Int)], some (3, 1, 1)), (b10, [.bool false], some (4, 1, 1)), (b9, [.int .i64 0], some (3, 1, 1)), (b8, [.int .i64 0], some (3, 1, 1))] : Hp).map Prod.fst)
    (hi2 : CPi2 r0 x pre2)
    (hw2 : Has W ⟨([(b.2, [.int .i64 x.1.2.post, .int .i64 x.1.2.kind, .int .i64 x.1.2.seen, .int .i64 x.1.2.came, .int .i64 x.1.2.lo, .int .i64 x.1.2.hi], some (102, 6, 1)), (b.1, [.int .i64 (x.1.1 : Int)], some (3, 1, 1)), (b10, [.bool false], some (4, 1, 1)), (b9, [.int .i64 0], some (3, 1, 1)), (b8, [.int .i64 0], some (3, 1, 1))] : Hp).map Prod.fst, D2⟩ (([(b14, [.int .i64 y.1.2.post, .int .i64 y.1.2.kind, .int .i64 y.1.2.seen, .int .i64 y.1.2.came, .int .i64 y.1.2.lo, .int .i64 y.1.2.hi], some (102, 6, 1))] ++ [(b10, [.bool false], some (4, 1, 1)), (b9, [.int .i64 0], some (3, 1, 1)), (b8, [.int .i64 0], some (3, 1, 1))] : Hp) ++ [(q3, [.int .i64 now], some (3, 1, 1)), (q2, [.int .i64 kind], some (3, 1, 1)), (q1, [.int .i64 post], some (3, 1, 1)), (q0, [.pointer (some ⟨bd, 0, none⟩)], some (115, 1, 1)), (b.2, [.int .i64 x.1.2.post, .int .i64 x.1.2.kind, .int .i64 x.1.2.seen, .int .i64 x.1.2.came, .int .i64 x.1.2.lo, .int .i64 x.1.2.hi], some (102, 6, 1)), (b.1, [.int .i64 (x.1.1 : Int)], some (3, 1, 1))]) W2) :
    T { cx W 51 with w0 := W2, M := ([(b14, [.int .i64 y.1.2.post, .int .i64 y.1.2.kind, .int .i64 y.1.2.seen, .int .i64 y.1.2.came, .int .i64 y.1.2.lo, .int .i64 y.1.2.hi], some (102, 6, 1))] ++ [(b10, [.bool false], some (4, 1, 1)), (b9, [.int .i64 0], some (3, 1, 1)), (b8, [.int .i64 0], some (3, 1, 1))] : Hp).map Prod.fst } (WS.round Try.prog l2 1) code69i
      (QB (fun _ : Unit => [(b10, [.bool false], some (4, 1, 1)), (b9, [.int .i64 0], some (3, 1, 1)), (b8, [.int .i64 0], some (3, 1, 1))]) (fun pre _ => CPi2 r0 x pre) (fun i : Nat × Nat => [(b10, [.bool true], some (4, 1, 1)), (b9, [.int .i64 (i.2 : Int)], some (3, 1, 1)), (b8, [.int .i64 (i.1 : Int)], some (3, 1, 1))]) (CPl2 r0 x) (pre2 ++ [y]))
      [(14, .pointer (some ⟨b14, 0, none⟩)), (13, .int .i64 (y.1.1 : Int)), (12, .pointer (some ⟨b.2, 0, none⟩)), (11, .pointer (some ⟨b.1, 0, none⟩)), (4, .pointer (some ⟨b4, 0, none⟩)), (8, .pointer (some ⟨b8, 0, none⟩)), (9, .pointer (some ⟨b9, 0, none⟩)), (10, .pointer (some ⟨b10, 0, none⟩))]
      ([(b14, [.int .i64 y.1.2.post, .int .i64 y.1.2.kind, .int .i64 y.1.2.seen, .int .i64 y.1.2.came, .int .i64 y.1.2.lo, .int .i64 y.1.2.hi], some (102, 6, 1))] ++ [(b10, [.bool false], some (4, 1, 1)), (b9, [.int .i64 0], some (3, 1, 1)), (b8, [.int .i64 0], some (3, 1, 1))]) := by
  have hxo := hok _ (List.mem_of_getElem? x.2.1)
  have hyo := hok _ (List.mem_of_getElem? y.2.1)
  have hxk : x.1.2.kind = kind := by have := x.2.2; simp [News.hand] at this; exact this.1.2
  have hyi := (News.ok_iff _).1 hyo
  have hxi := (News.ok_iff _).1 hxo
  have hr0 : 0 ≤ r0 := by
    rw [← hrt]; unfold rateOf; (repeat' split) <;> omega
  have hcs := contra_span r0 x.1.2 y.1.2 hxi.2.2.2.2.2.2.2.1 hyi.2.2.2.2.2.2.2.1 hr0
  have hph := pairs_hn r0 x y
  have k4 : W2.cell? ⟨b4, 0, none⟩ = some (.pointer (some ⟨bd, 0, none⟩)) := hw2.oldc c4 m4
  have n4 : b4 ∉ ([(b14, [.int .i64 y.1.2.post, .int .i64 y.1.2.kind, .int .i64 y.1.2.seen, .int .i64 y.1.2.came, .int .i64 y.1.2.lo, .int .i64 y.1.2.hi], some (102, 6, 1)), (b10, [.bool false], some (4, 1, 1)), (b9, [.int .i64 0], some (3, 1, 1)), (b8, [.int .i64 0], some (3, 1, 1))] : Hp).map Prod.fst := fun hm => hw2.oldoff hb4 m4 (by rw [List.map_append]; exact List.mem_append_left _ hm)
  have hbd2 : bd ∉ ([(b14, [.int .i64 y.1.2.post, .int .i64 y.1.2.kind, .int .i64 y.1.2.seen, .int .i64 y.1.2.came, .int .i64 y.1.2.lo, .int .i64 y.1.2.hi], some (102, 6, 1)), (b10, [.bool false], some (4, 1, 1)), (b9, [.int .i64 0], some (3, 1, 1)), (b8, [.int .i64 0], some (3, 1, 1))] : Hp).map Prod.fst := fun hm => hw2.oldoff hDW.2.2 hbdM (by rw [List.map_append]; exact List.mem_append_left _ hm)
  have hD2 : Desk W2 bd A n cp p t v := isNew.extM hDW hw2.ext hbdM
  have m1 := hw2.off (b := b.1) (by simp)
  have m2 := hw2.off (b := b.2) (by simp)
  clear c4 m4
  have c4 := k4
  have m4 := n4
  simp only [List.cons_append, List.nil_append] at hw2 m1 m2 ⊢
  have c1 : W2.cell? ⟨b.1, 0, none⟩ = some (.int .i64 (x.1.1 : Int)) := hw2.cellAt (by (repeat (first | exact P0 | apply P1))) rfl
  have d0 : W2.cell? ⟨b.2, 0, none⟩ = some (.int .i64 x.1.2.post) := hw2.cellAt (by (repeat (first | exact P0 | apply P1))) rfl
  have d1 : W2.cell? ⟨b.2, 1, none⟩ = some (.int .i64 x.1.2.kind) := hw2.cellAt (by (repeat (first | exact P0 | apply P1))) rfl
  have d2 : W2.cell? ⟨b.2, 2, none⟩ = some (.int .i64 x.1.2.seen) := hw2.cellAt (by (repeat (first | exact P0 | apply P1))) rfl
  have d3 : W2.cell? ⟨b.2, 3, none⟩ = some (.int .i64 x.1.2.came) := hw2.cellAt (by (repeat (first | exact P0 | apply P1))) rfl
  have d4 : W2.cell? ⟨b.2, 4, none⟩ = some (.int .i64 x.1.2.lo) := hw2.cellAt (by (repeat (first | exact P0 | apply P1))) rfl
  have d5 : W2.cell? ⟨b.2, 5, none⟩ = some (.int .i64 x.1.2.hi) := hw2.cellAt (by (repeat (first | exact P0 | apply P1))) rfl
  have HS : ∀ D w1, Has W2 ⟨([(b14, [.int .i64 y.1.2.post, .int .i64 y.1.2.kind, .int .i64 y.1.2.seen, .int .i64 y.1.2.came, .int .i64 y.1.2.lo, .int .i64 y.1.2.hi], some (102, 6, 1)), (b10, [.bool false], some (4, 1, 1)), (b9, [.int .i64 0], some (3, 1, 1)), (b8, [.int .i64 0], some (3, 1, 1))] : Hp).map Prod.fst, D⟩ [(b14, [.int .i64 y.1.2.post, .int .i64 y.1.2.kind, .int .i64 y.1.2.seen, .int .i64 y.1.2.came, .int .i64 y.1.2.lo, .int .i64 y.1.2.hi], some (102, 6, 1)), (b10, [.bool false], some (4, 1, 1)), (b9, [.int .i64 0], some (3, 1, 1)), (b8, [.int .i64 0], some (3, 1, 1))] w1 → SaysC bd x.1.2 y.1.2.seen r0 w1 :=
    fun D w1 h1 => says_m hD2 hxo (by omega) (by omega) p0 p1 t0 t1 v0 v1 (by rw [hxk]; exact hrt) h1.ext fun z hz e => hbd2 (List.mem_map.2 ⟨z, hz, e⟩)
  have hlt1 : x.1.1 < l.length := (List.getElem?_eq_some_iff.1 x.2.1).1
  have hlt2 : y.1.1 < l.length := (List.getElem?_eq_some_iff.1 y.2.1).1
  apply t_block
  repeat' (first | ((with_reducible apply oq_id); first | (apply oq_fn; exact rfl; first | exact trivial | (refine ⟨?_, ?_⟩ <;> omega) | (refine ⟨?_, ?_, ?_⟩ <;> omega) | omega | skip) | ((with_reducible apply oq_load); exact rfl; exact rfl) | ((with_reducible apply oq_loadAgg); exact rfl; exact rfl) | ((with_reducible apply oq_call (k := 123) (hc := Try.call123)); exact rfl; exact rfl; exact fun D w1 hw1 => HS _ w1 hw1) | ((with_reducible apply oq_call (k := 79) (hc := Try.call79)); exact rfl; exact rfl; exact fun D w1 hw1 => tog_own hw1 (by (repeat (first | exact P0 | apply P1))))) | ((with_reducible apply tl_id); first | ((with_reducible apply tl_nil)) | ((with_reducible apply u_q); exact rfl; exact rfl; exact rfl; exact rfl) | ((with_reducible apply u_s0); exact rfl; exact rfl) | ((with_reducible apply u_skip); exact rfl; exact rfl; exact rfl) | ((with_reducible apply u_splitD); exact rfl; exact rfl; all_goals first | (intro hp; try (exfalso; omega)) | skip)) | ((with_reducible apply gx_id); first | ((with_reducible apply v_nil)) | ((with_reducible apply v_q); exact rfl; exact rfl; exact rfl)) | ((with_reducible apply os_id); first | ((with_reducible apply os_store); exact rfl; exact rfl; exact rfl; exact rfl) | ((with_reducible apply os_storeAgg); exact rfl; exact rfl; exact rfl; exact rfl; exact rfl)) | ((with_reducible apply ox_id); first | ((with_reducible apply ox_alloc); exact rfl; intro _) | ((with_reducible apply ox_buildSlice2); exact rfl; exact rfl; exact rfl; exact rfl; exact rfl; exact rfl; intro _)) | ((with_reducible apply ai_id); first | ((with_reducible apply ai_q); exact rfl; exact rfl; exact rfl; exact rfl; exact rfl) | ((with_reducible apply ai_x); exact rfl; exact rfl; exact rfl; exact rfl; exact rfl) | ((with_reducible apply ai_n0); exact rfl; exact rfl; exact rfl)) | ((with_reducible apply al_keep); focus (repeat (first | exact HpSub.refl _ | (apply HpSub.cons; (repeat (first | exact P0 | apply P1))) | exact HpSub.nil))) | ((with_reducible apply rd_id); first | (apply Rd.own; (repeat (first | exact P0 | apply P1)); exact rfl; done) | (apply Rd.old; (first | (with_reducible assumption) | exact c0 | exact c1 | exact c2 | exact c3 | exact c4 | exact c5 | exact c6 | exact c7 | exact c8 | exact d0 | exact d1 | exact d2 | exact d3 | exact d4 | exact d5); first | exact List.not_mem_nil | exact m0 | exact m1 | exact m2 | exact m3 | exact m4 | exact m5 | exact m6 | exact m7 | exact m8 | exact m9)) | ((with_reducible apply t_id); first | ((with_reducible apply t_seq)) | (apply t_region; kernel_rfl) | ((with_reducible apply t_condF); exact rfl) | ((with_reducible apply t_condD); exact rfl; all_goals first | (intro hp; try (exfalso; omega)) | skip) | ((with_reducible apply t_ret)) | ((with_reducible apply t_skip))) | with_reducible apply q_thenN | with_reducible apply q_blockR | with_reducible apply q_blockN | exact P0 | ((with_reducible apply P1)) | exact Rdn.zero | apply Rdn.succ | ((with_reducible apply Norm.nil); exact rfl) | ((with_reducible apply Norm.cons); exact rfl) | (apply t_mix (id := 7) [0, 1, 2, 3, 4, 5, 6] 4 #[false, false, false, false, false, false, false, false, false, false, false]; kernel_rfl; kernel_rfl; exact rfl) | ((with_reducible apply al_id); first | (apply al_done; decide +kernel) | (apply al_one 7; decide +kernel) | (apply al_one 8; decide +kernel) | (apply al_one 9; decide +kernel) | (apply al_one 10; decide +kernel) | (apply al_two 7 9; decide +kernel) | (apply al_two 8 9; decide +kernel)) | exact Nat.le_of_ble_eq_true rfl)
  all_goals first
    | (refine ⟨(), fun z hz => ?_, ?_⟩
       · rcases List.mem_append.1 hz with h | h
         · exact hi2 z h
         · obtain rfl : z = y := by simpa using h
           rw [hph]
           first
             | (rw [decide_eq_false (by omega)]; rfl)
             | (rw [Bool.eq_false_iff.2 (fun h => hp (hcs.2 h))]; exact Bool.and_false _)
       · (repeat (first | exact HpSub.refl _ | (apply HpSub.consE; (repeat (first | exact P0 | apply P1)); exact rfl) | exact HpSub.nil)))
    | (refine ⟨(x.1.1, y.1.1), ⟨rfl, pre2, y, rfl, hi2, ?_, rfl⟩, ?_⟩
       · rw [hph, decide_eq_true (by omega), hcs.1 hp]; rfl
       · (repeat (first | exact HpSub.refl _ | (apply HpSub.consE; (repeat (first | exact P0 | apply P1)); exact rfl) | exact HpSub.nil)))


theorem conf_body {bd : Nat} {A : Option Addr} {n cp : Nat} {p t v : Int} {l : List News} {post kind now : Int} {w : World} (hr : RdS w 6 A n (l.map News.cells)) (hn : n ≤ 1000000)
    (hD : Desk w bd A n cp p t v) (hok : ∀ x ∈ l, x.ok = true) (p0 : 0 ≤ p) (p1 : p ≤ 100) (t0 : 0 ≤ t) (t1 : t ≤ 100) (v0 : 0 ≤ v) (v1 : v ≤ 100) {r0 : Int} (hrt : rateOf p t v kind = r0) (hAl : 0 < n → ∀ b o, A = some ⟨b, o, none⟩ → b < w.heap.size)
    {b0 b1 b2 b3 b4 b5 b6 b7 b8 b9 b10 l' : Nat} {pre : List (HN l post kind now)} {x : HN l post kind now} {b : Nat × Nat} {W : World} {D : List Nat} (hi : CPi r0 pre)
    (hw : Has w ⟨[], D⟩ (([(b.2, [.int .i64 x.1.2.post, .int .i64 x.1.2.kind, .int .i64 x.1.2.seen, .int .i64 x.1.2.came, .int .i64 x.1.2.lo, .int .i64 x.1.2.hi], some (102, 6, 1)), (b.1, [.int .i64 (x.1.1 : Int)], some (3, 1, 1))] ++ [(b10, [.bool false], some (4, 1, 1)), (b9, [.int .i64 0], some (3, 1, 1)), (b8, [.int .i64 0], some (3, 1, 1))] : Hp) ++ [(b3, [.int .i64 now], some (3, 1, 1)), (b2, [.int .i64 kind], some (3, 1, 1)), (b1, [.int .i64 post], some (3, 1, 1)), (b0, [.pointer (some ⟨bd, 0, none⟩)], some (115, 1, 1)), (b7, [.int .i64 now], some (3, 1, 1)), (b6, [.int .i64 kind], some (3, 1, 1)), (b5, [.int .i64 post], some (3, 1, 1)), (b4, [.pointer (some ⟨bd, 0, none⟩)], some (115, 1, 1))]) W)
    (hl' : ∃ r, W.heap[l']? = some (.loop r)) :
    T { cx w 51 with w0 := W, M := ([(b.2, [.int .i64 x.1.2.post, .int .i64 x.1.2.kind, .int .i64 x.1.2.seen, .int .i64 x.1.2.came, .int .i64 x.1.2.lo, .int .i64 x.1.2.hi], some (102, 6, 1)), (b.1, [.int .i64 (x.1.1 : Int)], some (3, 1, 1))] ++ [(b10, [.bool false], some (4, 1, 1)), (b9, [.int .i64 0], some (3, 1, 1)), (b8, [.int .i64 0], some (3, 1, 1))] : Hp).map Prod.fst } (WS.round Try.prog l' 3) code69
      (QB (fun _ : Unit => [(b10, [.bool false], some (4, 1, 1)), (b9, [.int .i64 0], some (3, 1, 1)), (b8, [.int .i64 0], some (3, 1, 1))]) (fun pre _ => CPi r0 pre) (fun i : Nat × Nat => [(b10, [.bool true], some (4, 1, 1)), (b9, [.int .i64 (i.2 : Int)], some (3, 1, 1)), (b8, [.int .i64 (i.1 : Int)], some (3, 1, 1))]) (CPl r0) (pre ++ [x]))
      [(12, .pointer (some ⟨b.2, 0, none⟩)), (11, .pointer (some ⟨b.1, 0, none⟩)), (4, .pointer (some ⟨b4, 0, none⟩)), (5, .pointer (some ⟨b5, 0, none⟩)), (6, .pointer (some ⟨b6, 0, none⟩)), (7, .pointer (some ⟨b7, 0, none⟩)), (8, .pointer (some ⟨b8, 0, none⟩)), (9, .pointer (some ⟨b9, 0, none⟩)), (10, .pointer (some ⟨b10, 0, none⟩))]
      ([(b.2, [.int .i64 x.1.2.post, .int .i64 x.1.2.kind, .int .i64 x.1.2.seen, .int .i64 x.1.2.came, .int .i64 x.1.2.lo, .int .i64 x.1.2.hi], some (102, 6, 1)), (b.1, [.int .i64 (x.1.1 : Int)], some (3, 1, 1))] ++ [(b10, [.bool false], some (4, 1, 1)), (b9, [.int .i64 0], some (3, 1, 1)), (b8, [.int .i64 0], some (3, 1, 1))]) := by
  have hx : Ext w W := hw.ext.ext
  have hown : ∀ z ∈ ([(b.2, [.int .i64 x.1.2.post, .int .i64 x.1.2.kind, .int .i64 x.1.2.seen, .int .i64 x.1.2.came, .int .i64 x.1.2.lo, .int .i64 x.1.2.hi], some (102, 6, 1)), (b.1, [.int .i64 (x.1.1 : Int)], some (3, 1, 1)), (b10, [.bool false], some (4, 1, 1)), (b9, [.int .i64 0], some (3, 1, 1)), (b8, [.int .i64 0], some (3, 1, 1))] : Hp).map Prod.fst, w.heap.size ≤ z := fun z hz => by
    obtain ⟨y, hy, rfl⟩ := List.mem_map.1 hz
    rcases (hw.blk y (List.mem_append_left _ hy)).1 with h1 | h1
    · exact h1
    · exact (List.not_mem_nil h1).elim
  have hlM : l' ∉ ([(b.2, [.int .i64 x.1.2.post, .int .i64 x.1.2.kind, .int .i64 x.1.2.seen, .int .i64 x.1.2.came, .int .i64 x.1.2.lo, .int .i64 x.1.2.hi], some (102, 6, 1)), (b.1, [.int .i64 (x.1.1 : Int)], some (3, 1, 1)), (b10, [.bool false], some (4, 1, 1)), (b9, [.int .i64 0], some (3, 1, 1)), (b8, [.int .i64 0], some (3, 1, 1))] : Hp).map Prod.fst := fun hm => hw.notloop hl' (by rw [List.map_append]; exact List.mem_append_left _ hm)
  have hbdM : bd ∉ ([(b.2, [.int .i64 x.1.2.post, .int .i64 x.1.2.kind, .int .i64 x.1.2.seen, .int .i64 x.1.2.came, .int .i64 x.1.2.lo, .int .i64 x.1.2.hi], some (102, 6, 1)), (b.1, [.int .i64 (x.1.1 : Int)], some (3, 1, 1)), (b10, [.bool false], some (4, 1, 1)), (b9, [.int .i64 0], some (3, 1, 1)), (b8, [.int .i64 0], some (3, 1, 1))] : Hp).map Prod.fst := fun hm => by have := hown bd hm; have := hD.2.2; omega
  have hAM : 0 < n → ∀ b' o, A = some ⟨b', o, none⟩ → b' ∉ ([(b.2, [.int .i64 x.1.2.post, .int .i64 x.1.2.kind, .int .i64 x.1.2.seen, .int .i64 x.1.2.came, .int .i64 x.1.2.lo, .int .i64 x.1.2.hi], some (102, 6, 1)), (b.1, [.int .i64 (x.1.1 : Int)], some (3, 1, 1)), (b10, [.bool false], some (4, 1, 1)), (b9, [.int .i64 0], some (3, 1, 1)), (b8, [.int .i64 0], some (3, 1, 1))] : Hp).map Prod.fst := fun h0 b' o h hm => by have := hown b' hm; have := hAl h0 b' o h; omega
  have hDW : Desk W bd A n cp p t v := hD.ext hx
  have m4 := hw.off (b := b4) (by simp)
  have m5 := hw.off (b := b5) (by simp)
  have m6 := hw.off (b := b6) (by simp)
  have m7 := hw.off (b := b7) (by simp)
  simp only [List.cons_append, List.nil_append] at hw m4 m5 m6 m7 ⊢
  have c4 : W.cell? ⟨b4, 0, none⟩ = some (.pointer (some ⟨bd, 0, none⟩)) := hw.cellAt (by (repeat (first | exact P0 | apply P1))) rfl
  have c5 : W.cell? ⟨b5, 0, none⟩ = some (.int .i64 post) := hw.cellAt (by (repeat (first | exact P0 | apply P1))) rfl
  have c6 : W.cell? ⟨b6, 0, none⟩ = some (.int .i64 kind) := hw.cellAt (by (repeat (first | exact P0 | apply P1))) rfl
  have c7 : W.cell? ⟨b7, 0, none⟩ = some (.int .i64 now) := hw.cellAt (by (repeat (first | exact P0 | apply P1))) rfl
  have hb4 : b4 < W.heap.size := cell_lt c4
  apply t_block
  repeat' (first | ((with_reducible apply oq_id); first | ((with_reducible apply oq_load); exact rfl; exact rfl)) | ((with_reducible apply tl_id); first | ((with_reducible apply tl_nil)) | ((with_reducible apply u_s); exact rfl; exact rfl; exact rfl; (with_reducible apply os_callF (PV := HandV bd post kind now) (k := 122) (hc := Try.call122)); exact rfl; exact rfl; exact fun D w1 hw1 => hand_T _ _ _ _ w1; rintro v H' ⟨q0, q1, q2, q3, rfl, rfl⟩) | ((with_reducible apply u_q); exact rfl; exact rfl; exact rfl; exact rfl)) | ((with_reducible apply rd_id); first | (apply Rd.old; (first | (with_reducible assumption) | exact c0 | exact c1 | exact c2 | exact c3 | exact c4 | exact c5 | exact c6 | exact c7 | exact c8 | exact d0 | exact d1 | exact d2 | exact d3 | exact d4 | exact d5); first | exact List.not_mem_nil | exact m0 | exact m1 | exact m2 | exact m3 | exact m4 | exact m5 | exact m6 | exact m7 | exact m8 | exact m9)) | ((with_reducible apply t_id); first | ((with_reducible apply t_seq)) | (apply t_region; kernel_rfl) | ((with_reducible apply t_block))) | with_reducible apply q_thenN)
  refine t_rangeN (m := 1) (N := l.length) (l₀ := l') (α := HN l post kind now) (β := Nat) (ι := Unit) (κ := Nat × Nat) (S := fun ys => ys = hns l post kind now l.length) (Sp := fun pre => pre <+: hns l post kind now l.length)
    (encs := fun y => [.int .i64 (y.1.1 : Int), .agg ⟨[.int .i64 y.1.2.post, .int .i64 y.1.2.kind, .int .i64 y.1.2.seen, .int .i64 y.1.2.came, .int .i64 y.1.2.lo, .int .i64 y.1.2.hi]⟩])
    (hk := [(q3, [.int .i64 now], some (3, 1, 1)), (q2, [.int .i64 kind], some (3, 1, 1)), (q1, [.int .i64 post], some (3, 1, 1)), (q0, [.pointer (some ⟨bd, 0, none⟩)], some (115, 1, 1)), (b.2, [.int .i64 x.1.2.post, .int .i64 x.1.2.kind, .int .i64 x.1.2.seen, .int .i64 x.1.2.came, .int .i64 x.1.2.lo, .int .i64 x.1.2.hi], some (102, 6, 1)), (b.1, [.int .i64 (x.1.1 : Int)], some (3, 1, 1))])
    (fun _ => [(b10, [.bool false], some (4, 1, 1)), (b9, [.int .i64 0], some (3, 1, 1)), (b8, [.int .i64 0], some (3, 1, 1))]) (fun pre _ => CPi2 r0 x pre)
    (fun y b14 => [(b14, [.int .i64 y.1.2.post, .int .i64 y.1.2.kind, .int .i64 y.1.2.seen, .int .i64 y.1.2.came, .int .i64 y.1.2.lo, .int .i64 y.1.2.hi], some (102, 6, 1))])
    (fun y b14 => [(14, .pointer (some ⟨b14, 0, none⟩)), (13, .int .i64 (y.1.1 : Int)), (12, .pointer (some ⟨b.2, 0, none⟩)), (11, .pointer (some ⟨b.1, 0, none⟩)), (4, .pointer (some ⟨b4, 0, none⟩)), (8, .pointer (some ⟨b8, 0, none⟩)), (9, .pointer (some ⟨b9, 0, none⟩)), (10, .pointer (some ⟨b10, 0, none⟩))])
    (fun i => [(b10, [.bool true], some (4, 1, 1)), (b9, [.int .i64 (i.2 : Int)], some (3, 1, 1)), (b8, [.int .i64 (i.1 : Int)], some (3, 1, 1))]) (CPl2 r0 x) () hl' hlM rfl Try.call143 ?seq (fun y hy => (List.not_mem_nil hy).elim) ?sub ?ok ?done ?stop
  case sub =>
    simp only [List.cons_append, List.nil_append]
    (repeat (first | exact HpSub.refl _ | (apply HpSub.consE; (repeat (first | exact P0 | apply P1)); exact rfl) | exact HpSub.nil))
  case seq =>
    intro D w1 hw1
    have he := hw1.ext
    simp only [List.cons_append, List.nil_append] at hw1
    refine hand_stops Fence.wide 2 trivial rfl (by omega) q0 q1 q2 q3 bd A n cp l post kind now hn _ (.inr (by simp)) (.inr (by simp)) (.inr (by simp)) (.inr (by simp)) (.inl ⟨hDW.2.2, hbdM⟩) (fun h0 b' o h => .inl ⟨Nat.lt_of_lt_of_le (hAl h0 b' o h) hx.size, hAM h0 b' o h⟩) w1 ⟨(hr.ext hx).extM he hAM, ?_, ?_, ?_, ?_, (isNew.extM hDW he hbdM).1 0⟩
    · exact hw1.cellAt (by (repeat (first | exact P0 | apply P1))) rfl
    · exact hw1.cellAt (by (repeat (first | exact P0 | apply P1))) rfl
    · exact hw1.cellAt (by (repeat (first | exact P0 | apply P1))) rfl
    · exact hw1.cellAt (by (repeat (first | exact P0 | apply P1))) rfl
  case ok =>
    refine ⟨fun _ => rfl, rfl, fun y W2 => ?_, fun y b14 i k W2 D2 hb hw2 hns z hz z' hz' => ?_, fun l2 pre2 y i b14 W2 D2 hi2 hw2 hlt2 hl2 => ?_⟩
    · refine sl0_seq (sl0_region (by kernel_rfl) ?_)
      repeat' (first | ((with_reducible apply oq_id); first | (apply oq_fn; exact rfl; first | exact trivial | (refine ⟨?_, ?_⟩ <;> omega) | (refine ⟨?_, ?_, ?_⟩ <;> omega) | omega | skip)) | ((with_reducible apply tl_id); first | ((with_reducible apply tl_nil)) | ((with_reducible apply u_q); exact rfl; exact rfl; exact rfl; exact rfl)))
      refine sl0_region (by kernel_rfl) ?_
      repeat' (first | ((with_reducible apply tl_id); first | ((with_reducible apply tl_nil)) | ((with_reducible apply u_s0); exact rfl; exact rfl) | ((with_reducible apply u_s); exact rfl; exact rfl; exact rfl)) | ((with_reducible apply os_id); first | ((with_reducible apply os_x); exact rfl) | ((with_reducible apply os_storeAgg); exact rfl; exact rfl; exact rfl; exact rfl; exact rfl)) | ((with_reducible apply ox_id); first | ((with_reducible apply ox_alloc); exact rfl; intro _)) | exact P0 | ((with_reducible apply Norm.nil); exact rfl) | ((with_reducible apply Norm.cons); exact rfl) | exact Nat.le_of_ble_eq_true rfl)
      rename_i by_
      refine ⟨by_, ?_, ?_⟩
      · (repeat (first | exact FrSub.nil | (apply FrSub.cons; exact rfl)))
      · (repeat (first | exact HpSub.refl _ | (apply HpSub.consE; (repeat (first | exact P0 | apply P1)); exact rfl) | exact HpSub.nil))
    · have h1 : z'.1 < k := hns z'.1 (by
        simp only [List.cons_append, List.nil_append, List.map_cons, List.map_nil, List.mem_cons, List.not_mem_nil, or_false] at hz' ⊢
        rcases hz' with rfl | rfl | rfl | rfl | rfl | rfl | rfl | rfl | rfl <;> simp)
      have h2 := (hb.blk z hz).1
      omega
    · exact conf_inner hD hok p0 p1 t0 t1 v0 v1 hrt hx hbdM hDW c4 hb4 m4 hi2 hw2
  case done =>
    rintro xs i rfl hi2
    apply q_blockN
    apply q_blockN
    refine ⟨(), fun z hz y => ?_, ?_⟩
    · rcases List.mem_append.1 hz with h | h
      · exact hi z h y
      · obtain rfl : z = x := by simpa using h
        exact hi2 y (hns_mem y)
    · simp only [List.cons_append, List.nil_append]
      (repeat (first | exact HpSub.refl _ | (apply HpSub.consE; (repeat (first | exact P0 | apply P1)); exact rfl) | exact HpSub.nil))
  case stop =>
    rintro k pre' j hp ⟨rfl, pre2, y, h1, h2, h3, rfl⟩
    apply t_ret
    apply q_blockR
    apply q_blockR
    refine ⟨(x.1.1, y.1.1), ⟨rfl, pre, x, pre2, y, rfl, hi, h1 ▸ hp, h2, h3, rfl⟩, ?_⟩
    simp only [List.cons_append, List.nil_append]
    (repeat (first | exact HpSub.refl _ | (apply HpSub.consE; (repeat (first | exact P0 | apply P1)); exact rfl) | exact HpSub.nil))


/-- What conflict returns. -/
def confV : Option (Nat × Nat) → Value
  | some (i, k) => .tuple #[.int .i64 (i : Int), .int .i64 (k : Int), .bool true]
  | none => .tuple #[.int .i64 0, .int .i64 0, .bool false]
theorem conflict_T (bd : Nat) (A : Option Addr) (n cp : Nat) (p t v : Int) (l : List News) (post kind now : Int) (w : World) (hr : RdS w 6 A n (l.map News.cells)) (hn : n ≤ 1000000)
    (hD : Desk w bd A n cp p t v) (hok : ∀ x ∈ l, x.ok = true) (p0 : 0 ≤ p) (p1 : p ≤ 100) (t0 : 0 ≤ t) (t1 : t ≤ 100) (v0 : 0 ≤ v) (v1 : v ≤ 100) (r0 : Int) (hrt : rateOf p t v kind = r0) :
    Calls Try.prog 69 #[.pointer (some ⟨bd, 0, none⟩), .int .i64 post, .int .i64 kind, .int .i64 now] w fun e w' => e = .returned (confV (conflictF r0 l post kind now)) ∧ Ext w w' := by
  have hlen := hr.len
  simp at hlen
  have hAl : 0 < n → ∀ b o, A = some ⟨b, o, none⟩ → b < w.heap.size := fun h0 b o h => by
    obtain ⟨b', o', h1, h2, _⟩ := hr.at_ h0
    rw [h] at h1; cases h1; exact h2
  refine enterQ (c := cx w 51) Try.func69 rfl rfl rfl rfl ?_
  repeat' (first | ((with_reducible apply oq_id); first | ((with_reducible apply oq_load); exact rfl; exact rfl)) | ((with_reducible apply tl_id); first | ((with_reducible apply tl_nil)) | ((with_reducible apply u_s); exact rfl; exact rfl; exact rfl; (with_reducible apply os_callF (PV := HandV bd post kind now) (k := 122) (hc := Try.call122)); exact rfl; exact rfl; exact fun D w1 hw1 => hand_T _ _ _ _ w1; rintro v H' ⟨b0, b1, b2, b3, rfl, rfl⟩) | ((with_reducible apply u_q); exact rfl; exact rfl; exact rfl; exact rfl) | ((with_reducible apply u_s); exact rfl; exact rfl; exact rfl)) | ((with_reducible apply os_id); first | ((with_reducible apply os_x); exact rfl)) | ((with_reducible apply ox_id); first | ((with_reducible apply ox_alloc); exact rfl; intro _) | ((with_reducible apply ox_box); exact rfl; exact rfl; intro _)) | ((with_reducible apply rd_id); first | (apply Rd.own; (repeat (first | exact P0 | apply P1)); exact rfl; done)) | ((with_reducible apply t_id); first | ((with_reducible apply t_seq)) | (apply t_region; kernel_rfl) | ((with_reducible apply t_block))) | with_reducible apply q_thenN)
  rename_i b4 b5 b6 b7 b8 b9 b10
  refine t_range (m := 3) (N := l.length) (α := HN l post kind now) (β := Nat × Nat) (ι := Unit) (κ := Nat × Nat) (S := fun ys => ys = hns l post kind now l.length) (Sp := fun pre => pre <+: hns l post kind now l.length)
    (encs := fun x => [.int .i64 (x.1.1 : Int), .agg ⟨[.int .i64 x.1.2.post, .int .i64 x.1.2.kind, .int .i64 x.1.2.seen, .int .i64 x.1.2.came, .int .i64 x.1.2.lo, .int .i64 x.1.2.hi]⟩])
    (hk := [(b3, [.int .i64 now], some (3, 1, 1)), (b2, [.int .i64 kind], some (3, 1, 1)), (b1, [.int .i64 post], some (3, 1, 1)), (b0, [.pointer (some ⟨bd, 0, none⟩)], some (115, 1, 1)), (b7, [.int .i64 now], some (3, 1, 1)), (b6, [.int .i64 kind], some (3, 1, 1)), (b5, [.int .i64 post], some (3, 1, 1)), (b4, [.pointer (some ⟨bd, 0, none⟩)], some (115, 1, 1))])
    (fun _ => [(b10, [.bool false], some (4, 1, 1)), (b9, [.int .i64 0], some (3, 1, 1)), (b8, [.int .i64 0], some (3, 1, 1))]) (fun pre _ => CPi r0 pre)
    (fun x b => [(b.2, [.int .i64 x.1.2.post, .int .i64 x.1.2.kind, .int .i64 x.1.2.seen, .int .i64 x.1.2.came, .int .i64 x.1.2.lo, .int .i64 x.1.2.hi], some (102, 6, 1)), (b.1, [.int .i64 (x.1.1 : Int)], some (3, 1, 1))])
    (fun x b => [(12, .pointer (some ⟨b.2, 0, none⟩)), (11, .pointer (some ⟨b.1, 0, none⟩)), (4, .pointer (some ⟨b4, 0, none⟩)), (5, .pointer (some ⟨b5, 0, none⟩)), (6, .pointer (some ⟨b6, 0, none⟩)), (7, .pointer (some ⟨b7, 0, none⟩)), (8, .pointer (some ⟨b8, 0, none⟩)), (9, .pointer (some ⟨b9, 0, none⟩)), (10, .pointer (some ⟨b10, 0, none⟩))])
    (fun i => [(b10, [.bool true], some (4, 1, 1)), (b9, [.int .i64 (i.2 : Int)], some (3, 1, 1)), (b8, [.int .i64 (i.1 : Int)], some (3, 1, 1))]) (CPl r0) () rfl Try.call143 ?seq (fun x hx => (List.not_mem_nil hx).elim) ?sub ?ok ?done ?stop
  case sub =>
    simp only [List.cons_append, List.nil_append]
    (repeat (first | exact HpSub.refl _ | (apply HpSub.consE; (repeat (first | exact P0 | apply P1)); exact rfl) | exact HpSub.nil))
  case seq =>
    intro D w1 hw1
    have hx : Ext w w1 := hw1.ext.ext
    simp only [List.cons_append, List.nil_append] at hw1
    refine hand_stops Fence.wide 4 trivial rfl (by omega) b0 b1 b2 b3 bd A n cp l post kind now hn _ (.inr (by simp)) (.inr (by simp)) (.inr (by simp)) (.inr (by simp)) (.inl ⟨hD.2.2, List.not_mem_nil⟩) (fun h0 b o h => .inl ⟨hAl h0 b o h, List.not_mem_nil⟩) w1 ⟨hr.ext hx, ?_, ?_, ?_, ?_, hx.cell (hD.1 0)⟩
    · exact hw1.cellAt (by (repeat (first | exact P0 | apply P1))) rfl
    · exact hw1.cellAt (by (repeat (first | exact P0 | apply P1))) rfl
    · exact hw1.cellAt (by (repeat (first | exact P0 | apply P1))) rfl
    · exact hw1.cellAt (by (repeat (first | exact P0 | apply P1))) rfl
  case ok =>
    refine ⟨fun _ => rfl, rfl, fun x W => ?_, fun x b i k W D hb hw hns y hy z hz => ?_, fun l' pre x i b W D hi hw hlt hl' => ?_⟩
    · refine sl0_seq (sl0_region (by kernel_rfl) ?_)
      repeat' (first | ((with_reducible apply tl_id); first | ((with_reducible apply tl_nil)) | ((with_reducible apply u_s0); exact rfl; exact rfl) | ((with_reducible apply u_s); exact rfl; exact rfl; exact rfl)) | ((with_reducible apply os_id); first | ((with_reducible apply os_x); exact rfl) | ((with_reducible apply os_store); exact rfl; exact rfl; exact rfl; exact rfl)) | ((with_reducible apply ox_id); first | ((with_reducible apply ox_alloc); exact rfl; intro _)) | exact P0 | ((with_reducible apply Norm.nil); exact rfl) | ((with_reducible apply Norm.cons); exact rfl) | exact Nat.le_of_ble_eq_true rfl)
      refine sl0_region (by kernel_rfl) ?_
      repeat' (first | ((with_reducible apply tl_id); first | ((with_reducible apply tl_nil)) | ((with_reducible apply u_s0); exact rfl; exact rfl) | ((with_reducible apply u_s); exact rfl; exact rfl; exact rfl)) | ((with_reducible apply os_id); first | ((with_reducible apply os_x); exact rfl) | ((with_reducible apply os_storeAgg); exact rfl; exact rfl; exact rfl; exact rfl; exact rfl)) | ((with_reducible apply ox_id); first | ((with_reducible apply ox_alloc); exact rfl; intro _)) | exact P0 | ((with_reducible apply Norm.nil); exact rfl) | ((with_reducible apply Norm.cons); exact rfl) | exact Nat.le_of_ble_eq_true rfl)
      rename_i bi bx
      refine ⟨(bi, bx), ?_, ?_⟩
      · (repeat (first | exact FrSub.nil | (apply FrSub.cons; exact rfl)))
      · (repeat (first | exact HpSub.refl _ | (apply HpSub.consE; (repeat (first | exact P0 | apply P1)); exact rfl) | exact HpSub.nil))
    · have h1 : z.1 < k := hns z.1 (by
        simp only [List.cons_append, List.nil_append, List.map_cons, List.map_nil, List.mem_cons, List.not_mem_nil, or_false] at hz ⊢
        have := congrArg Prod.fst (Eq.refl z)
        rcases hz with rfl | rfl | rfl | rfl | rfl | rfl | rfl | rfl | rfl | rfl | rfl <;> simp)
      have h2 := (hb.blk y hy).1
      omega
    · exact conf_body hr hn hD hok p0 p1 t0 t1 v0 v1 hrt hAl hi hw hl'
  case done =>
    rintro xs i rfl hi
    have hnone : conflictF r0 l post kind now = none := conflictF_none _ _ _ _ _ fun j m _ _ => pairs_no fun x y _ _ => hi x (hns_mem x) y
    simp only [List.cons_append, List.nil_append]
    repeat' (first | ((with_reducible apply tl_id); first | ((with_reducible apply tl_nil)) | ((with_reducible apply u_s0); exact rfl; exact rfl)) | ((with_reducible apply os_id); first | ((with_reducible apply os_store); exact rfl; exact rfl; exact rfl; exact rfl)) | ((with_reducible apply rd_id); first | (apply Rd.own; (repeat (first | exact P0 | apply P1)); exact rfl; done)) | ((with_reducible apply t_id); first | ((with_reducible apply t_seq)) | (apply t_region; kernel_rfl) | ((with_reducible apply t_ret))) | with_reducible apply q_thenN | with_reducible apply q_blockN | exact P0 | ((with_reducible apply P1)) | ((with_reducible apply Norm.nil); exact rfl) | ((with_reducible apply Norm.cons); exact rfl) | ((with_reducible apply end_ret)) | exact rvs_nil | ((with_reducible apply rvs_cons)) | ((with_reducible apply rv_cell); exact rfl; exact rfl) | exact Nat.le_of_ble_eq_true rfl)
    rw [hnone]; rfl
  case stop =>
    rintro k pre j hp ⟨rfl, pre0, x, pre2, y, h1, h2, h3, h4, h5, rfl⟩
    subst h1
    have hsome : conflictF r0 l post kind now = some (x.1.1, y.1.1) := by
      refine conflictF_some _ _ _ _ _ _ _ h5 (fun j m hj _ => pairs_no fun z y' e1 e2 => ?_) (fun m hm => pairs_no fun z y' e1 e2 => ?_)
      · exact h2 z (hns_before hp (by omega)) y'
      · have hy' := h4 y' (hns_before h3 (by omega))
        rw [e1]; exact hy'
    simp only [List.cons_append, List.nil_append]
    repeat' (first | ((with_reducible apply rd_id); first | (apply Rd.own; (repeat (first | exact P0 | apply P1)); exact rfl; done)) | ((with_reducible apply t_id); first | ((with_reducible apply t_ret))) | with_reducible apply q_thenR | with_reducible apply q_blockR | ((with_reducible apply end_ret)) | exact rvs_nil | ((with_reducible apply rvs_cons)) | ((with_reducible apply rv_cell); exact rfl; exact rfl))
    rw [hsome]; rfl

end Go.Proofs.Ytalidommelefaaa
/- What a desk knows. -/
namespace Go.Proofs.Ytalidommelefaaa
open Go.RowKit Go.Shelf
attribute [local irreducible] OQ OS OX Rd T TL GX GL AL AI RV wpG SAny
set_option maxRecDepth 100000
set_option maxHeartbeats 2000000
set_option linter.unusedVariables false
set_option linter.unusedSimpArgs false


theorem hns_filter (l : List News) (post kind now : Int) : (hns l post kind now l.length).map (fun x => x.1.2) = l.filter (News.hand post kind now) := by
  have key : ∀ k, k ≤ l.length → (hns l post kind now k).map (fun x => x.1.2) = (l.take k).filter (News.hand post kind now) := by
    intro k
    induction k with
    | zero => intro _; rfl
    | succ k ih =>
      intro hk
      have hx : l[k]? = some l[k] := List.getElem?_eq_getElem (by omega)
      rw [List.take_succ_eq_append_getElem (by omega), List.filter_append, ← ih (by omega)]
      cases hh : (l[k]).hand post kind now with
      | true => rw [hns_yes hx hh]; simp [hh]
      | false => rw [hns_no hx hh]; simp [hh]
  have := key l.length (Nat.le_refl _)
  rw [this, List.take_length]
theorem join_meet (r0 at_ : Int) (hs : List News) (s : Int × Int) (h : (hs.map fun x => (sayLo r0 at_ x, sayHi r0 at_ x))[0]? = some s) (hb : ∀ x ∈ hs, -1099511627776 ≤ sayLo r0 at_ x ∧ sayHi r0 at_ x ≤ 1099511627776) :
    joinAll s (hs.map fun x => (sayLo r0 at_ x, sayHi r0 at_ x)) = (meetLo r0 at_ hs, meetHi r0 at_ hs) := by
  cases hs with
  | nil => simp at h
  | cons x hs =>
    obtain rfl : (sayLo r0 at_ x, sayHi r0 at_ x) = s := by simpa using h
    have hx := hb x (List.mem_cons_self ..)
    have key : ∀ (hs : List News) (a b : Int), (hs.map fun x => (sayLo r0 at_ x, sayHi r0 at_ x)).foldl joinS (a, b) = (hs.foldl (fun m x => max m (sayLo r0 at_ x)) a, hs.foldl (fun m x => min m (sayHi r0 at_ x)) b) := by
      intro hs
      induction hs with
      | nil => intro a b; rfl
      | cons y hs ih => intro a b; simp only [List.map_cons, List.foldl_cons, joinS]; exact ih _ _
    unfold joinAll meetLo meetHi
    rw [List.map_cons, List.foldl_cons, List.foldl_cons, List.foldl_cons]
    simp only [joinS]
    rw [key]
    rw [show max (sayLo r0 at_ x) (sayLo r0 at_ x) = max (-1099511627776) (sayLo r0 at_ x) by omega, show min (sayHi r0 at_ x) (sayHi r0 at_ x) = min 1099511627776 (sayHi r0 at_ x) by omega]
theorem tog_rows {w0 : World} {M : Ms} {H H' : Hp} {w : World} {g n cap : Nat} {ls : List (Int × Int)} {s : Int × Int} {tg : Tg} (hn : ls.length = n) (hb : n ≤ 1000000) (hs : ls[0]? = some s) (h : Has w0 M H w) (p : Pick H g (ls.map spanCells).flatten tg H') :
    Calls Try.prog 79 #[.slice (some ⟨g, 0, none⟩) n cap] w fun e w' => e = .returned (.agg #[.int .i64 (joinAll s ls).1, .int .i64 (joinAll s ls).2]) ∧ Ext w w' :=
  together_calls (some ⟨g, 0, none⟩) n cap s ls w (Blk.rows (h.blk _ p.mem).2 (by simpa using hn) (by simp only [List.mem_map]; rintro r ⟨x, _, rfl⟩; rfl)) hb hs


theorem known_T (bd : Nat) (A : Option Addr) (n cp : Nat) (p t v : Int) (l : List News) (post kind at_ now : Int) (w : World) (hr : RdS w 6 A n (l.map News.cells)) (hn : n ≤ 1000000)
    (hD : Desk w bd A n cp p t v) (hok : ∀ x ∈ l, x.ok = true) (ha : 0 ≤ at_) (ha1 : at_ ≤ 1000000) (p0 : 0 ≤ p) (p1 : p ≤ 100) (t0 : 0 ≤ t) (t1 : t ≤ 100) (v0 : 0 ≤ v) (v1 : v ≤ 100) (r0 : Int) (hrt : rateOf p t v kind = r0) :
    Calls Try.prog 63 #[.pointer (some ⟨bd, 0, none⟩), .int .i64 post, .int .i64 kind, .int .i64 at_, .int .i64 now] w fun e w' =>
      e = .returned (.tuple #[.agg #[.int .i64 (knownF r0 l post kind at_ now).1, .int .i64 (knownF r0 l post kind at_ now).2.1], .int .i64 (knownF r0 l post kind at_ now).2.2]) ∧ Ext w w' := by
  have hlen := hr.len
  simp at hlen
  have hAl : 0 < n → ∀ b o, A = some ⟨b, o, none⟩ → b < w.heap.size := fun h0 b o h => by
    obtain ⟨b', o', h1, h2, _⟩ := hr.at_ h0
    rw [h] at h1; cases h1; exact h2
  refine enterQ (c := cx w 49) Try.func63 rfl rfl rfl rfl ?_
  repeat' (first | ((with_reducible apply oq_id); first | (apply oq_fn; exact rfl; first | exact trivial | (refine ⟨?_, ?_⟩ <;> omega) | (refine ⟨?_, ?_, ?_⟩ <;> omega) | omega | skip) | ((with_reducible apply oq_load); exact rfl; exact rfl)) | ((with_reducible apply tl_id); first | ((with_reducible apply tl_nil)) | ((with_reducible apply u_s); exact rfl; exact rfl; exact rfl; (with_reducible apply os_callF (PV := HandV bd post kind now) (k := 122) (hc := Try.call122)); exact rfl; exact rfl; exact fun D w1 hw1 => hand_T _ _ _ _ w1; rintro v H' ⟨b0, b1, b2, b3, rfl, rfl⟩) | ((with_reducible apply u_q); exact rfl; exact rfl; exact rfl; exact rfl) | ((with_reducible apply u_s); exact rfl; exact rfl; exact rfl)) | ((with_reducible apply os_id); first | ((with_reducible apply os_x); exact rfl)) | ((with_reducible apply ox_id); first | ((with_reducible apply ox_alloc); exact rfl; intro _) | ((with_reducible apply ox_box); exact rfl; exact rfl; intro _)) | ((with_reducible apply rd_id); first | (apply Rd.own; (repeat (first | exact P0 | apply P1)); exact rfl; done)) | ((with_reducible apply t_id); first | ((with_reducible apply t_seq)) | (apply t_region; kernel_rfl) | ((with_reducible apply t_block))) | with_reducible apply q_thenN)
  rename_i b5 b8 b10 b12
  refine t_range (m := 1) (N := l.length) (α := HN l post kind now) (β := Nat) (κ := Nat) (S := fun ys => ys = hns l post kind now l.length) (Sp := fun pre => pre <+: hns l post kind now l.length)
    (encs := fun x => [.int .i64 (x.1.1 : Int), .agg ⟨[.int .i64 x.1.2.post, .int .i64 x.1.2.kind, .int .i64 x.1.2.seen, .int .i64 x.1.2.came, .int .i64 x.1.2.lo, .int .i64 x.1.2.hi]⟩])
    (hk := [(b3, [.int .i64 now], some (3, 1, 1)), (b2, [.int .i64 kind], some (3, 1, 1)), (b1, [.int .i64 post], some (3, 1, 1)), (b0, [.pointer (some ⟨bd, 0, none⟩)], some (115, 1, 1)), (b10, [.int .i64 0, .int .i64 0], some (26, 2, 1)), (b8, [.int .i64 at_], some (3, 1, 1)), (b5, [.pointer (some ⟨bd, 0, none⟩)], some (115, 1, 1))])
    (KHp b12) (fun pre i => KPi r0 at_ pre i) (fun x b => [(b, [.int .i64 x.1.2.post, .int .i64 x.1.2.kind, .int .i64 x.1.2.seen, .int .i64 x.1.2.came, .int .i64 x.1.2.lo, .int .i64 x.1.2.hi], some (102, 6, 1))])
    (fun x b => [(14, .pointer (some ⟨b, 0, none⟩)), (5, .pointer (some ⟨b5, 0, none⟩)), (8, .pointer (some ⟨b8, 0, none⟩)), (12, .pointer (some ⟨b12, 0, none⟩))]) (fun _ => []) (fun _ _ _ => False) none rfl Try.call143 ?seq rfl ?sub ?ok ?done (fun _ _ _ _ h => h.elim)
  case sub =>
    simp only [KHp, List.cons_append, List.nil_append]
    (repeat (first | exact HpSub.refl _ | (apply HpSub.consE; (repeat (first | exact P0 | apply P1)); exact rfl) | exact HpSub.nil))
  case seq =>
    intro D w1 hw1
    have hx : Ext w w1 := hw1.ext.ext
    simp only [List.cons_append, List.nil_append] at hw1
    refine hand_stops Fence.wide 2 trivial rfl (by omega) b0 b1 b2 b3 bd A n cp l post kind now hn _ (.inr (by simp)) (.inr (by simp)) (.inr (by simp)) (.inr (by simp)) (.inl ⟨hD.2.2, List.not_mem_nil⟩) (fun h0 b o h => .inl ⟨hAl h0 b o h, List.not_mem_nil⟩) w1 ⟨hr.ext hx, ?_, ?_, ?_, ?_, hx.cell (hD.1 0)⟩
    · exact hw1.cellAt (by (repeat (first | exact P0 | apply P1))) rfl
    · exact hw1.cellAt (by (repeat (first | exact P0 | apply P1))) rfl
    · exact hw1.cellAt (by (repeat (first | exact P0 | apply P1))) rfl
    · exact hw1.cellAt (by (repeat (first | exact P0 | apply P1))) rfl
  case ok =>
    refine ⟨fun _ => rfl, rfl, fun x W => ?_, fun x b i k W D hb hw _ y hy z hz => ?_, fun l' pre x i b W D hi hw hlt hl' => ?_⟩
    · refine sl0_region (by kernel_rfl) ?_
      repeat' (first | ((with_reducible apply tl_id); first | ((with_reducible apply tl_nil)) | ((with_reducible apply u_s0); exact rfl; exact rfl) | ((with_reducible apply u_s); exact rfl; exact rfl; exact rfl)) | ((with_reducible apply os_id); first | ((with_reducible apply os_x); exact rfl) | ((with_reducible apply os_storeAgg); exact rfl; exact rfl; exact rfl; exact rfl; exact rfl)) | ((with_reducible apply ox_id); first | ((with_reducible apply ox_alloc); exact rfl; intro _)) | exact P0 | ((with_reducible apply Norm.nil); exact rfl) | ((with_reducible apply Norm.cons); exact rfl) | exact Nat.le_of_ble_eq_true rfl)
      rename_i bx
      refine ⟨bx, ?_, ?_⟩
      · (repeat (first | exact FrSub.nil | (apply FrSub.cons; exact rfl)))
      · (repeat (first | exact HpSub.refl _ | (apply HpSub.consE; (repeat (first | exact P0 | apply P1)); exact rfl) | exact HpSub.nil))
    · obtain rfl : y = _ := by simpa using hy
      have h1 := (hb.blk _ hy).2
      have h2 := (hw.blk z hz).2
      rcases i with _ | ⟨g, cap, ls⟩ <;> simp only [KHp, List.cons_append, List.nil_append, List.mem_cons, List.not_mem_nil, or_false] at hz
      all_goals (repeat' (first | (rcases hz with rfl | hz))) <;> exact Blk.ne (h1 : Blk W _ _ (some (102, 6, 1))) (h2 : Blk W _ _ (some (_, _, _))) (by decide)
    · have hx : Ext w W := hw.ext.ext
      have hDW : Desk W bd A n cp p t v := hD.ext hx
      have hbd : bd < w.heap.size := hD.2.2
      have hxok : x.1.2.ok = true := hok _ (List.mem_of_getElem? x.2.1)
      have hxk : x.1.2.kind = kind := by have := x.2.2; simp [News.hand] at this; exact this.1.2
      have hown : ∀ y ∈ ([(b, [.int .i64 x.1.2.post, .int .i64 x.1.2.kind, .int .i64 x.1.2.seen, .int .i64 x.1.2.came, .int .i64 x.1.2.lo, .int .i64 x.1.2.hi], some (102, 6, 1))] ++ KHp b12 i : Hp), w.heap.size ≤ y.1 := fun y hy => by
        rcases (hw.blk y (List.mem_append_left _ hy)).1 with h1 | h1
        · exact h1
        · exact (List.not_mem_nil h1).elim
      have HS : ∀ D w1, Has W ⟨(([(b, [.int .i64 x.1.2.post, .int .i64 x.1.2.kind, .int .i64 x.1.2.seen, .int .i64 x.1.2.came, .int .i64 x.1.2.lo, .int .i64 x.1.2.hi], some (102, 6, 1))] ++ KHp b12 i : Hp)).map Prod.fst, D⟩ ([(b, [.int .i64 x.1.2.post, .int .i64 x.1.2.kind, .int .i64 x.1.2.seen, .int .i64 x.1.2.came, .int .i64 x.1.2.lo, .int .i64 x.1.2.hi], some (102, 6, 1))] ++ KHp b12 i) w1 → SaysC bd x.1.2 at_ r0 w1 :=
        fun D w1 h1 => says_m hDW hxok ha ha1 p0 p1 t0 t1 v0 v1 (by rw [hxk]; exact hrt) h1.ext fun y hy e => by
          have := hown y hy
          omega
      have m5 := hw.off (b := b5) (by simp)
      have m8 := hw.off (b := b8) (by simp)
      rcases i with _ | ⟨g, cap, ls⟩
      all_goals simp only [KHp, List.cons_append, List.nil_append] at hw HS m5 m8 ⊢
      · have c5 : W.cell? ⟨b5, 0, none⟩ = some (.pointer (some ⟨bd, 0, none⟩)) := hw.cellAt (by (repeat (first | exact P0 | apply P1))) rfl
        have c8 : W.cell? ⟨b8, 0, none⟩ = some (.int .i64 at_) := hw.cellAt (by (repeat (first | exact P0 | apply P1))) rfl
        repeat' (first | ((with_reducible apply oq_id); first | ((with_reducible apply oq_load); exact rfl; exact rfl) | ((with_reducible apply oq_loadAgg); exact rfl; exact rfl) | ((with_reducible apply oq_call (k := 123) (hc := Try.call123)); exact rfl; exact rfl; exact fun D w1 hw1 => HS _ w1 hw1)) | ((with_reducible apply gx_id); first | ((with_reducible apply v_nil)) | ((with_reducible apply v_q); exact rfl; exact rfl; exact rfl)) | ((with_reducible apply os_id); first | ((with_reducible apply os_store); exact rfl; exact rfl; exact rfl; exact rfl) | ((with_reducible apply os_appendNil (hk := app_ok109)); exact rfl; exact rfl)) | ((with_reducible apply ox_id); first | ((with_reducible apply ox_buildSlice2); exact rfl; exact rfl; exact rfl; exact rfl; exact rfl; exact rfl; intro _)) | ((with_reducible apply ai_id); first | ((with_reducible apply ai_x); exact rfl; exact rfl; exact rfl; exact rfl; exact rfl) | ((with_reducible apply ai_s0); exact rfl; exact rfl; exact rfl; exact rfl) | ((with_reducible apply ai_s); exact rfl; exact rfl; exact rfl; exact rfl; exact rfl)) | ((with_reducible apply rd_id); first | (apply Rd.own; (repeat (first | exact P0 | apply P1)); exact rfl; done) | (apply Rd.old; (first | (with_reducible assumption) | exact c5 | exact c8); first | exact List.not_mem_nil | exact m5 | exact m8)) | ((with_reducible apply t_id); first | ((with_reducible apply t_block))) | with_reducible apply q_blockN | exact P0 | ((with_reducible apply P1)) | exact Rdn.zero | apply Rdn.succ | ((with_reducible apply Norm.nil); exact rfl) | ((with_reducible apply Norm.cons); exact rfl) | (apply t_mix (id := 4) [0, 1, 2, 3, 4] 3 #[false, false, false, false, false, false, true, true]; kernel_rfl; kernel_rfl; exact rfl) | ((with_reducible apply al_id); first | (apply al_done; decide +kernel) | (apply al_one 5; decide +kernel) | (apply al_one 6; decide +kernel) | (apply al_one 7; decide +kernel)) | exact Nat.le_of_ble_eq_true rfl | exact (rfl : (_ : Bool) = true) | (intro _ _; with_reducible apply al_id))
        rename_i bs bg cg
        have hpre : pre = [] := hi
        subst hpre
        refine ⟨some (bg, cg, [(sayLo r0 at_ x.1.2, sayHi r0 at_ x.1.2)]), ⟨rfl, by simp⟩, ?_⟩
        simp only [KHp]
        (repeat (first | exact HpSub.refl _ | (apply HpSub.consE; (repeat (first | exact P0 | apply P1)); exact rfl) | exact HpSub.nil))
      · have c5 : W.cell? ⟨b5, 0, none⟩ = some (.pointer (some ⟨bd, 0, none⟩)) := hw.cellAt (by (repeat (first | exact P0 | apply P1))) rfl
        have c8 : W.cell? ⟨b8, 0, none⟩ = some (.int .i64 at_) := hw.cellAt (by (repeat (first | exact P0 | apply P1))) rfl
        have hll : ls.length < l.length := by
          have h1 : ls = saysOf r0 at_ pre := hi.1
          rw [h1]; simpa [saysOf] using hlt
        repeat' (first | ((with_reducible apply oq_id); first | ((with_reducible apply oq_load); exact rfl; exact rfl) | ((with_reducible apply oq_loadAgg); exact rfl; exact rfl) | ((with_reducible apply oq_call (k := 123) (hc := Try.call123)); exact rfl; exact rfl; exact fun D w1 hw1 => HS _ w1 hw1)) | ((with_reducible apply gx_id); first | ((with_reducible apply v_nil)) | ((with_reducible apply v_q); exact rfl; exact rfl; exact rfl)) | ((with_reducible apply os_id); first | ((with_reducible apply os_store); exact rfl; exact rfl; exact rfl; exact rfl) | ((with_reducible apply os_append (hk := app_ok109)); exact rfl; exact rfl; (repeat (first | exact P0 | apply P1)))) | ((with_reducible apply ox_id); first | ((with_reducible apply ox_buildSlice2); exact rfl; exact rfl; exact rfl; exact rfl; exact rfl; exact rfl; intro _)) | ((with_reducible apply ai_id); first | ((with_reducible apply ai_x); exact rfl; exact rfl; exact rfl; exact rfl; exact rfl) | ((with_reducible apply ai_s0); exact rfl; exact rfl; exact rfl; exact rfl) | ((with_reducible apply ai_s); exact rfl; exact rfl; exact rfl; exact rfl; exact rfl)) | ((with_reducible apply rd_id); first | (apply Rd.own; (repeat (first | exact P0 | apply P1)); exact rfl; done) | (apply Rd.old; (first | (with_reducible assumption) | exact c5 | exact c8); first | exact List.not_mem_nil | exact m5 | exact m8)) | ((with_reducible apply t_id); first | ((with_reducible apply t_block))) | with_reducible apply q_blockN | exact P0 | ((with_reducible apply P1)) | exact Rdn.zero | apply Rdn.succ | ((with_reducible apply Norm.nil); exact rfl) | ((with_reducible apply Norm.cons); exact rfl) | (apply t_mix (id := 4) [0, 1, 2, 3, 4] 3 #[false, false, false, false, false, false, true, true]; kernel_rfl; kernel_rfl; exact rfl) | ((with_reducible apply al_id); first | (apply al_done; decide +kernel) | (apply al_one 5; decide +kernel) | (apply al_one 6; decide +kernel) | (apply al_one 7; decide +kernel)) | exact Nat.le_of_ble_eq_true rfl | exact (rfl : (_ : Bool) = true) | omega | (intro _ _; with_reducible apply al_id))
        · exact flat_len ls
        rename_i bs bg cg
        refine ⟨some (bg, cg, ls ++ [(sayLo r0 at_ x.1.2, sayHi r0 at_ x.1.2)]), ⟨?_, by simp⟩, ?_⟩
        · have h1 : ls = saysOf r0 at_ pre := hi.1
          rw [h1]; simp [saysOf]
        simp only [KHp]
        (repeat (first | exact HpSub.refl _ | (apply HpSub.consE; (repeat (first | exact P0 | apply P1)); first | exact rfl | (first | rw [flat_snoc] | (focus (simp; done)))) | exact HpSub.nil))
  case done =>
    rintro xs i rfl hi
    have hfil := hns_filter l post kind now
    have HC : ∀ w1, Ext w w1 → Calls Try.prog 69 #[.pointer (some ⟨bd, 0, none⟩), .int .i64 post, .int .i64 kind, .int .i64 now] w1 fun e w' => e = .returned (confV (conflictF r0 l post kind now)) ∧ Ext w1 w' := fun w1 hx =>
      conflict_T bd A n cp p t v l post kind now w1 (hr.ext hx) hn (hD.ext hx) hok p0 p1 t0 t1 v0 v1 r0 hrt
    rcases i with _ | ⟨g, cap, ls⟩
    · have h0 : hns l post kind now l.length = [] := hi
      have hv : knownF r0 l post kind at_ now = (0, 0, 6) := by
        unfold knownF
        rw [← hfil, h0]; rfl
      simp only [KHp, List.cons_append, List.nil_append]
      repeat' (first | ((with_reducible apply oq_id); first | (apply oq_fn; exact rfl; first | exact trivial | (refine ⟨?_, ?_⟩ <;> omega) | (refine ⟨?_, ?_, ?_⟩ <;> omega) | omega | skip) | ((with_reducible apply oq_load); exact rfl; exact rfl) | ((with_reducible apply oq_build); exact rfl; exact rfl; exact rfl)) | ((with_reducible apply tl_id); first | ((with_reducible apply tl_nil)) | ((with_reducible apply u_q); exact rfl; exact rfl; exact rfl; exact rfl) | ((with_reducible apply u_s0); exact rfl; exact rfl)) | ((with_reducible apply os_id); first | ((with_reducible apply os_storeAgg); exact rfl; exact rfl; exact rfl; exact rfl; exact rfl)) | ((with_reducible apply rd_id); first | (apply Rd.own; (repeat (first | exact P0 | apply P1)); exact rfl; done)) | ((with_reducible apply t_id); first | ((with_reducible apply t_seq)) | (apply t_region; kernel_rfl) | ((with_reducible apply t_condT); exact rfl) | ((with_reducible apply t_ret))) | with_reducible apply q_thenN | with_reducible apply q_thenR | with_reducible apply q_blockN | exact P0 | ((with_reducible apply P1)) | exact Rdn.zero | apply Rdn.succ | ((with_reducible apply Norm.nil); exact rfl) | ((with_reducible apply Norm.cons); exact rfl) | ((with_reducible apply end_ret)) | exact rvs_nil | ((with_reducible apply rvs_cons)) | ((with_reducible apply rv_tmp); exact rfl) | ((with_reducible apply rv_cellAgg); exact rfl; exact rfl) | exact Nat.le_of_ble_eq_true rfl)
      rw [hv]; rfl
    · obtain ⟨h0, h1⟩ : ls = saysOf r0 at_ (hns l post kind now l.length) ∧ ls ≠ [] := hi
      have hne : ¬ l.filter (News.hand post kind now) = [] := by
        rw [← hfil]
        intro h2
        have h3 := congrArg List.length h2
        apply h1
        rw [h0]
        unfold saysOf
        rw [List.map_eq_nil_iff]
        exact List.map_eq_nil_iff.1 h2
      have hls : ls = (l.filter (News.hand post kind now)).map fun x => (sayLo r0 at_ x, sayHi r0 at_ x) := by
        rw [h0, ← hfil, List.map_map]; rfl
      have hlen2 : ls.length ≤ l.length := by
        rw [hls, List.length_map]; exact List.length_filter_le _ _
      have hpos : 0 < ls.length := by cases ls with | nil => exact absurd rfl h1 | cons _ _ => simp
      cases hcf : conflictF r0 l post kind now with
      | some ik =>
        have hv : knownF r0 l post kind at_ now = (0, 0, 24) := by
          unfold knownF
          simp only [hne, if_false, hcf]; rfl
        rw [hcf] at HC
        simp only [KHp, List.cons_append, List.nil_append]
        repeat' (first | ((with_reducible apply oq_id); first | (apply oq_fn; exact rfl; first | exact trivial | (refine ⟨?_, ?_⟩ <;> omega) | (refine ⟨?_, ?_, ?_⟩ <;> omega) | omega | skip) | ((with_reducible apply oq_load); exact rfl; exact rfl) | ((with_reducible apply oq_call (k := 69) (hc := Try.call69)); exact rfl; exact rfl; exact fun D w1 hw1 => HC w1 hw1.ext.ext) | ((with_reducible apply oq_build); exact rfl; exact rfl; exact rfl)) | ((with_reducible apply tl_id); first | ((with_reducible apply tl_nil)) | ((with_reducible apply u_q); exact rfl; exact rfl; exact rfl; exact rfl) | ((with_reducible apply u_s0); exact rfl; exact rfl)) | ((with_reducible apply os_id); first | ((with_reducible apply os_storeAgg); exact rfl; exact rfl; exact rfl; exact rfl; exact rfl)) | ((with_reducible apply rd_id); first | (apply Rd.own; (repeat (first | exact P0 | apply P1)); exact rfl; done)) | ((with_reducible apply t_id); first | ((with_reducible apply t_seq)) | (apply t_region; kernel_rfl) | ((with_reducible apply t_condT); exact rfl) | ((with_reducible apply t_condD); exact rfl; all_goals first | (intro hp; try (exfalso; omega)) | skip) | ((with_reducible apply t_ret)) | ((with_reducible apply t_skip))) | with_reducible apply q_thenN | with_reducible apply q_thenR | with_reducible apply q_blockN | exact P0 | ((with_reducible apply P1)) | exact Rdn.zero | apply Rdn.succ | ((with_reducible apply Norm.nil); exact rfl) | ((with_reducible apply Norm.cons); exact rfl) | ((with_reducible apply end_ret)) | exact rvs_nil | ((with_reducible apply rvs_cons)) | ((with_reducible apply rv_tmp); exact rfl) | ((with_reducible apply rv_cellAgg); exact rfl; exact rfl) | exact Nat.le_of_ble_eq_true rfl)
        rw [hv]; rfl
      | none =>
        obtain ⟨s, hs⟩ : ∃ s, ls[0]? = some s := ⟨_, List.getElem?_eq_getElem hpos⟩
        have hj := join_meet r0 at_ (l.filter (News.hand post kind now)) s (by rw [← hls]; exact hs) (fun x hx => by
          have hxo := (News.ok_iff x).1 (hok x (List.mem_filter.1 hx).1)
          have hm := mul_in6 r0 (absd x.seen at_) (by rw [← hrt]; unfold rateOf; (repeat' split) <;> omega) (by rw [← hrt]; unfold rateOf; (repeat' split) <;> omega) (absd_nonneg _ _) (by unfold absd; omega)
          unfold sayLo sayHi
          omega)
        rw [← hls] at hj
        have hv : knownF r0 l post kind at_ now = ((joinAll s ls).1, (joinAll s ls).2, 0) := by
          unfold knownF
          simp only [hne, if_false, hcf, hj]; rfl
        rw [hcf] at HC
        simp only [KHp, List.cons_append, List.nil_append]
        repeat' (first | ((with_reducible apply oq_id); first | (apply oq_fn; exact rfl; first | exact trivial | (refine ⟨?_, ?_⟩ <;> omega) | (refine ⟨?_, ?_, ?_⟩ <;> omega) | omega | skip) | ((with_reducible apply oq_load); exact rfl; exact rfl) | ((with_reducible apply oq_call (k := 69) (hc := Try.call69)); exact rfl; exact rfl; exact fun D w1 hw1 => HC w1 hw1.ext.ext) | ((with_reducible apply oq_call (k := 79) (hc := Try.call79)); exact rfl; exact rfl; exact fun D w1 hw1 => tog_rows rfl (by omega) hs hw1 (by (repeat (first | exact P0 | apply P1))))) | ((with_reducible apply tl_id); first | ((with_reducible apply tl_nil)) | ((with_reducible apply u_q); exact rfl; exact rfl; exact rfl; exact rfl) | ((with_reducible apply u_s0); exact rfl; exact rfl)) | ((with_reducible apply os_id); first | ((with_reducible apply os_storeAgg); exact rfl; exact rfl; exact rfl; exact rfl; exact rfl)) | ((with_reducible apply rd_id); first | (apply Rd.own; (repeat (first | exact P0 | apply P1)); exact rfl; done)) | ((with_reducible apply t_id); first | ((with_reducible apply t_seq)) | (apply t_region; kernel_rfl) | ((with_reducible apply t_condF); exact rfl) | ((with_reducible apply t_condD); exact rfl; all_goals first | (intro hp; try (exfalso; omega)) | skip) | ((with_reducible apply t_ret)) | ((with_reducible apply t_skip))) | with_reducible apply q_thenN | with_reducible apply q_blockN | exact P0 | ((with_reducible apply P1)) | exact Rdn.zero | apply Rdn.succ | ((with_reducible apply Norm.nil); exact rfl) | ((with_reducible apply Norm.cons); exact rfl) | ((with_reducible apply end_ret)) | exact rvs_nil | ((with_reducible apply rvs_cons)) | ((with_reducible apply rv_tmp); exact rfl) | ((with_reducible apply rv_cellAgg); exact rfl; exact rfl) | exact Nat.le_of_ble_eq_true rfl)
        rw [hv]; rfl

end Go.Proofs.Ytalidommelefaaa
/- A desk is opened. -/
namespace Go.Proofs.Ytalidommelefaaa
open Go.RowKit Go.Shelf
attribute [local irreducible] OQ OS OX Rd T TL GX GL AL AI RV wpG SAny Calls
set_option maxRecDepth 100000
set_option maxHeartbeats 2000000
set_option linter.unusedVariables false
set_option linter.unusedSimpArgs false

def OpenV (p t v : Int) (A : Option Addr) (n c : Nat) (E : Int) (V : Value) (H : Hp) : Prop :=
  (E = 0 ∧ ∃ bd, V = .tuple #[.pointer (some ⟨bd, 0, none⟩), .int .i64 0] ∧ H = [(bd, [.slice A n c, .int .i64 0, .int .i64 p, .int .i64 t, .int .i64 v, .int .i64 v], some (171, 6, 1))]) ∨
  (E ≠ 0 ∧ V = .tuple #[.pointer none, .int .i64 E] ∧ H = [])
theorem ints3 (a b c : Int) : [Value.int .i64 a, .int .i64 b, .int .i64 c] = ([a, b, c].map fun z => [Value.int .i64 z]).flatten := rfl
theorem fromS3 {w0 : World} {M : Ms} {H H' : Hp} {w : World} {g : Nat} {a b c lo hi : Int} {tg : Tg} {cp : Nat} {q : Bool} (hq : allFrom lo hi [a, b, c] = q) (h : Has w0 M H w) (p : Pick H g [.int .i64 a, .int .i64 b, .int .i64 c] tg H') :
    Calls Try.prog 71 #[.int .i64 lo, .int .i64 hi, .slice (some ⟨g, 0, none⟩) 3 cp] w fun e w' => e = .returned (.bool q) ∧ Ext w w' :=
  hq ▸ from_calls lo hi (some ⟨g, 0, none⟩) 3 cp [a, b, c] w (Blk.rows (k := 1) (rows := [a, b, c].map fun z => [Value.int .i64 z]) (h.blk _ p.mem).2 rfl (by simp)) (by omega)
theorem fromS1 {w0 : World} {M : Ms} {H H' : Hp} {w : World} {g : Nat} {a lo hi : Int} {tg : Tg} {cp : Nat} {q : Bool} (hq : allFrom lo hi [a] = q) (h : Has w0 M H w) (p : Pick H g [.int .i64 a] tg H') :
    Calls Try.prog 71 #[.int .i64 lo, .int .i64 hi, .slice (some ⟨g, 0, none⟩) 1 cp] w fun e w' => e = .returned (.bool q) ∧ Ext w w' :=
  hq ▸ from_calls lo hi (some ⟨g, 0, none⟩) 1 cp [a] w (Blk.rows (k := 1) (rows := [a].map fun z => [Value.int .i64 z]) (h.blk _ p.mem).2 rfl (by simp)) (by omega)


theorem open_T (p t v : Int) (A : Option Addr) (n c : Nat) (l : List News) (post kind : Int) (At : Option Addr) (nt ct : Nat) (times : List Int) (w : World) (hr : RdS w 6 A n (l.map News.cells)) (hn : n ≤ 1000000)
    (ht : RdS w 1 At nt (times.map fun z => [.int .i64 z])) (hnt : nt ≤ 1000000) :
    Calls Try.prog 62 #[.agg #[.int .i64 p, .int .i64 t, .int .i64 v], .slice A n c, .int .i64 post, .int .i64 kind, .slice At nt ct] w fun e w' => ∃ V H', e = .returned V ∧ OpenV p t v A n c (openE p t v l post kind times) V H' ∧ Has w ⟨[], []⟩ H' w' := by
  have HC : ∀ w1, Ext w w1 → Calls Try.prog 24 #[.slice A n c] w1 fun e w' => e = .returned (.int .i64 (checkNews l)) ∧ Ext w1 w' := fun w1 hx => checkNews_calls A n c l w1 (hr.ext hx) hn
  have HT : ∀ w1, Ext w w1 → Calls Try.prog 71 #[.int .i64 0, .int .i64 1000000, .slice At nt ct] w1 fun e w' => e = .returned (.bool (allFrom 0 1000000 times)) ∧ Ext w1 w' := fun w1 hx => from_calls 0 1000000 At nt ct times w1 (ht.ext hx) (by omega)
  clear hr hn ht hnt
  unfold openE openOk
  generalize h4 : allFrom 0 1000000 times = q4 at HT ⊢
  generalize h0 : checkNews l = E0 at HC ⊢
  generalize h1 : allFrom 0 100 [p, t, v] = q1
  generalize h2 : allFrom 0 15 [post] = q2
  generalize h3 : allFrom 1 4 [kind] = q3
  refine enterF (c := cx w 56) Try.func62 rfl rfl rfl rfl ?_
  repeat' (first | ((with_reducible apply oq_id); first | (apply oq_fn; exact rfl; first | exact trivial | (refine ⟨?_, ?_⟩ <;> omega) | (refine ⟨?_, ?_, ?_⟩ <;> omega) | omega | skip) | ((with_reducible apply oq_load); exact rfl; exact rfl) | ((with_reducible apply oq_call (k := 24) (hc := Try.call24)); exact rfl; exact rfl; exact fun D w1 hw1 => HC w1 hw1.ext.ext) | ((with_reducible apply oq_call (k := 71) (hc := Try.call71)); exact rfl; exact rfl; exact fun D w1 hw1 => HT w1 hw1.ext.ext) | ((with_reducible apply oq_call (k := 71) (hc := Try.call71)); exact rfl; exact rfl; exact fun D w1 hw1 => fromS3 h1 hw1 (by (repeat (first | exact P0 | apply P1)))) | ((with_reducible apply oq_call (k := 71) (hc := Try.call71)); exact rfl; exact rfl; exact fun D w1 hw1 => fromS1 h2 hw1 (by (repeat (first | exact P0 | apply P1)))) | ((with_reducible apply oq_call (k := 71) (hc := Try.call71)); exact rfl; exact rfl; exact fun D w1 hw1 => fromS1 h3 hw1 (by (repeat (first | exact P0 | apply P1)))) | ((with_reducible apply oq_build); exact rfl; exact rfl; exact rfl) | ((with_reducible apply oq_buildA); exact rfl; exact rfl; exact rfl; exact rfl)) | ((with_reducible apply tl_id); first | ((with_reducible apply tl_nil)) | ((with_reducible apply u_q); exact rfl; exact rfl; exact rfl; exact rfl) | ((with_reducible apply u_s); exact rfl; exact rfl; exact rfl) | ((with_reducible apply u_skip); exact rfl; exact rfl; exact rfl) | ((with_reducible apply u_split); exact rfl; exact rfl; all_goals first | intro hp | skip)) | ((with_reducible apply os_id); first | ((with_reducible apply os_x); exact rfl)) | ((with_reducible apply ox_id); first | ((with_reducible apply ox_boxAgg); exact rfl; intro _) | ((with_reducible apply ox_buildSlice1); exact rfl; exact rfl; exact rfl; exact rfl; exact rfl; exact rfl; intro _)) | ((with_reducible apply rd_id); first | (apply Rd.own; (repeat (first | exact P0 | apply P1)); exact rfl; done)) | ((with_reducible apply t_id); first | ((with_reducible apply t_seq)) | (apply t_region; kernel_rfl) | ((with_reducible apply t_condT); exact rfl) | ((with_reducible apply t_condN); exact rfl; all_goals first | (intro hp; try (exfalso; omega)) | skip) | ((with_reducible apply t_cond); exact rfl; all_goals first | intro hp | skip) | ((with_reducible apply t_ret)) | ((with_reducible apply t_skip))) | with_reducible apply q_thenN | with_reducible apply q_thenR | ((with_reducible apply Norm.nil); exact rfl) | ((with_reducible apply Norm.cons); exact rfl) | ((with_reducible apply end_ret)) | exact rvs_nil | ((with_reducible apply rvs_cons)) | ((with_reducible apply rv_tmp); exact rfl))
  · exact ⟨_, .inr ⟨by simp [hp], by simp [hp, retOf], rfl⟩, HpSub.nil⟩
  iterate 4 exact ⟨_, .inr ⟨by simp_all, by simp_all [retOf], rfl⟩, HpSub.nil⟩
  exact ⟨_, .inl ⟨by simp_all, _, rfl, rfl⟩, HpSub.cons P0 HpSub.nil⟩

end Go.Proofs.Ytalidommelefaaa
/- What is known, what contradicts: the package's doors. -/
namespace Go.Proofs.Ytalidommelefaaa
open Go.RowKit Go.Shelf
attribute [local irreducible] OQ OS OX Rd T TL GX GL AL AI RV wpG SAny Calls
set_option maxRecDepth 100000
set_option maxHeartbeats 2000000
set_option linter.unusedVariables false
set_option linter.unusedSimpArgs false

theorem Blk.new {w : World} {b e s cap : Nat} {C : List Value} (h : Blk w b C (some (e, s, cap))) (hl : C.length = cap * s) : isNew w b C.toArray := by
  have hlt := h.lt
  obtain ⟨c, t, h1, h2, h3, h4, h5⟩ := h
  have hc : c = C.toArray := by
    apply Array.ext
    · simp [h4, hl]
    · intro i hi1 hi2
      have := h2 i C[i] (List.getElem?_eq_getElem (by simpa using hi2))
      rw [Array.getElem?_eq_getElem hi1] at this
      simpa using this
  refine ⟨fun o => ?_, fun o => ?_, hlt⟩
  · simp [World.cell?, h1, hc]
  · simp [World.frozen?, h1]
theorem Has.desk {w0 : World} {M : Ms} {H H' : Hp} {w : World} {bd : Nat} {A : Option Addr} {n c : Nat} {p t v : Int} (h : Has w0 M H w)
    (q : Pick H bd [.slice A n c, .int .i64 0, .int .i64 p, .int .i64 t, .int .i64 v, .int .i64 v] (some (171, 6, 1)) H') : Desk w bd A n c p t v :=
  (h.blk _ q.mem).2.new rfl
theorem checkNews_all {l : List News} (h : checkNews l = 0) : ∀ x ∈ l, x.ok = true := by
  unfold checkNews at h
  repeat' split at h
  · omega
  · rename_i h2; simpa using h2
  · omega
theorem openE_asked (p t v : Int) (l : List News) (post kind at_ now : Int) : openE p t v l post kind [at_, now] = asked p t v l post kind at_ now := by
  have : openOk p t v post kind [at_, now] = askedOk p t v post kind at_ now := by
    unfold openOk askedOk allFrom
    rw [Bool.eq_iff_iff]
    simp only [List.all_cons, List.all_nil, Bool.and_true, Bool.and_eq_true, decide_eq_true_eq]
    omega
  unfold openE asked
  rw [this]
theorem openE_one (p t v : Int) (l : List News) (post kind now : Int) : openE p t v l post kind [now] = asked p t v l post kind now now := by
  rw [← openE_asked]
  unfold openE openOk allFrom
  simp
theorem asked_all {p t v : Int} {l : List News} {post kind at_ now : Int} (h : asked p t v l post kind at_ now = 0) :
    (∀ x ∈ l, x.ok = true) ∧ 0 ≤ p ∧ p ≤ 100 ∧ 0 ≤ t ∧ t ≤ 100 ∧ 0 ≤ v ∧ v ≤ 100 ∧ 0 ≤ post ∧ post ≤ 15 ∧ 1 ≤ kind ∧ kind ≤ 4 ∧ 0 ≤ at_ ∧ at_ ≤ 1000000 ∧ 0 ≤ now ∧ now ≤ 1000000 := by
  unfold asked at h
  split at h
  · rename_i h1
    split at h
    · rename_i h2
      unfold askedOk at h2
      exact ⟨checkNews_all h1, of_decide_eq_true h2⟩
    · omega
  · rename_i h1; exact absurd h h1


theorem airKnown_T (p t v : Int) (A : Option Addr) (n c : Nat) (l : List News) (post kind at_ now : Int) (w : World) (hr : RdS w 6 A n (l.map News.cells)) (hn : n ≤ 1000000) :
    Calls Try.prog 20 #[.agg #[.int .i64 p, .int .i64 t, .int .i64 v], .slice A n c, .int .i64 post, .int .i64 kind, .int .i64 at_, .int .i64 now] w fun e w' =>
      e = .returned (.tuple #[.agg #[.int .i64 (knownS p t v l post kind at_ now).1, .int .i64 (knownS p t v l post kind at_ now).2.1], .int .i64 (knownS p t v l post kind at_ now).2.2]) ∧ Ext w w' := by
  have HO : ∀ {b ct : Nat} w1, Ext w w1 → RdS w1 1 (some ⟨b, 0, none⟩) 2 ([at_, now].map fun z => [Value.int .i64 z]) →
      Calls Try.prog 62 #[.agg #[.int .i64 p, .int .i64 t, .int .i64 v], .slice A n c, .int .i64 post, .int .i64 kind, .slice (some ⟨b, 0, none⟩) 2 ct] w1 fun e w' => ∃ V H', e = .returned V ∧ OpenV p t v A n c (asked p t v l post kind at_ now) V H' ∧ Has w1 ⟨[], []⟩ H' w' := fun {b ct} w1 hx ht => by
    have := open_T p t v A n c l post kind (some ⟨b, 0, none⟩) 2 ct [at_, now] w1 (hr.ext hx) hn ht (by omega)
    rw [openE_asked] at this
    exact this
  have HK : ∀ bd w1, Ext w w1 → asked p t v l post kind at_ now = 0 → Desk w1 bd A n c p t v → Calls Try.prog 63 #[.pointer (some ⟨bd, 0, none⟩), .int .i64 post, .int .i64 kind, .int .i64 at_, .int .i64 now] w1 fun e w' =>
      e = .returned (.tuple #[.agg #[.int .i64 (knownS p t v l post kind at_ now).1, .int .i64 (knownS p t v l post kind at_ now).2.1], .int .i64 (knownS p t v l post kind at_ now).2.2]) ∧ Ext w1 w' := fun bd w1 hx hE hD => by
    obtain ⟨hok, p0, p1, t0, t1, v0, v1, _, _, _, _, a0, a1, _, _⟩ := asked_all hE
    unfold knownS
    rw [if_pos hE]
    exact known_T bd A n c p t v l post kind at_ now w1 (hr.ext hx) hn hD hok a0 a1 p0 p1 t0 t1 v0 v1 _ rfl
  clear hr hn
  have HN : asked p t v l post kind at_ now ≠ 0 → knownS p t v l post kind at_ now = (0, 0, asked p t v l post kind at_ now) := fun h => by
    unfold knownS; rw [if_neg h]
  generalize knownS p t v l post kind at_ now = K at HK HN ⊢
  generalize asked p t v l post kind at_ now = E at HK HN HO
  refine enterQ (c := cx w 39) Try.func20 rfl rfl rfl rfl ?_
  repeat' (first | ((with_reducible apply oq_id); first | (apply oq_fn; exact rfl; first | exact trivial | (refine ⟨?_, ?_⟩ <;> omega) | (refine ⟨?_, ?_, ?_⟩ <;> omega) | omega | skip) | ((with_reducible apply oq_loadAgg); exact rfl; exact rfl) | ((with_reducible apply oq_call (k := 63) (hc := Try.call63)); exact rfl; exact rfl; exact fun D w1 hw1 => HK _ w1 hw1.ext.ext hE (hw1.desk (by (repeat (first | exact P0 | apply P1))))) | ((with_reducible apply oq_build); exact rfl; exact rfl; exact rfl)) | ((with_reducible apply tl_id); first | ((with_reducible apply tl_nil)) | ((with_reducible apply u_s); exact rfl; exact rfl; exact rfl; (with_reducible apply os_callF (PV := OpenV p t v A n c E) (k := 62) (hc := Try.call62)); exact rfl; exact rfl; exact fun D w1 hw1 => HO w1 hw1.ext.ext (Blk.rows (k := 1) (rows := [at_, now].map fun z => [Value.int .i64 z]) (hw1.blk _ (Pick.mem (by (repeat (first | exact P0 | apply P1))))).2 rfl (by simp)); rintro v H' (⟨hE, bd, rfl, rfl⟩ | ⟨hE, rfl, rfl⟩) <;> simp only [List.cons_append, List.nil_append]) | ((with_reducible apply u_q); exact rfl; exact rfl; exact rfl; exact rfl) | ((with_reducible apply u_s0); exact rfl; exact rfl) | ((with_reducible apply u_s); exact rfl; exact rfl; exact rfl)) | ((with_reducible apply os_id); first | ((with_reducible apply os_x); exact rfl) | ((with_reducible apply os_storeAgg); exact rfl; exact rfl; exact rfl; exact rfl; exact rfl)) | ((with_reducible apply ox_id); first | ((with_reducible apply ox_alloc); exact rfl; intro _) | ((with_reducible apply ox_boxAgg); exact rfl; intro _) | ((with_reducible apply ox_buildSlice1); exact rfl; exact rfl; exact rfl; exact rfl; exact rfl; exact rfl; intro _)) | ((with_reducible apply rd_id); first | (apply Rd.own; (repeat (first | exact P0 | apply P1)); exact rfl; done)) | ((with_reducible apply t_id); first | ((with_reducible apply t_seq)) | (apply t_region; kernel_rfl) | ((with_reducible apply t_condF); exact rfl) | ((with_reducible apply t_condN); exact rfl; all_goals first | (intro hp; try (exfalso; omega)) | skip) | ((with_reducible apply t_ret)) | ((with_reducible apply t_skip))) | with_reducible apply q_thenN | with_reducible apply q_thenR | exact P0 | ((with_reducible apply P1)) | exact Rdn.zero | apply Rdn.succ | ((with_reducible apply Norm.nil); exact rfl) | ((with_reducible apply Norm.cons); exact rfl) | ((with_reducible apply end_ret)) | exact rvs_nil | ((with_reducible apply rvs_cons)) | ((with_reducible apply rv_tmp); exact rfl) | ((with_reducible apply rv_cellAgg); exact rfl; exact rfl) | exact Nat.le_of_ble_eq_true rfl)
  all_goals first | rfl | (rw [HN (by assumption)]; rfl)


theorem airConflict_T (p t v : Int) (A : Option Addr) (n c : Nat) (l : List News) (post kind now : Int) (w : World) (hr : RdS w 6 A n (l.map News.cells)) (hn : n ≤ 1000000) :
    Calls Try.prog 22 #[.agg #[.int .i64 p, .int .i64 t, .int .i64 v], .slice A n c, .int .i64 post, .int .i64 kind, .int .i64 now] w fun e w' =>
      e = .returned (.tuple #[.int .i64 (conflictS p t v l post kind now).1, .int .i64 (conflictS p t v l post kind now).2.1, .int .i64 (conflictS p t v l post kind now).2.2]) ∧ Ext w w' := by
  have HO : ∀ {b ct : Nat} w1, Ext w w1 → RdS w1 1 (some ⟨b, 0, none⟩) 1 ([now].map fun z => [Value.int .i64 z]) →
      Calls Try.prog 62 #[.agg #[.int .i64 p, .int .i64 t, .int .i64 v], .slice A n c, .int .i64 post, .int .i64 kind, .slice (some ⟨b, 0, none⟩) 1 ct] w1 fun e w' => ∃ V H', e = .returned V ∧ OpenV p t v A n c (asked p t v l post kind now now) V H' ∧ Has w1 ⟨[], []⟩ H' w' := fun {b ct} w1 hx ht => by
    have := open_T p t v A n c l post kind (some ⟨b, 0, none⟩) 1 ct [now] w1 (hr.ext hx) hn ht (by omega)
    rw [openE_one] at this
    exact this
  have HK : ∀ bd w1, Ext w w1 → asked p t v l post kind now now = 0 → Desk w1 bd A n c p t v → Calls Try.prog 69 #[.pointer (some ⟨bd, 0, none⟩), .int .i64 post, .int .i64 kind, .int .i64 now] w1 fun e w' =>
      e = .returned (confV (conflictF (rateOf p t v kind) l post kind now)) ∧ Ext w1 w' := fun bd w1 hx hE hD => by
    obtain ⟨hok, p0, p1, t0, t1, v0, v1, _, _, _, _, a0, a1, _, _⟩ := asked_all hE
    exact conflict_T bd A n c p t v l post kind now w1 (hr.ext hx) hn hD hok p0 p1 t0 t1 v0 v1 _ rfl
  clear hr hn
  unfold conflictS
  generalize asked p t v l post kind now now = E at HK HO ⊢
  cases hC : conflictF (rateOf p t v kind) l post kind now with
  | none =>
    rw [hC] at HK
    simp only [confV] at HK
    refine enterQ (c := cx w 41) Try.func22 rfl rfl rfl rfl ?_
    repeat' (first | ((with_reducible apply oq_id); first | (apply oq_fn; exact rfl; first | exact trivial | (refine ⟨?_, ?_⟩ <;> omega) | (refine ⟨?_, ?_, ?_⟩ <;> omega) | omega | skip) | ((with_reducible apply oq_loadAgg); exact rfl; exact rfl) | ((with_reducible apply oq_call (k := 69) (hc := Try.call69)); exact rfl; exact rfl; exact fun D w1 hw1 => HK _ w1 hw1.ext.ext hE (hw1.desk (by (repeat (first | exact P0 | apply P1)))))) | ((with_reducible apply tl_id); first | ((with_reducible apply tl_nil)) | ((with_reducible apply u_s); exact rfl; exact rfl; exact rfl; (with_reducible apply os_callF (PV := OpenV p t v A n c E) (k := 62) (hc := Try.call62)); exact rfl; exact rfl; exact fun D w1 hw1 => HO w1 hw1.ext.ext (Blk.rows (k := 1) (rows := [now].map fun z => [Value.int .i64 z]) (hw1.blk _ (Pick.mem (by (repeat (first | exact P0 | apply P1))))).2 rfl (by simp)); rintro v H' (⟨hE, bd, rfl, rfl⟩ | ⟨hE, rfl, rfl⟩) <;> simp only [List.cons_append, List.nil_append]) | ((with_reducible apply u_q); exact rfl; exact rfl; exact rfl; exact rfl) | ((with_reducible apply u_s); exact rfl; exact rfl; exact rfl)) | ((with_reducible apply os_id); first | ((with_reducible apply os_x); exact rfl)) | ((with_reducible apply ox_id); first | ((with_reducible apply ox_boxAgg); exact rfl; intro _) | ((with_reducible apply ox_buildSlice1); exact rfl; exact rfl; exact rfl; exact rfl; exact rfl; exact rfl; intro _)) | ((with_reducible apply rd_id); first | (apply Rd.own; (repeat (first | exact P0 | apply P1)); exact rfl; done)) | ((with_reducible apply t_id); first | ((with_reducible apply t_seq)) | (apply t_region; kernel_rfl) | ((with_reducible apply t_condT); exact rfl) | ((with_reducible apply t_condF); exact rfl) | ((with_reducible apply t_condN); exact rfl; all_goals first | (intro hp; try (exfalso; omega)) | skip) | ((with_reducible apply t_ret)) | ((with_reducible apply t_skip))) | with_reducible apply q_thenN | with_reducible apply q_thenR | exact Rdn.zero | apply Rdn.succ | ((with_reducible apply end_ret)) | exact rvs_nil | ((with_reducible apply rvs_cons)) | ((with_reducible apply rv_tmp); exact rfl))
    all_goals (first | (rw [if_pos (by assumption)]; rfl) | (rw [if_neg (by assumption)]; rfl))
  | some ik =>
    obtain ⟨i, k⟩ := ik
    rw [hC] at HK
    simp only [confV] at HK
    refine enterQ (c := cx w 41) Try.func22 rfl rfl rfl rfl ?_
    repeat' (first | ((with_reducible apply oq_id); first | (apply oq_fn; exact rfl; first | exact trivial | (refine ⟨?_, ?_⟩ <;> omega) | (refine ⟨?_, ?_, ?_⟩ <;> omega) | omega | skip) | ((with_reducible apply oq_loadAgg); exact rfl; exact rfl) | ((with_reducible apply oq_call (k := 69) (hc := Try.call69)); exact rfl; exact rfl; exact fun D w1 hw1 => HK _ w1 hw1.ext.ext hE (hw1.desk (by (repeat (first | exact P0 | apply P1)))))) | ((with_reducible apply tl_id); first | ((with_reducible apply tl_nil)) | ((with_reducible apply u_s); exact rfl; exact rfl; exact rfl; (with_reducible apply os_callF (PV := OpenV p t v A n c E) (k := 62) (hc := Try.call62)); exact rfl; exact rfl; exact fun D w1 hw1 => HO w1 hw1.ext.ext (Blk.rows (k := 1) (rows := [now].map fun z => [Value.int .i64 z]) (hw1.blk _ (Pick.mem (by (repeat (first | exact P0 | apply P1))))).2 rfl (by simp)); rintro v H' (⟨hE, bd, rfl, rfl⟩ | ⟨hE, rfl, rfl⟩) <;> simp only [List.cons_append, List.nil_append]) | ((with_reducible apply u_q); exact rfl; exact rfl; exact rfl; exact rfl) | ((with_reducible apply u_s); exact rfl; exact rfl; exact rfl)) | ((with_reducible apply os_id); first | ((with_reducible apply os_x); exact rfl)) | ((with_reducible apply ox_id); first | ((with_reducible apply ox_boxAgg); exact rfl; intro _) | ((with_reducible apply ox_buildSlice1); exact rfl; exact rfl; exact rfl; exact rfl; exact rfl; exact rfl; intro _)) | ((with_reducible apply rd_id); first | (apply Rd.own; (repeat (first | exact P0 | apply P1)); exact rfl; done)) | ((with_reducible apply t_id); first | ((with_reducible apply t_seq)) | (apply t_region; kernel_rfl) | ((with_reducible apply t_condF); exact rfl) | ((with_reducible apply t_condN); exact rfl; all_goals first | (intro hp; try (exfalso; omega)) | skip) | ((with_reducible apply t_ret)) | ((with_reducible apply t_skip))) | with_reducible apply q_thenN | with_reducible apply q_thenR | exact Rdn.zero | apply Rdn.succ | ((with_reducible apply end_ret)) | exact rvs_nil | ((with_reducible apply rvs_cons)) | ((with_reducible apply rv_tmp); exact rfl))
    all_goals (first | (rw [if_pos (by assumption)]; rfl) | (rw [if_neg (by assumption)]; rfl))

end Go.Proofs.Ytalidommelefaaa
