/- The iterator over what is at hand. -/
import Derived.Test.YtalidommelefaaaWalk6
import Derived.RangeFuncNested
import Derived.RangeFuncBound
import Derived.RangeFuncCalls
import Derived.RangeFuncLeaves
import Derived.Shelf.Abstract
import Derived.Shelf.RegionOpen
import Derived.OwnWalkIn
import Derived.TacticsInMore
import Derived.LoopNIn
import Derived.LoopIn
namespace Go.Proofs.Ytalidommelefaaa
set_option linter.unusedVariables false
set_option linter.unusedSimpArgs false
open Go.RowKit Go.Shelf
attribute [local irreducible] wpG SAny
attribute [local go_sem] Oper.semAt_some

/-- What is handed out: a report with its place. -/
abbrev HN (l : List News) (post kind now : Int) := { p : Nat × News // l[p.1]? = some p.2 ∧ p.2.hand post kind now = true }
def hn (l : List News) (post kind now : Int) (i : Nat) : Option (HN l post kind now) :=
  match h : l[i]? with
  | some x => if hh : x.hand post kind now = true then some ⟨(i, x), h, hh⟩ else none
  | none => none
def hns (l : List News) (post kind now : Int) (k : Nat) : List (HN l post kind now) := (List.range k).filterMap (hn l post kind now)
theorem hn_yes {l : List News} {post kind now : Int} {i : Nat} {x : News} (h : l[i]? = some x) (hh : x.hand post kind now = true) : hn l post kind now i = some ⟨(i, x), h, hh⟩ := by
  unfold hn
  split
  · rename_i y hy
    obtain rfl : y = x := by rw [hy] at h; exact Option.some.inj h
    rw [dif_pos hh]
  · rename_i hy
    rw [hy] at h; cases h
theorem hn_no {l : List News} {post kind now : Int} {i : Nat} {x : News} (h : l[i]? = some x) (hh : x.hand post kind now = false) : hn l post kind now i = none := by
  unfold hn
  split
  · rename_i y hy
    obtain rfl : y = x := by rw [hy] at h; exact Option.some.inj h
    rw [dif_neg (by simp [hh])]
  · rfl
theorem hns_yes {l : List News} {post kind now : Int} {i : Nat} {x : News} (h : l[i]? = some x) (hh : x.hand post kind now = true) : hns l post kind now (i + 1) = hns l post kind now i ++ [⟨(i, x), h, hh⟩] := by
  unfold hns
  rw [List.range_succ, List.filterMap_append]
  simp [hn_yes h hh]
theorem hns_no {l : List News} {post kind now : Int} {i : Nat} {x : News} (h : l[i]? = some x) (hh : x.hand post kind now = false) : hns l post kind now (i + 1) = hns l post kind now i := by
  unfold hns
  rw [List.range_succ, List.filterMap_append]
  simp [hn_no h hh]
theorem hns_len (l : List News) (post kind now : Int) (k : Nat) : (hns l post kind now k).length ≤ k := by
  unfold hns
  exact Nat.le_trans (List.length_filterMap_le _ _) (by simp)
theorem hns_pre (l : List News) (post kind now : Int) (k n : Nat) (h : k ≤ n) : hns l post kind now k <+: hns l post kind now n := by
  obtain ⟨d, rfl⟩ := Nat.exists_eq_add_of_le h
  unfold hns
  rw [List.range_add, List.filterMap_append]
  exact List.prefix_append _ _

/-- The blocks of M lie as they lay. -/
def KeepM (M : Nat → Prop) (W W' : World) : Prop := ∀ b, M b → W'.heap[b]? = W.heap[b]?
theorem KeepM.trans {M : Nat → Prop} {A B C : World} (h : KeepM M A B) (k : KeepM M B C) : KeepM M A C := fun b hb => (k b hb).trans (h b hb)
theorem KeepM.cell {M : Nat → Prop} {A B : World} (h : KeepM M A B) {p : Addr} (hp : M p.block) : B.cell? p = A.cell? p := by
  unfold World.cell?; rw [h _ hp]
theorem KeepM.put {M : Nat → Prop} {w : World} (hM : ∀ b, M b → b < w.heap.size) (W : World) (l : Nat) (o o' : Obj) (hl : w.heap.size ≤ l) (_ : W.heap[l]? = some o) (_ : o.isCells = false) (_ : o.isWalk = false) : KeepM M W (W.putObj l o') := fun b hb => by
  have := hM b hb
  simp [World.putObj, Array.getElem?_setIfInBounds]
  omega

theorem RdS.keep {M : Nat → Prop} {w w' : World} {k : Nat} {A : Option Addr} {n : Nat} {xs : List (List Value)} (h : RdS w k A n xs) (he : KeepM M w w') (hM : 0 < n → ∀ b o, A = some ⟨b, o, none⟩ → M b) : RdS w' k A n xs :=
  ⟨h.len, fun hn => by
    obtain ⟨b, o, rfl, hb, hc⟩ := h.at_ hn
    have hh := he b (hM hn b o rfl)
    refine ⟨b, o, rfl, ?_, fun i x hx => ⟨(hc i x hx).1, fun j u hu => (he.cell (hM hn b o rfl)).trans ((hc i x hx).2 j u hu)⟩⟩
    rw [Array.getElem?_eq_getElem hb] at hh
    exact (Array.getElem?_eq_some_iff.1 hh).1⟩
/-- A box. -/
def Bx (W : World) (b : Nat) (v : Value) : Prop := W.cell? ⟨b, 0, none⟩ = some v

set_option maxRecDepth 100000 in
set_option maxHeartbeats 2000000 in
theorem hand1_in (F : Fence) (m : Nat) (h143 : F.fn 143) (hro : F.round = none) (hm : 1 ≤ m) (y B0 B1 B2 B3 bd : Nat) (A : Option Addr) (n c : Nat) (p t v : Int) (l : List News) (post kind now : Int) (hn0 : n ≤ 1000000)
    (M : Nat → Prop) (hM0 : M B0) (hM1 : M B1) (hM2 : M B2) (hM3 : M B3) (hMd : M bd) (hMA : 0 < n → ∀ b o, A = some ⟨b, o, none⟩ → M b)
    (J Jx : List (HN l post kind now) → World → Prop)
    (hJa : ∀ pre W o, J pre W → J pre (W.alloc o))
    (hJR : ∀ pre W, J pre W → RdS W 6 A n (l.map News.cells) ∧ Bx W B0 (.pointer (some ⟨bd, 0, none⟩)) ∧ Bx W B1 (.int .i64 post) ∧ Bx W B2 (.int .i64 kind) ∧ Bx W B3 (.int .i64 now) ∧ W.cell? ⟨bd, 0, none⟩ = some (.slice A n c))
    (hY : ∀ pre x W, J pre W → pre.length < l.length → YieldAt F (m - 1) Try.prog y #[.int .i64 (x.1.1 : Int), .agg #[.int .i64 x.1.2.post, .int .i64 x.1.2.kind, .int .i64 x.1.2.seen, .int .i64 x.1.2.came, .int .i64 x.1.2.lo, .int .i64 x.1.2.hi]] W fun e W' =>
      (e = .returned (.bool true) ∧ J (pre ++ [x]) W' ∧ KeepM M W W') ∨ (e = .returned (.bool false) ∧ Jx (pre ++ [x]) W'))
    (W : World) (h0 : J [] W) :
    CallsIn F m Try.prog 143 #[.func (.yield y) #[] #[], .pointer (some ⟨B0, 0, none⟩), .pointer (some ⟨B1, 0, none⟩), .pointer (some ⟨B2, 0, none⟩), .pointer (some ⟨B3, 0, none⟩)] W fun e W' => (∃ v, e = .returned v) ∧
      ((∃ ys, ys = hns l post kind now l.length ∧ J ys W') ∨ (∃ pre, pre <+: hns l post kind now l.length ∧ Jx pre W')) := by
  have HJR := Lib.hid hJR
  have HJa := Lib.hid hJa
  have HY := Lib.hid hY
  clear hJR hJa hY
  have r0 := HJR.out _ _ h0
  obtain ⟨hr, b0, b1, b2, b3, bD⟩ := r0
  have hl := hr.len
  simp at hl
  have HR := Lib.hid hr
  clear hr
  unfold Bx at b0 b1 b2 b3
  refine callsIn_of_wp Try.func143 rfl h143 ?_ hro
  simp only [Try.ntmps143, List.size_toArray, List.length_cons, List.length_nil, Nat.reduceAdd, Nat.reduceSub, Array.replicate_succ, Array.replicate_zero, List.push_toArray, List.append_toArray, List.nil_append, List.cons_append]
  gi_wp2
  gi_loopw [13] (fun i wr => ∃ k : Nat, k ≤ n ∧ i = .int .i64 k ∧ J (hns l post kind now k) wr)
    (fun i wr => n - (intOf i).toNat)
  case atStart =>
    exact ⟨0, by omega, rfl, h0⟩
  case round =>
    obtain ⟨k, hk, rfl, hJ⟩ := hrel
    clear b0 b1 b2 b3 bD
    by_cases hlt : k < n
    · obtain ⟨hr, b0, b1, b2, b3, bD⟩ := HJR.out _ _ hJ
      unfold Bx at b0 b1 b2 b3
      obtain ⟨b, o, x, rfl, hb, hkx, c0, c1, c2, c3, c4, c5⟩ := News.read hr hlt
      have HJ := Lib.hid hJ
      have HK := Lib.hid hkx
      have hb1 := cell_lt b1
      have hb2 := cell_lt b2
      have hb3 := cell_lt b3
      simp only at hb1 hb2 hb3
      clear hr hJ hkx b0 bD
      by_cases hh : x.hand post kind now = true
      · have hlen := hns_len l post kind now k
        have hh' := hh
        simp only [News.hand, Bool.and_eq_true, decide_eq_true_eq] at hh'
        obtain ⟨⟨h1, h2⟩, h3⟩ := hh'
        obtain ⟨xp, xk, xs, xc, xl, xh⟩ := x
        simp only at h1 h2 h3 c0 c1 c2 c3 c4 c5
        subst h1 h2
        have HJ2 := HJa.out _ _ (.cells #[.int .i64 xp, .int .i64 xk, .int .i64 xs, .int .i64 xc, .int .i64 xl, .int .i64 xh] 102) HJ.out
        obtain ⟨fn, tmps, assign, body, hy, hR⟩ := HY.out (hns l _ _ now k) ⟨(k, ⟨xp, xk, xs, xc, xl, xh⟩), HK.out, hh⟩ _ HJ2 (by omega)
        dsimp only at hy
        clear HJ2
        gi_wp2
        refine hR.mono ?_
        rintro e W3 (⟨rfl, hJ3, hk3⟩ | ⟨rfl, hJx3⟩)
        · gi_wp2
          go_roundw
          case rel => exact ⟨k + 1, by omega, by go_num, by rw [hns_yes HK.out hh]; exact hJ3⟩
          case measure => simp [intOf]; omega
        · gi_wp2
          refine bodyPost_ret (results_none rfl _ _ _) rfl ?_
          exact ⟨⟨_, rfl⟩, .inr ⟨_, by rw [← hns_yes HK.out hh]; exact hns_pre _ _ _ _ _ _ (by omega), hJx3⟩⟩
      · have hhf : x.hand post kind now = false := by simpa using hh
        have HH := Lib.hid hhf
        have hns := Lib.hid (hns_no HK.out hhf)
        by_cases h1 : x.post = post <;> by_cases h2 : x.kind = kind <;> by_cases h3 : x.came ≤ now
        · exact absurd (by simp [News.hand, h1, h2, h3]) hh
        all_goals
          clear hh hhf
          gi_wp2
          refine ⟨fun _ h => (by cases h), ?_⟩
          gi_wp2
          go_roundw
          case rel => exact ⟨k + 1, by omega, by go_num, by rw [hns.out]; exact HJa.out _ _ _ HJ.out⟩
          case measure => simp [intOf]; omega
    · obtain rfl : k = n := by omega
      gi_wp2
      go_end0
      exact ⟨⟨_, rfl⟩, .inl ⟨_, by rw [hl], hJ⟩⟩
/-- What the iterator reads. -/
def HandAt (W : World) (B0 B1 B2 B3 bd : Nat) (A : Option Addr) (n c : Nat) (l : List News) (post kind now : Int) : Prop :=
  RdS W 6 A n (l.map News.cells) ∧ Bx W B0 (.pointer (some ⟨bd, 0, none⟩)) ∧ Bx W B1 (.int .i64 post) ∧ Bx W B2 (.int .i64 kind) ∧ Bx W B3 (.int .i64 now) ∧ W.cell? ⟨bd, 0, none⟩ = some (.slice A n c)
theorem HandAt.ext {W W' : World} {B0 B1 B2 B3 bd : Nat} {A : Option Addr} {n c : Nat} {l : List News} {post kind now : Int} (h : HandAt W B0 B1 B2 B3 bd A n c l post kind now) (he : Ext W W') : HandAt W' B0 B1 B2 B3 bd A n c l post kind now :=
  ⟨h.1.ext he, he.cell h.2.1, he.cell h.2.2.1, he.cell h.2.2.2.1, he.cell h.2.2.2.2.1, he.cell h.2.2.2.2.2⟩

theorem hand_stops (F : Fence) (m : Nat) (h143 : F.fn 143) (hro : F.round = none) (hm : 1 ≤ m) (B0 B1 B2 B3 bd : Nat) (A : Option Addr) (n c : Nat) (l : List News) (post kind now : Int) (hn0 : n ≤ 1000000)
    (M : Nat → Prop) (hM0 : M B0) (hM1 : M B1) (hM2 : M B2) (hM3 : M B3) (hMd : M bd) (hMA : 0 < n → ∀ b o, A = some ⟨b, o, none⟩ → M b) (w : World) (h : HandAt w B0 B1 B2 B3 bd A n c l post kind now) :
    SeqStopsK F m Try.prog 143 #[.pointer (some ⟨B0, 0, none⟩), .pointer (some ⟨B1, 0, none⟩), .pointer (some ⟨B2, 0, none⟩), .pointer (some ⟨B3, 0, none⟩)]
      (fun x : HN l post kind now => #[.int .i64 (x.1.1 : Int), .agg #[.int .i64 x.1.2.post, .int .i64 x.1.2.kind, .int .i64 x.1.2.seen, .int .i64 x.1.2.came, .int .i64 x.1.2.lo, .int .i64 x.1.2.hi]])
      (KeepM M) (fun ys => ys = hns l post kind now l.length) (fun pre => pre <+: hns l post kind now l.length) l.length w := fun y J Jx W hW hJ hJx hY h0 => by
  refine (hand1_in F m h143 hro hm y B0 B1 B2 B3 bd A n c 0 0 0 l post kind now hn0 M hM0 hM1 hM2 hM3 hMd hMA (fun pre W => J pre W ∧ HandAt W B0 B1 B2 B3 bd A n c l post kind now) Jx ?_ (fun pre W h => h.2) ?_ W ⟨h0, h.ext hW⟩).mono ?_
  · exact fun pre W o hj => ⟨hJ _ _ _ none hj.1 (World.grownBy_alloc W o none) (fun r e => by cases e), hj.2.ext ((Ext.refl W).alloc o)⟩
  · intro pre x W1 hj hlen
    obtain ⟨fn, tmps, assign, body, hy, hR⟩ := hY pre x W1 hj.1 hlen
    refine ⟨fn, tmps, assign, body, hy, hR.mono ?_⟩
    rintro e W' (⟨he, hj', hk⟩ | h)
    · exact .inl ⟨he, ⟨hj', hj.2.1.keep hk hMA, (hk.cell hM0).trans hj.2.2.1, (hk.cell hM1).trans hj.2.2.2.1, (hk.cell hM2).trans hj.2.2.2.2.1, (hk.cell hM3).trans hj.2.2.2.2.2.1, (hk.cell hMd).trans hj.2.2.2.2.2.2⟩, hk⟩
    · exact .inr h
  · rintro e W' ⟨hv, ⟨ys, hys, hj⟩ | h⟩
    · exact ⟨hv, .inl ⟨ys, hys, hj.1⟩⟩
    · exact ⟨hv, .inr h⟩

theorem hand_in (F : Fence) (m : Nat) (h122 : F.fn 122) (hro : F.round = none) (bd : Nat) (post kind now : Int) (w : World) :
    CallsIn F m Try.prog 122 #[.pointer (some ⟨bd, 0, none⟩), .int .i64 post, .int .i64 kind, .int .i64 now] w fun e w' =>
      e = .returned (.func (.func 143) #[] #[.pointer (some ⟨w.heap.size, 0, none⟩), .pointer (some ⟨w.heap.size + 1, 0, none⟩), .pointer (some ⟨w.heap.size + 2, 0, none⟩), .pointer (some ⟨w.heap.size + 3, 0, none⟩)]) ∧
      w' = (((w.alloc (.cells #[.pointer (some ⟨bd, 0, none⟩)] 115)).alloc (.cells #[.int .i64 post] 3)).alloc (.cells #[.int .i64 kind] 3)).alloc (.cells #[.int .i64 now] 3) := by
  refine callsIn_of_wp Try.func122 rfl h122 ?_ hro
  simp only [Try.ntmps122, List.size_toArray, List.length_cons, List.length_nil, Nat.reduceAdd, Nat.reduceSub, Array.replicate_succ, Array.replicate_zero, List.push_toArray, List.append_toArray, List.nil_append, List.cons_append]
  gi_wp2
  go_ret
  exact ⟨rfl, rfl⟩
end Go.Proofs.Ytalidommelefaaa
