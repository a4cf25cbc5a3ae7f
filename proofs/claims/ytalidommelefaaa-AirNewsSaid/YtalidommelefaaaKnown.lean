/- What a desk knows. -/
import Derived.Test.YtalidommelefaaaConf
namespace Go.Proofs.Ytalidommelefaaa
open Go.RowKit Go.Shelf
attribute [local irreducible] OQ OS OX Rd T TL GX GL AL AI RV wpG SAny
set_option maxRecDepth 100000
set_option maxHeartbeats 2000000


theorem hns_filter (l : List News) (post kind now : Int) : (hns l post kind now l.length).map (fun x => x.1.2) = l.filter (News.hand post kind now) := by
  have key : ∀ k, k ≤ l.length → (hns l post kind now k).map (fun x => x.1.2) = (l.take k).filter (News.hand post kind now) := by
    intro k
    induction k with
    | zero => intro _; rfl
    | succ k ih =>
      intro hk
      have hx : l[k]? = some l[k] := List.getElem?_eq_getElem (by omega)
      rw [List.take_succ_eq_append_getElem (by omega), List.filter_append, ← ih (by omega)]
      cases hh : (l[k]).hand post kind now with
      | true => rw [hns_yes hx hh]; simp [hh]
      | false => rw [hns_no hx hh]; simp [hh]
  have := key l.length (Nat.le_refl _)
  rw [this, List.take_length]
theorem join_meet (r0 at_ : Int) (hs : List News) (s : Int × Int) (h : (hs.map fun x => (sayLo r0 at_ x, sayHi r0 at_ x))[0]? = some s) (hb : ∀ x ∈ hs, -1099511627776 ≤ sayLo r0 at_ x ∧ sayHi r0 at_ x ≤ 1099511627776) :
    joinAll s (hs.map fun x => (sayLo r0 at_ x, sayHi r0 at_ x)) = (meetLo r0 at_ hs, meetHi r0 at_ hs) := by
  cases hs with
  | nil => simp at h
  | cons x hs =>
    obtain rfl : (sayLo r0 at_ x, sayHi r0 at_ x) = s := by simpa using h
    have hx := hb x (List.mem_cons_self ..)
    have key : ∀ (hs : List News) (a b : Int), (hs.map fun x => (sayLo r0 at_ x, sayHi r0 at_ x)).foldl joinS (a, b) = (hs.foldl (fun m x => max m (sayLo r0 at_ x)) a, hs.foldl (fun m x => min m (sayHi r0 at_ x)) b) := by
      intro hs
      induction hs with
      | nil => intro a b; rfl
      | cons y hs ih => intro a b; simp only [List.map_cons, List.foldl_cons, joinS]; exact ih _ _
    unfold joinAll meetLo meetHi
    rw [List.map_cons, List.foldl_cons, List.foldl_cons, List.foldl_cons]
    simp only [joinS]
    rw [key]
    rw [show max (sayLo r0 at_ x) (sayLo r0 at_ x) = max (-1099511627776) (sayLo r0 at_ x) by omega, show min (sayHi r0 at_ x) (sayHi r0 at_ x) = min 1099511627776 (sayHi r0 at_ x) by omega]
theorem tog_rows {w0 : World} {M : Ms} {H H' : Hp} {w : World} {g n cap : Nat} {ls : List (Int × Int)} {s : Int × Int} {tg : Tg} (hn : ls.length = n) (hb : n ≤ 1000000) (hs : ls[0]? = some s) (h : Has w0 M H w) (p : Pick H g (ls.map spanCells).flatten tg H') :
    Calls Try.prog 79 #[.slice (some ⟨g, 0, none⟩) n cap] w fun e w' => e = .returned (.agg #[.int .i64 (joinAll s ls).1, .int .i64 (joinAll s ls).2]) ∧ Ext w w' :=
  together_calls (some ⟨g, 0, none⟩) n cap s ls w (Blk.rows (h.blk _ p.mem).2 (by simpa using hn) (by simp only [List.mem_map]; rintro r ⟨x, _, rfl⟩; rfl)) hb hs


theorem known_T (bd : Nat) (A : Option Addr) (n cp : Nat) (p t v : Int) (l : List News) (post kind at_ now : Int) (w : World) (hr : RdS w 6 A n (l.map News.cells)) (hn : n ≤ 1000000)
    (hD : Desk w bd A n cp p t v) (hok : ∀ x ∈ l, x.ok = true) (ha : 0 ≤ at_) (ha1 : at_ ≤ 1000000) (p0 : 0 ≤ p) (p1 : p ≤ 100) (t0 : 0 ≤ t) (t1 : t ≤ 100) (v0 : 0 ≤ v) (v1 : v ≤ 100) (r0 : Int) (hrt : rateOf p t v kind = r0) :
    Calls Try.prog 63 #[.pointer (some ⟨bd, 0, none⟩), .int .i64 post, .int .i64 kind, .int .i64 at_, .int .i64 now] w fun e w' =>
      e = .returned (.tuple #[.agg #[.int .i64 (knownF r0 l post kind at_ now).1, .int .i64 (knownF r0 l post kind at_ now).2.1], .int .i64 (knownF r0 l post kind at_ now).2.2]) ∧ Ext w w' := by
  have hlen := hr.len
  simp at hlen
  have hAl : 0 < n → ∀ b o, A = some ⟨b, o, none⟩ → b < w.heap.size := fun h0 b o h => by
    obtain ⟨b', o', h1, h2, _⟩ := hr.at_ h0
    rw [h] at h1; cases h1; exact h2
  refine enterQ (c := cx w 49) Try.func63 rfl rfl rfl rfl ?_
  repeat' (first
    | ((with_reducible apply oq_id); first
      | (apply oq_fn; exact rfl; first | exact trivial | (refine ⟨?_, ?_⟩ <;> omega) | (refine ⟨?_, ?_, ?_⟩ <;> omega) | omega | skip)
      | ((with_reducible apply oq_load); exact rfl; exact rfl)
      | ((with_reducible apply oq_loadAgg); exact rfl; exact rfl)
      | ((with_reducible apply oq_build); exact rfl; exact rfl; exact rfl)
      | ((with_reducible apply oq_buildA); exact rfl; exact rfl; exact rfl; exact rfl)
      | ((with_reducible apply oq_fieldAgg); exact rfl; exact rfl; exact rfl)
      | ((with_reducible apply oq_indexAgg); exact rfl; exact rfl; exact rfl; exact rfl))
    | ((with_reducible apply tl_id); first
      | ((with_reducible apply tl_nil))
      | ((with_reducible apply u_s); exact rfl; exact rfl; exact rfl; (with_reducible apply os_callF (PV := HandV bd post kind now) (k := 122) (hc := Try.call122)); exact rfl; exact rfl; exact fun D w1 hw1 => hand_T _ _ _ _ w1; rintro v H' ⟨b0, b1, b2, b3, rfl, rfl⟩)
      | ((with_reducible apply u_q); exact rfl; exact rfl; exact rfl; exact rfl)
      | ((with_reducible apply u_s0); exact rfl; exact rfl)
      | ((with_reducible apply u_s); exact rfl; exact rfl; exact rfl)
      | ((with_reducible apply u_skip); exact rfl; exact rfl; exact rfl)
      | ((with_reducible apply u_splitD); exact rfl; exact rfl; all_goals first | (intro hp; try (exfalso; omega)) | skip)
      | ((with_reducible apply u_splitN); exact rfl; exact rfl; all_goals first | (intro hp; try (exfalso; omega)) | skip)
      | ((with_reducible apply u_split); exact rfl; exact rfl; all_goals first | intro hp | skip))
    | ((with_reducible apply gx_id); first
      | ((with_reducible apply v_nil))
      | ((with_reducible apply v_q); exact rfl; exact rfl; exact rfl)
      | ((with_reducible apply v_skip); exact rfl; exact rfl; exact rfl)
      | ((with_reducible apply v_splitD); exact rfl; exact rfl; all_goals first | (intro hp; try (exfalso; omega)) | skip)
      | ((with_reducible apply v_splitN); exact rfl; exact rfl; all_goals first | (intro hp; try (exfalso; omega)) | skip)
      | ((with_reducible apply v_split); exact rfl; exact rfl; all_goals first | intro hp | skip))
    | ((with_reducible apply os_id); first
      | ((with_reducible apply os_x); exact rfl)
      | ((with_reducible apply os_store); exact rfl; exact rfl; exact rfl; exact rfl)
      | ((with_reducible apply os_storeAgg); exact rfl; exact rfl; exact rfl; exact rfl; exact rfl)
      | ((with_reducible apply os_append (hk := app_ok109)); exact rfl; exact rfl; (repeat (first | exact P0 | apply P1)))
      | ((with_reducible apply os_appendNil (hk := app_ok109)); exact rfl; exact rfl))
    | ((with_reducible apply ox_id); first
      | ((with_reducible apply ox_alloc); exact rfl; intro _)
      | ((with_reducible apply ox_box); exact rfl; exact rfl; intro _)
      | ((with_reducible apply ox_boxAgg); exact rfl; intro _)
      | ((with_reducible apply ox_buildSlice); exact rfl; exact rfl; exact rfl; exact rfl))
    | ((with_reducible apply rd_id); first
      | (apply Rd.own; (repeat (first | exact P0 | apply P1)); exact rfl; done)
      | (apply Rd.old; (first | (with_reducible assumption) | exact c0 | exact c1 | exact c2 | exact c3 | exact c4 | exact c5 | exact c6 | exact c7 | exact c8 | exact d0 | exact d1 | exact d2 | exact d3 | exact d4 | exact d5); first | exact List.not_mem_nil | exact m0 | exact m1 | exact m2 | exact m3 | exact m4 | exact m5 | exact m6 | exact m7 | exact m8 | exact m9))
    | ((with_reducible apply t_id); first
      | ((with_reducible apply t_seq))
      | (apply t_region; kernel_rfl)
      | (apply t_drawn; kernel_rfl; decide +kernel)
      | ((with_reducible apply t_condT); exact rfl)
      | ((with_reducible apply t_condF); exact rfl)
      | ((with_reducible apply t_condD); exact rfl; all_goals first | (intro hp; try (exfalso; omega)) | skip)
      | ((with_reducible apply t_condN); exact rfl; all_goals first | (intro hp; try (exfalso; omega)) | skip)
      | ((with_reducible apply t_cond); exact rfl; all_goals first | intro hp | skip)
      | ((with_reducible apply t_ret))
      | ((with_reducible apply t_skip))
      | ((with_reducible apply t_exit))
      | ((with_reducible apply t_block)))
    | with_reducible apply q_thenN
    | with_reducible apply q_thenR
    | with_reducible apply q_blockR
    | with_reducible apply q_blockN
    | with_reducible apply q_thenE
    | ((with_reducible apply q_blockE); exact rfl)
    | ((with_reducible apply q_blockO); exact rfl)
    | exact P0
    | ((with_reducible apply P1))
    | exact Rdn.zero
    | apply Rdn.succ
    | ((with_reducible apply Norm.nil); exact rfl)
    | ((with_reducible apply Norm.cons); exact rfl)
    | ((with_reducible apply end_ret))
    | ((with_reducible apply end_normal))
    | exact rvs_nil
    | ((with_reducible apply rvs_cons))
    | ((with_reducible apply rv_tmp); exact rfl)
    | ((with_reducible apply rv_cell); exact rfl; exact rfl)
    | ((with_reducible apply rv_cellAgg); exact rfl; exact rfl)
    | exact Nat.le_of_ble_eq_true rfl
    | exact (rfl : (_ : Bool) = true)
    | omega
    | (intro _ _; with_reducible apply tl_id)
    | (intro _; with_reducible apply tl_id)
    | (intro _ _; with_reducible apply al_id)
    | (intro _; with_reducible apply al_id))
  rename_i b5 b8 b10 b12
  refine t_range (m := 1) (N := l.length) (α := HN l post kind now) (β := Nat) (κ := Nat) (S := fun ys => ys = hns l post kind now l.length) (Sp := fun pre => pre <+: hns l post kind now l.length)
    (encs := fun x => [.int .i64 (x.1.1 : Int), .agg ⟨[.int .i64 x.1.2.post, .int .i64 x.1.2.kind, .int .i64 x.1.2.seen, .int .i64 x.1.2.came, .int .i64 x.1.2.lo, .int .i64 x.1.2.hi]⟩])
    (hk := [(b3, [.int .i64 now], some (3, 1, 1)), (b2, [.int .i64 kind], some (3, 1, 1)), (b1, [.int .i64 post], some (3, 1, 1)), (b0, [.pointer (some ⟨bd, 0, none⟩)], some (115, 1, 1)), (b10, [.int .i64 0, .int .i64 0], some (26, 2, 1)), (b8, [.int .i64 at_], some (3, 1, 1)), (b5, [.pointer (some ⟨bd, 0, none⟩)], some (115, 1, 1))])
    (KHp b12) (fun pre i => KPi r0 at_ pre i) (fun x b => [(b, [.int .i64 x.1.2.post, .int .i64 x.1.2.kind, .int .i64 x.1.2.seen, .int .i64 x.1.2.came, .int .i64 x.1.2.lo, .int .i64 x.1.2.hi], some (102, 6, 1))])
    (fun x b => [(14, .pointer (some ⟨b, 0, none⟩)), (5, .pointer (some ⟨b5, 0, none⟩)), (8, .pointer (some ⟨b8, 0, none⟩)), (12, .pointer (some ⟨b12, 0, none⟩))]) (fun _ => []) (fun _ _ _ => False) none rfl Try.call143 ?seq rfl ?sub ?ok ?done (fun _ _ _ _ h => h.elim)
  case sub =>
    simp only [KHp, List.cons_append, List.nil_append]
    (repeat (first | exact HpSub.refl _ | (apply HpSub.consE; (repeat (first | exact P0 | apply P1)); exact rfl) | exact HpSub.nil))
  case seq =>
    intro D w1 hw1
    have hx : Ext w w1 := hw1.ext.ext
    simp only [List.cons_append, List.nil_append] at hw1
    refine hand_stops Fence.wide 2 trivial rfl (by omega) b0 b1 b2 b3 bd A n cp l post kind now hn _ (.inr (by simp)) (.inr (by simp)) (.inr (by simp)) (.inr (by simp)) (.inl ⟨hD.2.2, List.not_mem_nil⟩) (fun h0 b o h => .inl ⟨hAl h0 b o h, List.not_mem_nil⟩) w1 ⟨hr.ext hx, ?_, ?_, ?_, ?_, hx.cell (hD.1 0)⟩
    · exact hw1.cellAt (by (repeat (first | exact P0 | apply P1))) rfl
    · exact hw1.cellAt (by (repeat (first | exact P0 | apply P1))) rfl
    · exact hw1.cellAt (by (repeat (first | exact P0 | apply P1))) rfl
    · exact hw1.cellAt (by (repeat (first | exact P0 | apply P1))) rfl
  case ok =>
    refine ⟨fun _ => rfl, rfl, fun x W => ?_, fun x b i k W D hb hw _ y hy z hz => ?_, fun l' pre x i b W D hi hw hlt hl' => ?_⟩
    · refine sl0_region (by kernel_rfl) ?_
      repeat' (first
        | ((with_reducible apply oq_id); first
          | (apply oq_fn; exact rfl; first | exact trivial | (refine ⟨?_, ?_⟩ <;> omega) | (refine ⟨?_, ?_, ?_⟩ <;> omega) | omega | skip)
          | ((with_reducible apply oq_load); exact rfl; exact rfl)
          | ((with_reducible apply oq_loadAgg); exact rfl; exact rfl)
          | ((with_reducible apply oq_build); exact rfl; exact rfl; exact rfl)
          | ((with_reducible apply oq_buildA); exact rfl; exact rfl; exact rfl; exact rfl)
          | ((with_reducible apply oq_fieldAgg); exact rfl; exact rfl; exact rfl)
          | ((with_reducible apply oq_indexAgg); exact rfl; exact rfl; exact rfl; exact rfl))
        | ((with_reducible apply tl_id); first
          | ((with_reducible apply tl_nil))
          | ((with_reducible apply u_q); exact rfl; exact rfl; exact rfl; exact rfl)
          | ((with_reducible apply u_s0); exact rfl; exact rfl)
          | ((with_reducible apply u_s); exact rfl; exact rfl; exact rfl)
          | ((with_reducible apply u_skip); exact rfl; exact rfl; exact rfl)
          | ((with_reducible apply u_splitD); exact rfl; exact rfl; all_goals first | (intro hp; try (exfalso; omega)) | skip)
          | ((with_reducible apply u_splitN); exact rfl; exact rfl; all_goals first | (intro hp; try (exfalso; omega)) | skip)
          | ((with_reducible apply u_split); exact rfl; exact rfl; all_goals first | intro hp | skip))
        | ((with_reducible apply gx_id); first
          | ((with_reducible apply v_nil))
          | ((with_reducible apply v_q); exact rfl; exact rfl; exact rfl)
          | ((with_reducible apply v_skip); exact rfl; exact rfl; exact rfl)
          | ((with_reducible apply v_splitD); exact rfl; exact rfl; all_goals first | (intro hp; try (exfalso; omega)) | skip)
          | ((with_reducible apply v_splitN); exact rfl; exact rfl; all_goals first | (intro hp; try (exfalso; omega)) | skip)
          | ((with_reducible apply v_split); exact rfl; exact rfl; all_goals first | intro hp | skip))
        | ((with_reducible apply os_id); first
          | ((with_reducible apply os_x); exact rfl)
          | ((with_reducible apply os_store); exact rfl; exact rfl; exact rfl; exact rfl)
          | ((with_reducible apply os_storeAgg); exact rfl; exact rfl; exact rfl; exact rfl; exact rfl)
          | ((with_reducible apply os_append (hk := app_ok109)); exact rfl; exact rfl; (repeat (first | exact P0 | apply P1)))
          | ((with_reducible apply os_appendNil (hk := app_ok109)); exact rfl; exact rfl))
        | ((with_reducible apply ox_id); first
          | ((with_reducible apply ox_alloc); exact rfl; intro _)
          | ((with_reducible apply ox_box); exact rfl; exact rfl; intro _)
          | ((with_reducible apply ox_boxAgg); exact rfl; intro _)
          | ((with_reducible apply ox_buildSlice); exact rfl; exact rfl; exact rfl; exact rfl))
        | ((with_reducible apply rd_id); first
          | (apply Rd.own; (repeat (first | exact P0 | apply P1)); exact rfl; done)
          | (apply Rd.old; (first | (with_reducible assumption) | exact c0 | exact c1 | exact c2 | exact c3 | exact c4 | exact c5 | exact c6 | exact c7 | exact c8 | exact d0 | exact d1 | exact d2 | exact d3 | exact d4 | exact d5); first | exact List.not_mem_nil | exact m0 | exact m1 | exact m2 | exact m3 | exact m4 | exact m5 | exact m6 | exact m7 | exact m8 | exact m9))
        | ((with_reducible apply t_id); first
          | ((with_reducible apply t_seq))
          | (apply t_region; kernel_rfl)
          | (apply t_drawn; kernel_rfl; decide +kernel)
          | ((with_reducible apply t_condT); exact rfl)
          | ((with_reducible apply t_condF); exact rfl)
          | ((with_reducible apply t_condD); exact rfl; all_goals first | (intro hp; try (exfalso; omega)) | skip)
          | ((with_reducible apply t_condN); exact rfl; all_goals first | (intro hp; try (exfalso; omega)) | skip)
          | ((with_reducible apply t_cond); exact rfl; all_goals first | intro hp | skip)
          | ((with_reducible apply t_ret))
          | ((with_reducible apply t_skip))
          | ((with_reducible apply t_exit))
          | ((with_reducible apply t_block)))
        | with_reducible apply q_thenN
        | with_reducible apply q_thenR
        | with_reducible apply q_blockR
        | with_reducible apply q_blockN
        | with_reducible apply q_thenE
        | ((with_reducible apply q_blockE); exact rfl)
        | ((with_reducible apply q_blockO); exact rfl)
        | exact P0
        | ((with_reducible apply P1))
        | exact Rdn.zero
        | apply Rdn.succ
        | ((with_reducible apply Norm.nil); exact rfl)
        | ((with_reducible apply Norm.cons); exact rfl)
        | ((with_reducible apply end_ret))
        | ((with_reducible apply end_normal))
        | exact rvs_nil
        | ((with_reducible apply rvs_cons))
        | ((with_reducible apply rv_tmp); exact rfl)
        | ((with_reducible apply rv_cell); exact rfl; exact rfl)
        | ((with_reducible apply rv_cellAgg); exact rfl; exact rfl)
        | exact Nat.le_of_ble_eq_true rfl
        | exact (rfl : (_ : Bool) = true)
        | omega
        | (intro _ _; with_reducible apply tl_id)
        | (intro _; with_reducible apply tl_id)
        | (intro _ _; with_reducible apply al_id)
        | (intro _; with_reducible apply al_id))
      rename_i bx
      refine ⟨bx, ?_, ?_⟩
      · (repeat (first | exact FrSub.nil | (apply FrSub.cons; exact rfl)))
      · (repeat (first | exact HpSub.refl _ | (apply HpSub.consE; (repeat (first | exact P0 | apply P1)); exact rfl) | exact HpSub.nil))
    · obtain rfl : y = _ := by simpa using hy
      have h1 := (hb.blk _ hy).2
      have h2 := (hw.blk z hz).2
      rcases i with _ | ⟨g, cap, ls⟩ <;> simp only [KHp, List.cons_append, List.nil_append, List.mem_cons, List.not_mem_nil, or_false] at hz
      all_goals (repeat' (first | (rcases hz with rfl | hz) | subst hz)) <;> exact Blk.ne (h1 : Blk W _ _ (some (102, 6, 1))) (h2 : Blk W _ _ (some (_, _, _))) (by decide)
    · have hx : Ext w W := hw.ext.ext
      have hDW : Desk W bd A n cp p t v := hD.ext hx
      have hbd : bd < w.heap.size := hD.2.2
      have hxok : x.1.2.ok = true := hok _ (List.mem_of_getElem? x.2.1)
      have hxk : x.1.2.kind = kind := by have := x.2.2; simp [News.hand] at this; exact this.1.2
      have hown : ∀ y ∈ ([(b, [.int .i64 x.1.2.post, .int .i64 x.1.2.kind, .int .i64 x.1.2.seen, .int .i64 x.1.2.came, .int .i64 x.1.2.lo, .int .i64 x.1.2.hi], some (102, 6, 1))] ++ KHp b12 i : Hp), w.heap.size ≤ y.1 := fun y hy => by
        rcases (hw.blk y (List.mem_append_left _ hy)).1 with h1 | h1
        · exact h1
        · exact (List.not_mem_nil h1).elim
      have HS : ∀ D w1, Has W ⟨(([(b, [.int .i64 x.1.2.post, .int .i64 x.1.2.kind, .int .i64 x.1.2.seen, .int .i64 x.1.2.came, .int .i64 x.1.2.lo, .int .i64 x.1.2.hi], some (102, 6, 1))] ++ KHp b12 i : Hp)).map Prod.fst, D⟩ ([(b, [.int .i64 x.1.2.post, .int .i64 x.1.2.kind, .int .i64 x.1.2.seen, .int .i64 x.1.2.came, .int .i64 x.1.2.lo, .int .i64 x.1.2.hi], some (102, 6, 1))] ++ KHp b12 i) w1 → SaysC bd x.1.2 at_ r0 w1 :=
        fun D w1 h1 => says_m hDW hxok ha ha1 p0 p1 t0 t1 v0 v1 (by rw [hxk]; exact hrt) h1.ext fun y hy e => by
          have := hown y hy
          omega
      have m5 := hw.off (b := b5) (by simp)
      have m8 := hw.off (b := b8) (by simp)
      rcases i with _ | ⟨g, cap, ls⟩
      all_goals simp only [KHp, List.cons_append, List.nil_append] at hw HS m5 m8 ⊢
      · have c5 : W.cell? ⟨b5, 0, none⟩ = some (.pointer (some ⟨bd, 0, none⟩)) := hw.cellAt (by (repeat (first | exact P0 | apply P1))) rfl
        have c8 : W.cell? ⟨b8, 0, none⟩ = some (.int .i64 at_) := hw.cellAt (by (repeat (first | exact P0 | apply P1))) rfl
        repeat' (first
          | ((with_reducible apply oq_id); first
            | (apply oq_fn; exact rfl; first | exact trivial | (refine ⟨?_, ?_⟩ <;> omega) | (refine ⟨?_, ?_, ?_⟩ <;> omega) | omega | skip)
            | ((with_reducible apply oq_load); exact rfl; exact rfl)
            | ((with_reducible apply oq_loadAgg); exact rfl; exact rfl)
            | ((with_reducible apply oq_call (k := 123) (hc := Try.call123)); exact rfl; exact rfl; exact fun D w1 hw1 => HS _ w1 hw1)
            | ((with_reducible apply oq_build); exact rfl; exact rfl; exact rfl)
            | ((with_reducible apply oq_buildA); exact rfl; exact rfl; exact rfl; exact rfl)
            | ((with_reducible apply oq_fieldAgg); exact rfl; exact rfl; exact rfl)
            | ((with_reducible apply oq_indexAgg); exact rfl; exact rfl; exact rfl; exact rfl))
          | ((with_reducible apply tl_id); first
            | ((with_reducible apply tl_nil))
            | ((with_reducible apply u_q); exact rfl; exact rfl; exact rfl; exact rfl)
            | ((with_reducible apply u_s0); exact rfl; exact rfl)
            | ((with_reducible apply u_s); exact rfl; exact rfl; exact rfl)
            | ((with_reducible apply u_skip); exact rfl; exact rfl; exact rfl)
            | ((with_reducible apply u_splitD); exact rfl; exact rfl; all_goals first | (intro hp; try (exfalso; omega)) | skip)
            | ((with_reducible apply u_splitN); exact rfl; exact rfl; all_goals first | (intro hp; try (exfalso; omega)) | skip)
            | ((with_reducible apply u_split); exact rfl; exact rfl; all_goals first | intro hp | skip))
          | ((with_reducible apply gx_id); first
            | ((with_reducible apply v_nil))
            | ((with_reducible apply v_q); exact rfl; exact rfl; exact rfl)
            | ((with_reducible apply v_skip); exact rfl; exact rfl; exact rfl)
            | ((with_reducible apply v_splitD); exact rfl; exact rfl; all_goals first | (intro hp; try (exfalso; omega)) | skip)
            | ((with_reducible apply v_splitN); exact rfl; exact rfl; all_goals first | (intro hp; try (exfalso; omega)) | skip)
            | ((with_reducible apply v_split); exact rfl; exact rfl; all_goals first | intro hp | skip))
          | ((with_reducible apply os_id); first
            | ((with_reducible apply os_x); exact rfl)
            | ((with_reducible apply os_store); exact rfl; exact rfl; exact rfl; exact rfl)
            | ((with_reducible apply os_storeAgg); exact rfl; exact rfl; exact rfl; exact rfl; exact rfl)
            | ((with_reducible apply os_append (hk := app_ok109)); exact rfl; exact rfl; (repeat (first | exact P0 | apply P1)))
            | ((with_reducible apply os_appendNil (hk := app_ok109)); exact rfl; exact rfl))
          | ((with_reducible apply ox_id); first
            | ((with_reducible apply ox_alloc); exact rfl; intro _)
            | ((with_reducible apply ox_box); exact rfl; exact rfl; intro _)
            | ((with_reducible apply ox_boxAgg); exact rfl; intro _)
            | ((with_reducible apply ox_buildSlice); exact rfl; exact rfl; exact rfl; exact rfl))
          | ((with_reducible apply ai_id); first
            | ((with_reducible apply ai_q); exact rfl; exact rfl; exact rfl; exact rfl; exact rfl)
            | ((with_reducible apply ai_x); exact rfl; exact rfl; exact rfl; exact rfl; exact rfl)
            | ((with_reducible apply ai_s0); exact rfl; exact rfl; exact rfl; exact rfl)
            | ((with_reducible apply ai_s); exact rfl; exact rfl; exact rfl; exact rfl; exact rfl))
          | ((with_reducible apply rd_id); first
            | (apply Rd.own; (repeat (first | exact P0 | apply P1)); exact rfl; done)
            | (apply Rd.old; (first | (with_reducible assumption) | exact c0 | exact c1 | exact c2 | exact c3 | exact c4 | exact c5 | exact c6 | exact c7 | exact c8 | exact d0 | exact d1 | exact d2 | exact d3 | exact d4 | exact d5); first | exact List.not_mem_nil | exact m0 | exact m1 | exact m2 | exact m3 | exact m4 | exact m5 | exact m6 | exact m7 | exact m8 | exact m9))
          | ((with_reducible apply t_id); first
            | ((with_reducible apply t_seq))
            | (apply t_region; kernel_rfl)
            | (apply t_drawn; kernel_rfl; decide +kernel)
            | ((with_reducible apply t_condT); exact rfl)
            | ((with_reducible apply t_condF); exact rfl)
            | ((with_reducible apply t_condD); exact rfl; all_goals first | (intro hp; try (exfalso; omega)) | skip)
            | ((with_reducible apply t_condN); exact rfl; all_goals first | (intro hp; try (exfalso; omega)) | skip)
            | ((with_reducible apply t_cond); exact rfl; all_goals first | intro hp | skip)
            | ((with_reducible apply t_ret))
            | ((with_reducible apply t_skip))
            | ((with_reducible apply t_exit))
            | ((with_reducible apply t_block)))
          | with_reducible apply q_thenN
          | with_reducible apply q_thenR
          | with_reducible apply q_blockR
          | with_reducible apply q_blockN
          | with_reducible apply q_thenE
          | ((with_reducible apply q_blockE); exact rfl)
          | ((with_reducible apply q_blockO); exact rfl)
          | exact P0
          | ((with_reducible apply P1))
          | exact Rdn.zero
          | apply Rdn.succ
          | ((with_reducible apply Norm.nil); exact rfl)
          | ((with_reducible apply Norm.cons); exact rfl)
          | ((with_reducible apply end_ret))
          | ((with_reducible apply end_normal))
          | exact rvs_nil
          | ((with_reducible apply rvs_cons))
          | ((with_reducible apply rv_tmp); exact rfl)
          | ((with_reducible apply rv_cell); exact rfl; exact rfl)
          | ((with_reducible apply rv_cellAgg); exact rfl; exact rfl)
          | (apply t_mix (id := 4) [0, 1, 2, 3, 4] 3 #[false, false, false, false, false, false, true, true]; kernel_rfl; kernel_rfl; exact rfl)
          | ((with_reducible apply al_id); first | (apply al_done; decide +kernel) | (apply al_one 5; decide +kernel) | (apply al_one 6; decide +kernel) | (apply al_one 7; decide +kernel))
          | exact Nat.le_of_ble_eq_true rfl
          | exact (rfl : (_ : Bool) = true)
          | omega
          | (intro _ _; with_reducible apply tl_id)
          | (intro _; with_reducible apply tl_id)
          | (intro _ _; with_reducible apply al_id)
          | (intro _; with_reducible apply al_id))
        rename_i bs bg cg
        have hpre : pre = [] := hi
        subst hpre
        refine ⟨some (bg, cg, [(sayLo r0 at_ x.1.2, sayHi r0 at_ x.1.2)]), ⟨rfl, by simp⟩, ?_⟩
        simp only [KHp]
        (repeat (first | exact HpSub.refl _ | (apply HpSub.consE; (repeat (first | exact P0 | apply P1)); exact rfl) | exact HpSub.nil))
      · have c5 : W.cell? ⟨b5, 0, none⟩ = some (.pointer (some ⟨bd, 0, none⟩)) := hw.cellAt (by (repeat (first | exact P0 | apply P1))) rfl
        have c8 : W.cell? ⟨b8, 0, none⟩ = some (.int .i64 at_) := hw.cellAt (by (repeat (first | exact P0 | apply P1))) rfl
        have hll : ls.length < l.length := by
          have h1 : ls = saysOf r0 at_ pre := hi.1
          rw [h1]; simpa [saysOf] using hlt
        repeat' (first
          | ((with_reducible apply oq_id); first
            | (apply oq_fn; exact rfl; first | exact trivial | (refine ⟨?_, ?_⟩ <;> omega) | (refine ⟨?_, ?_, ?_⟩ <;> omega) | omega | skip)
            | ((with_reducible apply oq_load); exact rfl; exact rfl)
            | ((with_reducible apply oq_loadAgg); exact rfl; exact rfl)
            | ((with_reducible apply oq_call (k := 123) (hc := Try.call123)); exact rfl; exact rfl; exact fun D w1 hw1 => HS _ w1 hw1)
            | ((with_reducible apply oq_build); exact rfl; exact rfl; exact rfl)
            | ((with_reducible apply oq_buildA); exact rfl; exact rfl; exact rfl; exact rfl)
            | ((with_reducible apply oq_fieldAgg); exact rfl; exact rfl; exact rfl)
            | ((with_reducible apply oq_indexAgg); exact rfl; exact rfl; exact rfl; exact rfl))
          | ((with_reducible apply tl_id); first
            | ((with_reducible apply tl_nil))
            | ((with_reducible apply u_q); exact rfl; exact rfl; exact rfl; exact rfl)
            | ((with_reducible apply u_s0); exact rfl; exact rfl)
            | ((with_reducible apply u_s); exact rfl; exact rfl; exact rfl)
            | ((with_reducible apply u_skip); exact rfl; exact rfl; exact rfl)
            | ((with_reducible apply u_splitD); exact rfl; exact rfl; all_goals first | (intro hp; try (exfalso; omega)) | skip)
            | ((with_reducible apply u_splitN); exact rfl; exact rfl; all_goals first | (intro hp; try (exfalso; omega)) | skip)
            | ((with_reducible apply u_split); exact rfl; exact rfl; all_goals first | intro hp | skip))
          | ((with_reducible apply gx_id); first
            | ((with_reducible apply v_nil))
            | ((with_reducible apply v_q); exact rfl; exact rfl; exact rfl)
            | ((with_reducible apply v_skip); exact rfl; exact rfl; exact rfl)
            | ((with_reducible apply v_splitD); exact rfl; exact rfl; all_goals first | (intro hp; try (exfalso; omega)) | skip)
            | ((with_reducible apply v_splitN); exact rfl; exact rfl; all_goals first | (intro hp; try (exfalso; omega)) | skip)
            | ((with_reducible apply v_split); exact rfl; exact rfl; all_goals first | intro hp | skip))
          | ((with_reducible apply os_id); first
            | ((with_reducible apply os_x); exact rfl)
            | ((with_reducible apply os_store); exact rfl; exact rfl; exact rfl; exact rfl)
            | ((with_reducible apply os_storeAgg); exact rfl; exact rfl; exact rfl; exact rfl; exact rfl)
            | ((with_reducible apply os_append (hk := app_ok109)); exact rfl; exact rfl; (repeat (first | exact P0 | apply P1)))
            | ((with_reducible apply os_appendNil (hk := app_ok109)); exact rfl; exact rfl))
          | ((with_reducible apply ox_id); first
            | ((with_reducible apply ox_alloc); exact rfl; intro _)
            | ((with_reducible apply ox_box); exact rfl; exact rfl; intro _)
            | ((with_reducible apply ox_boxAgg); exact rfl; intro _)
            | ((with_reducible apply ox_buildSlice); exact rfl; exact rfl; exact rfl; exact rfl))
          | ((with_reducible apply ai_id); first
            | ((with_reducible apply ai_q); exact rfl; exact rfl; exact rfl; exact rfl; exact rfl)
            | ((with_reducible apply ai_x); exact rfl; exact rfl; exact rfl; exact rfl; exact rfl)
            | ((with_reducible apply ai_s0); exact rfl; exact rfl; exact rfl; exact rfl)
            | ((with_reducible apply ai_s); exact rfl; exact rfl; exact rfl; exact rfl; exact rfl))
          | ((with_reducible apply rd_id); first
            | (apply Rd.own; (repeat (first | exact P0 | apply P1)); exact rfl; done)
            | (apply Rd.old; (first | (with_reducible assumption) | exact c0 | exact c1 | exact c2 | exact c3 | exact c4 | exact c5 | exact c6 | exact c7 | exact c8 | exact d0 | exact d1 | exact d2 | exact d3 | exact d4 | exact d5); first | exact List.not_mem_nil | exact m0 | exact m1 | exact m2 | exact m3 | exact m4 | exact m5 | exact m6 | exact m7 | exact m8 | exact m9))
          | ((with_reducible apply t_id); first
            | ((with_reducible apply t_seq))
            | (apply t_region; kernel_rfl)
            | (apply t_drawn; kernel_rfl; decide +kernel)
            | ((with_reducible apply t_condT); exact rfl)
            | ((with_reducible apply t_condF); exact rfl)
            | ((with_reducible apply t_condD); exact rfl; all_goals first | (intro hp; try (exfalso; omega)) | skip)
            | ((with_reducible apply t_condN); exact rfl; all_goals first | (intro hp; try (exfalso; omega)) | skip)
            | ((with_reducible apply t_cond); exact rfl; all_goals first | intro hp | skip)
            | ((with_reducible apply t_ret))
            | ((with_reducible apply t_skip))
            | ((with_reducible apply t_exit))
            | ((with_reducible apply t_block)))
          | with_reducible apply q_thenN
          | with_reducible apply q_thenR
          | with_reducible apply q_blockR
          | with_reducible apply q_blockN
          | with_reducible apply q_thenE
          | ((with_reducible apply q_blockE); exact rfl)
          | ((with_reducible apply q_blockO); exact rfl)
          | exact P0
          | ((with_reducible apply P1))
          | exact Rdn.zero
          | apply Rdn.succ
          | ((with_reducible apply Norm.nil); exact rfl)
          | ((with_reducible apply Norm.cons); exact rfl)
          | ((with_reducible apply end_ret))
          | ((with_reducible apply end_normal))
          | exact rvs_nil
          | ((with_reducible apply rvs_cons))
          | ((with_reducible apply rv_tmp); exact rfl)
          | ((with_reducible apply rv_cell); exact rfl; exact rfl)
          | ((with_reducible apply rv_cellAgg); exact rfl; exact rfl)
          | (apply t_mix (id := 4) [0, 1, 2, 3, 4] 3 #[false, false, false, false, false, false, true, true]; kernel_rfl; kernel_rfl; exact rfl)
          | ((with_reducible apply al_id); first | (apply al_done; decide +kernel) | (apply al_one 5; decide +kernel) | (apply al_one 6; decide +kernel) | (apply al_one 7; decide +kernel))
          | exact Nat.le_of_ble_eq_true rfl
          | exact (rfl : (_ : Bool) = true)
          | omega
          | (intro _ _; with_reducible apply tl_id)
          | (intro _; with_reducible apply tl_id)
          | (intro _ _; with_reducible apply al_id)
          | (intro _; with_reducible apply al_id))
        · exact flat_len ls
        rename_i bs bg cg
        refine ⟨some (bg, cg, ls ++ [(sayLo r0 at_ x.1.2, sayHi r0 at_ x.1.2)]), ⟨?_, by simp⟩, ?_⟩
        · have h1 : ls = saysOf r0 at_ pre := hi.1
          rw [h1]; simp [saysOf]
        simp only [KHp]
        (repeat (first | exact HpSub.refl _ | (apply HpSub.consE; (repeat (first | exact P0 | apply P1)); first | exact rfl | (first | rw [flat_snoc] | (focus (simp; done)))) | exact HpSub.nil))
  case done =>
    rintro xs i rfl hi
    have hfil := hns_filter l post kind now
    have HC : ∀ w1, Ext w w1 → Calls Try.prog 69 #[.pointer (some ⟨bd, 0, none⟩), .int .i64 post, .int .i64 kind, .int .i64 now] w1 fun e w' => e = .returned (confV (conflictF r0 l post kind now)) ∧ Ext w1 w' := fun w1 hx =>
      conflict_T bd A n cp p t v l post kind now w1 (hr.ext hx) hn (hD.ext hx) hok p0 p1 t0 t1 v0 v1 r0 hrt
    rcases i with _ | ⟨g, cap, ls⟩
    · have h0 : hns l post kind now l.length = [] := hi
      have hv : knownF r0 l post kind at_ now = (0, 0, 6) := by
        unfold knownF
        rw [← hfil, h0]; rfl
      simp only [KHp, List.cons_append, List.nil_append]
      repeat' (first
        | ((with_reducible apply oq_id); first
          | (apply oq_fn; exact rfl; first | exact trivial | (refine ⟨?_, ?_⟩ <;> omega) | (refine ⟨?_, ?_, ?_⟩ <;> omega) | omega | skip)
          | ((with_reducible apply oq_load); exact rfl; exact rfl)
          | ((with_reducible apply oq_loadAgg); exact rfl; exact rfl)
          | ((with_reducible apply oq_build); exact rfl; exact rfl; exact rfl)
          | ((with_reducible apply oq_buildA); exact rfl; exact rfl; exact rfl; exact rfl)
          | ((with_reducible apply oq_fieldAgg); exact rfl; exact rfl; exact rfl)
          | ((with_reducible apply oq_indexAgg); exact rfl; exact rfl; exact rfl; exact rfl))
        | ((with_reducible apply tl_id); first
          | ((with_reducible apply tl_nil))
          | ((with_reducible apply u_q); exact rfl; exact rfl; exact rfl; exact rfl)
          | ((with_reducible apply u_s0); exact rfl; exact rfl)
          | ((with_reducible apply u_s); exact rfl; exact rfl; exact rfl)
          | ((with_reducible apply u_skip); exact rfl; exact rfl; exact rfl)
          | ((with_reducible apply u_splitD); exact rfl; exact rfl; all_goals first | (intro hp; try (exfalso; omega)) | skip)
          | ((with_reducible apply u_splitN); exact rfl; exact rfl; all_goals first | (intro hp; try (exfalso; omega)) | skip)
          | ((with_reducible apply u_split); exact rfl; exact rfl; all_goals first | intro hp | skip))
        | ((with_reducible apply gx_id); first
          | ((with_reducible apply v_nil))
          | ((with_reducible apply v_q); exact rfl; exact rfl; exact rfl)
          | ((with_reducible apply v_skip); exact rfl; exact rfl; exact rfl)
          | ((with_reducible apply v_splitD); exact rfl; exact rfl; all_goals first | (intro hp; try (exfalso; omega)) | skip)
          | ((with_reducible apply v_splitN); exact rfl; exact rfl; all_goals first | (intro hp; try (exfalso; omega)) | skip)
          | ((with_reducible apply v_split); exact rfl; exact rfl; all_goals first | intro hp | skip))
        | ((with_reducible apply os_id); first
          | ((with_reducible apply os_x); exact rfl)
          | ((with_reducible apply os_store); exact rfl; exact rfl; exact rfl; exact rfl)
          | ((with_reducible apply os_storeAgg); exact rfl; exact rfl; exact rfl; exact rfl; exact rfl)
          | ((with_reducible apply os_append (hk := app_ok109)); exact rfl; exact rfl; (repeat (first | exact P0 | apply P1)))
          | ((with_reducible apply os_appendNil (hk := app_ok109)); exact rfl; exact rfl))
        | ((with_reducible apply ox_id); first
          | ((with_reducible apply ox_alloc); exact rfl; intro _)
          | ((with_reducible apply ox_box); exact rfl; exact rfl; intro _)
          | ((with_reducible apply ox_boxAgg); exact rfl; intro _)
          | ((with_reducible apply ox_buildSlice); exact rfl; exact rfl; exact rfl; exact rfl))
        | ((with_reducible apply rd_id); first
          | (apply Rd.own; (repeat (first | exact P0 | apply P1)); exact rfl; done)
          | (apply Rd.old; (first | (with_reducible assumption) | exact c0 | exact c1 | exact c2 | exact c3 | exact c4 | exact c5 | exact c6 | exact c7 | exact c8 | exact d0 | exact d1 | exact d2 | exact d3 | exact d4 | exact d5); first | exact List.not_mem_nil | exact m0 | exact m1 | exact m2 | exact m3 | exact m4 | exact m5 | exact m6 | exact m7 | exact m8 | exact m9))
        | ((with_reducible apply t_id); first
          | ((with_reducible apply t_seq))
          | (apply t_region; kernel_rfl)
          | (apply t_drawn; kernel_rfl; decide +kernel)
          | ((with_reducible apply t_condT); exact rfl)
          | ((with_reducible apply t_condF); exact rfl)
          | ((with_reducible apply t_condD); exact rfl; all_goals first | (intro hp; try (exfalso; omega)) | skip)
          | ((with_reducible apply t_condN); exact rfl; all_goals first | (intro hp; try (exfalso; omega)) | skip)
          | ((with_reducible apply t_cond); exact rfl; all_goals first | intro hp | skip)
          | ((with_reducible apply t_ret))
          | ((with_reducible apply t_skip))
          | ((with_reducible apply t_exit))
          | ((with_reducible apply t_block)))
        | with_reducible apply q_thenN
        | with_reducible apply q_thenR
        | with_reducible apply q_blockR
        | with_reducible apply q_blockN
        | with_reducible apply q_thenE
        | ((with_reducible apply q_blockE); exact rfl)
        | ((with_reducible apply q_blockO); exact rfl)
        | exact P0
        | ((with_reducible apply P1))
        | exact Rdn.zero
        | apply Rdn.succ
        | ((with_reducible apply Norm.nil); exact rfl)
        | ((with_reducible apply Norm.cons); exact rfl)
        | ((with_reducible apply end_ret))
        | ((with_reducible apply end_normal))
        | exact rvs_nil
        | ((with_reducible apply rvs_cons))
        | ((with_reducible apply rv_tmp); exact rfl)
        | ((with_reducible apply rv_cell); exact rfl; exact rfl)
        | ((with_reducible apply rv_cellAgg); exact rfl; exact rfl)
        | exact Nat.le_of_ble_eq_true rfl
        | exact (rfl : (_ : Bool) = true)
        | omega
        | (intro _ _; with_reducible apply tl_id)
        | (intro _; with_reducible apply tl_id)
        | (intro _ _; with_reducible apply al_id)
        | (intro _; with_reducible apply al_id))
      rw [hv]; rfl
    · obtain ⟨h0, h1⟩ : ls = saysOf r0 at_ (hns l post kind now l.length) ∧ ls ≠ [] := hi
      have hne : ¬ l.filter (News.hand post kind now) = [] := by
        rw [← hfil]
        intro h2
        have h3 := congrArg List.length h2
        apply h1
        rw [h0]
        unfold saysOf
        rw [List.map_eq_nil_iff]
        exact List.map_eq_nil_iff.1 h2
      have hls : ls = (l.filter (News.hand post kind now)).map fun x => (sayLo r0 at_ x, sayHi r0 at_ x) := by
        rw [h0, ← hfil, List.map_map]; rfl
      have hlen2 : ls.length ≤ l.length := by
        rw [hls, List.length_map]; exact List.length_filter_le _ _
      have hpos : 0 < ls.length := by cases ls with | nil => exact absurd rfl h1 | cons _ _ => simp
      cases hcf : conflictF r0 l post kind now with
      | some ik =>
        have hv : knownF r0 l post kind at_ now = (0, 0, 24) := by
          unfold knownF
          simp only [hne, if_false, hcf]; rfl
        rw [hcf] at HC
        simp only [KHp, List.cons_append, List.nil_append]
        repeat' (first
          | ((with_reducible apply oq_id); first
            | (apply oq_fn; exact rfl; first | exact trivial | (refine ⟨?_, ?_⟩ <;> omega) | (refine ⟨?_, ?_, ?_⟩ <;> omega) | omega | skip)
            | ((with_reducible apply oq_load); exact rfl; exact rfl)
            | ((with_reducible apply oq_loadAgg); exact rfl; exact rfl)
            | ((with_reducible apply oq_call (k := 69) (hc := Try.call69)); exact rfl; exact rfl; exact fun D w1 hw1 => HC w1 hw1.ext.ext)
            | ((with_reducible apply oq_call (k := 79) (hc := Try.call79)); exact rfl; exact rfl; exact fun D w1 hw1 => tog_rows rfl (by omega) hs hw1 (by (repeat (first | exact P0 | apply P1))))
            | ((with_reducible apply oq_build); exact rfl; exact rfl; exact rfl)
            | ((with_reducible apply oq_buildA); exact rfl; exact rfl; exact rfl; exact rfl)
            | ((with_reducible apply oq_fieldAgg); exact rfl; exact rfl; exact rfl)
            | ((with_reducible apply oq_indexAgg); exact rfl; exact rfl; exact rfl; exact rfl))
          | ((with_reducible apply tl_id); first
            | ((with_reducible apply tl_nil))
            | ((with_reducible apply u_q); exact rfl; exact rfl; exact rfl; exact rfl)
            | ((with_reducible apply u_s0); exact rfl; exact rfl)
            | ((with_reducible apply u_s); exact rfl; exact rfl; exact rfl)
            | ((with_reducible apply u_skip); exact rfl; exact rfl; exact rfl)
            | ((with_reducible apply u_splitD); exact rfl; exact rfl; all_goals first | (intro hp; try (exfalso; omega)) | skip)
            | ((with_reducible apply u_splitN); exact rfl; exact rfl; all_goals first | (intro hp; try (exfalso; omega)) | skip)
            | ((with_reducible apply u_split); exact rfl; exact rfl; all_goals first | intro hp | skip))
          | ((with_reducible apply gx_id); first
            | ((with_reducible apply v_nil))
            | ((with_reducible apply v_q); exact rfl; exact rfl; exact rfl)
            | ((with_reducible apply v_skip); exact rfl; exact rfl; exact rfl)
            | ((with_reducible apply v_splitD); exact rfl; exact rfl; all_goals first | (intro hp; try (exfalso; omega)) | skip)
            | ((with_reducible apply v_splitN); exact rfl; exact rfl; all_goals first | (intro hp; try (exfalso; omega)) | skip)
            | ((with_reducible apply v_split); exact rfl; exact rfl; all_goals first | intro hp | skip))
          | ((with_reducible apply os_id); first
            | ((with_reducible apply os_x); exact rfl)
            | ((with_reducible apply os_store); exact rfl; exact rfl; exact rfl; exact rfl)
            | ((with_reducible apply os_storeAgg); exact rfl; exact rfl; exact rfl; exact rfl; exact rfl)
            | ((with_reducible apply os_append (hk := app_ok109)); exact rfl; exact rfl; (repeat (first | exact P0 | apply P1)))
            | ((with_reducible apply os_appendNil (hk := app_ok109)); exact rfl; exact rfl))
          | ((with_reducible apply ox_id); first
            | ((with_reducible apply ox_alloc); exact rfl; intro _)
            | ((with_reducible apply ox_box); exact rfl; exact rfl; intro _)
            | ((with_reducible apply ox_boxAgg); exact rfl; intro _)
            | ((with_reducible apply ox_buildSlice); exact rfl; exact rfl; exact rfl; exact rfl))
          | ((with_reducible apply rd_id); first
            | (apply Rd.own; (repeat (first | exact P0 | apply P1)); exact rfl; done)
            | (apply Rd.old; (first | (with_reducible assumption) | exact c0 | exact c1 | exact c2 | exact c3 | exact c4 | exact c5 | exact c6 | exact c7 | exact c8 | exact d0 | exact d1 | exact d2 | exact d3 | exact d4 | exact d5); first | exact List.not_mem_nil | exact m0 | exact m1 | exact m2 | exact m3 | exact m4 | exact m5 | exact m6 | exact m7 | exact m8 | exact m9))
          | ((with_reducible apply t_id); first
            | ((with_reducible apply t_seq))
            | (apply t_region; kernel_rfl)
            | (apply t_drawn; kernel_rfl; decide +kernel)
            | ((with_reducible apply t_condT); exact rfl)
            | ((with_reducible apply t_condF); exact rfl)
            | ((with_reducible apply t_condD); exact rfl; all_goals first | (intro hp; try (exfalso; omega)) | skip)
            | ((with_reducible apply t_condN); exact rfl; all_goals first | (intro hp; try (exfalso; omega)) | skip)
            | ((with_reducible apply t_cond); exact rfl; all_goals first | intro hp | skip)
            | ((with_reducible apply t_ret))
            | ((with_reducible apply t_skip))
            | ((with_reducible apply t_exit))
            | ((with_reducible apply t_block)))
          | with_reducible apply q_thenN
          | with_reducible apply q_thenR
          | with_reducible apply q_blockR
          | with_reducible apply q_blockN
          | with_reducible apply q_thenE
          | ((with_reducible apply q_blockE); exact rfl)
          | ((with_reducible apply q_blockO); exact rfl)
          | exact P0
          | ((with_reducible apply P1))
          | exact Rdn.zero
          | apply Rdn.succ
          | ((with_reducible apply Norm.nil); exact rfl)
          | ((with_reducible apply Norm.cons); exact rfl)
          | ((with_reducible apply end_ret))
          | ((with_reducible apply end_normal))
          | exact rvs_nil
          | ((with_reducible apply rvs_cons))
          | ((with_reducible apply rv_tmp); exact rfl)
          | ((with_reducible apply rv_cell); exact rfl; exact rfl)
          | ((with_reducible apply rv_cellAgg); exact rfl; exact rfl)
          | exact Nat.le_of_ble_eq_true rfl
          | exact (rfl : (_ : Bool) = true)
          | omega
          | (intro _ _; with_reducible apply tl_id)
          | (intro _; with_reducible apply tl_id)
          | (intro _ _; with_reducible apply al_id)
          | (intro _; with_reducible apply al_id))
        rw [hv]; rfl
      | none =>
        obtain ⟨s, hs⟩ : ∃ s, ls[0]? = some s := ⟨_, List.getElem?_eq_getElem hpos⟩
        have hj := join_meet r0 at_ (l.filter (News.hand post kind now)) s (by rw [← hls]; exact hs) (fun x hx => by
          have hxo := (News.ok_iff x).1 (hok x (List.mem_filter.1 hx).1)
          have hm := mul_in r0 (absd x.seen at_) (by rw [← hrt]; unfold rateOf; (repeat' split) <;> omega) (by rw [← hrt]; unfold rateOf; (repeat' split) <;> omega) (absd_nonneg _ _) (by unfold absd; omega)
          unfold sayLo sayHi
          omega)
        rw [← hls] at hj
        have hv : knownF r0 l post kind at_ now = ((joinAll s ls).1, (joinAll s ls).2, 0) := by
          unfold knownF
          simp only [hne, if_false, hcf, hj]; rfl
        rw [hcf] at HC
        simp only [KHp, List.cons_append, List.nil_append]
        repeat' (first
          | ((with_reducible apply oq_id); first
            | (apply oq_fn; exact rfl; first | exact trivial | (refine ⟨?_, ?_⟩ <;> omega) | (refine ⟨?_, ?_, ?_⟩ <;> omega) | omega | skip)
            | ((with_reducible apply oq_load); exact rfl; exact rfl)
            | ((with_reducible apply oq_loadAgg); exact rfl; exact rfl)
            | ((with_reducible apply oq_call (k := 69) (hc := Try.call69)); exact rfl; exact rfl; exact fun D w1 hw1 => HC w1 hw1.ext.ext)
            | ((with_reducible apply oq_call (k := 79) (hc := Try.call79)); exact rfl; exact rfl; exact fun D w1 hw1 => tog_rows rfl (by omega) hs hw1 (by (repeat (first | exact P0 | apply P1))))
            | ((with_reducible apply oq_build); exact rfl; exact rfl; exact rfl)
            | ((with_reducible apply oq_buildA); exact rfl; exact rfl; exact rfl; exact rfl)
            | ((with_reducible apply oq_fieldAgg); exact rfl; exact rfl; exact rfl)
            | ((with_reducible apply oq_indexAgg); exact rfl; exact rfl; exact rfl; exact rfl))
          | ((with_reducible apply tl_id); first
            | ((with_reducible apply tl_nil))
            | ((with_reducible apply u_q); exact rfl; exact rfl; exact rfl; exact rfl)
            | ((with_reducible apply u_s0); exact rfl; exact rfl)
            | ((with_reducible apply u_s); exact rfl; exact rfl; exact rfl)
            | ((with_reducible apply u_skip); exact rfl; exact rfl; exact rfl)
            | ((with_reducible apply u_splitD); exact rfl; exact rfl; all_goals first | (intro hp; try (exfalso; omega)) | skip)
            | ((with_reducible apply u_splitN); exact rfl; exact rfl; all_goals first | (intro hp; try (exfalso; omega)) | skip)
            | ((with_reducible apply u_split); exact rfl; exact rfl; all_goals first | intro hp | skip))
          | ((with_reducible apply gx_id); first
            | ((with_reducible apply v_nil))
            | ((with_reducible apply v_q); exact rfl; exact rfl; exact rfl)
            | ((with_reducible apply v_skip); exact rfl; exact rfl; exact rfl)
            | ((with_reducible apply v_splitD); exact rfl; exact rfl; all_goals first | (intro hp; try (exfalso; omega)) | skip)
            | ((with_reducible apply v_splitN); exact rfl; exact rfl; all_goals first | (intro hp; try (exfalso; omega)) | skip)
            | ((with_reducible apply v_split); exact rfl; exact rfl; all_goals first | intro hp | skip))
          | ((with_reducible apply os_id); first
            | ((with_reducible apply os_x); exact rfl)
            | ((with_reducible apply os_store); exact rfl; exact rfl; exact rfl; exact rfl)
            | ((with_reducible apply os_storeAgg); exact rfl; exact rfl; exact rfl; exact rfl; exact rfl)
            | ((with_reducible apply os_append (hk := app_ok109)); exact rfl; exact rfl; (repeat (first | exact P0 | apply P1)))
            | ((with_reducible apply os_appendNil (hk := app_ok109)); exact rfl; exact rfl))
          | ((with_reducible apply ox_id); first
            | ((with_reducible apply ox_alloc); exact rfl; intro _)
            | ((with_reducible apply ox_box); exact rfl; exact rfl; intro _)
            | ((with_reducible apply ox_boxAgg); exact rfl; intro _)
            | ((with_reducible apply ox_buildSlice); exact rfl; exact rfl; exact rfl; exact rfl))
          | ((with_reducible apply rd_id); first
            | (apply Rd.own; (repeat (first | exact P0 | apply P1)); exact rfl; done)
            | (apply Rd.old; (first | (with_reducible assumption) | exact c0 | exact c1 | exact c2 | exact c3 | exact c4 | exact c5 | exact c6 | exact c7 | exact c8 | exact d0 | exact d1 | exact d2 | exact d3 | exact d4 | exact d5); first | exact List.not_mem_nil | exact m0 | exact m1 | exact m2 | exact m3 | exact m4 | exact m5 | exact m6 | exact m7 | exact m8 | exact m9))
          | ((with_reducible apply t_id); first
            | ((with_reducible apply t_seq))
            | (apply t_region; kernel_rfl)
            | (apply t_drawn; kernel_rfl; decide +kernel)
            | ((with_reducible apply t_condT); exact rfl)
            | ((with_reducible apply t_condF); exact rfl)
            | ((with_reducible apply t_condD); exact rfl; all_goals first | (intro hp; try (exfalso; omega)) | skip)
            | ((with_reducible apply t_condN); exact rfl; all_goals first | (intro hp; try (exfalso; omega)) | skip)
            | ((with_reducible apply t_cond); exact rfl; all_goals first | intro hp | skip)
            | ((with_reducible apply t_ret))
            | ((with_reducible apply t_skip))
            | ((with_reducible apply t_exit))
            | ((with_reducible apply t_block)))
          | with_reducible apply q_thenN
          | with_reducible apply q_thenR
          | with_reducible apply q_blockR
          | with_reducible apply q_blockN
          | with_reducible apply q_thenE
          | ((with_reducible apply q_blockE); exact rfl)
          | ((with_reducible apply q_blockO); exact rfl)
          | exact P0
          | ((with_reducible apply P1))
          | exact Rdn.zero
          | apply Rdn.succ
          | ((with_reducible apply Norm.nil); exact rfl)
          | ((with_reducible apply Norm.cons); exact rfl)
          | ((with_reducible apply end_ret))
          | ((with_reducible apply end_normal))
          | exact rvs_nil
          | ((with_reducible apply rvs_cons))
          | ((with_reducible apply rv_tmp); exact rfl)
          | ((with_reducible apply rv_cell); exact rfl; exact rfl)
          | ((with_reducible apply rv_cellAgg); exact rfl; exact rfl)
          | exact Nat.le_of_ble_eq_true rfl
          | exact (rfl : (_ : Bool) = true)
          | omega
          | (intro _ _; with_reducible apply tl_id)
          | (intro _; with_reducible apply tl_id)
          | (intro _ _; with_reducible apply al_id)
          | (intro _; with_reducible apply al_id))
        rw [hv]; rfl

end Go.Proofs.Ytalidommelefaaa
