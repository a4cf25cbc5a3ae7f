/- Which reports of a desk contradict each other. -/
import Derived.Test.YtalidommelefaaaKnownA
namespace Go.Proofs.Ytalidommelefaaa
open Go.RowKit Go.Shelf
attribute [local irreducible] OQ OS OX Rd T TL GX GL AL AI RV wpG SAny
set_option maxRecDepth 100000
set_option maxHeartbeats 2000000
set_option linter.unusedVariables false
set_option linter.unusedSimpArgs false


/-- The body of conflict's outer loop. -/
noncomputable def outerOf : Code → Code
  | .seq _ (.seq (.seq _ (.block _ (.rangeFunc _ _ _ b))) _) => b
  | _ => .skip
noncomputable def code69 : Code := match Try.f69.body with | some c => outerOf c | none => .skip


theorem tog_own {w0 : World} {M : Ms} {H H' : Hp} {w : World} {bb : Nat} {a b c d : Int} {g : Tg} (h : Has w0 M H w) (p : Pick H bb [.int .i64 a, .int .i64 b, .int .i64 c, .int .i64 d] g H') :
    Calls Try.prog 79 #[.slice (some ⟨bb, 0, none⟩) 2 2] w fun e w' => e = .returned (.agg #[.int .i64 (max a c), .int .i64 (min b d)]) ∧ Ext w w' := by
  have hb := (h.blk _ p.mem).2
  have hr : RdS w 2 (some ⟨bb, 0, none⟩) 2 ([(a, b), (c, d)].map spanCells) := Blk.rows (rows := [(a, b), (c, d)].map spanCells) (g := g) hb rfl (by simp [spanCells])
  have := together_calls (some ⟨bb, 0, none⟩) 2 2 (a, b) [(a, b), (c, d)] w hr (by omega) rfl
  simpa [joinAll, joinS] using this
theorem contra_span (r : Int) (x y : News) (hx : x.lo ≤ x.hi) (hy : y.lo ≤ y.hi) (hr : 0 ≤ r) : (min (sayHi r y.seen x) y.hi < max (sayLo r y.seen x) y.lo) ↔ contra r x y = true := by
  have h0 : 0 ≤ r * absd x.seen y.seen := Int.mul_nonneg hr (absd_nonneg _ _)
  unfold sayHi sayLo contra
  generalize r * absd x.seen y.seen = q at *
  simp only [decide_eq_true_eq]
  omega

/-- No report of the list contradicts any. -/
def CPi (r0 : Int) {l : List News} {post kind now : Int} (pre : List (HN l post kind now)) : Prop := ∀ x ∈ pre, ∀ y : HN l post kind now, pairs r0 l post kind now x.1.1 y.1.1 = false
def CPi2 (r0 : Int) {l : List News} {post kind now : Int} (x : HN l post kind now) (pre : List (HN l post kind now)) : Prop := ∀ y ∈ pre, pairs r0 l post kind now x.1.1 y.1.1 = false
/-- Reports x and y are the first that contradict each other. -/
def CPl (r0 : Int) {l : List News} {post kind now : Int} (k : Code) (pre : List (HN l post kind now)) (i : Nat × Nat) : Prop :=
  k = .ret ∧ ∃ pre0 x pre2 y, pre = pre0 ++ [x] ∧ CPi r0 pre0 ∧ (pre2 ++ [y]) <+: hns l post kind now l.length ∧ CPi2 r0 x pre2 ∧ pairs r0 l post kind now x.1.1 y.1.1 = true ∧ i = (x.1.1, y.1.1)
def CPl2 (r0 : Int) {l : List News} {post kind now : Int} (x : HN l post kind now) (k : Code) (pre : List (HN l post kind now)) (i : Nat × Nat) : Prop :=
  k = .ret ∧ ∃ pre2 y, pre = pre2 ++ [y] ∧ CPi2 r0 x pre2 ∧ pairs r0 l post kind now x.1.1 y.1.1 = true ∧ i = (x.1.1, y.1.1)


theorem pairs_hn (r : Int) {l : List News} {post kind now : Int} (x y : HN l post kind now) : pairs r l post kind now x.1.1 y.1.1 = (decide (x.1.1 < y.1.1) && contra r x.1.2 y.1.2) := by
  unfold pairs
  rw [x.2.1, y.2.1]
  simp [x.2.2, y.2.2]
theorem hns_mem {l : List News} {post kind now : Int} (x : HN l post kind now) : x ∈ hns l post kind now l.length := by
  unfold hns
  rw [List.mem_filterMap]
  exact ⟨x.1.1, by rw [List.mem_range]; exact (List.getElem?_eq_some_iff.1 x.2.1).1, hn_yes x.2.1 x.2.2⟩
theorem hn_at {l : List News} {post kind now : Int} {i : Nat} {x : HN l post kind now} (h : hn l post kind now i = some x) : x.1.1 = i := by
  unfold hn at h
  split at h
  · split at h
    · cases h; rfl
    · cases h
  · cases h
theorem hns_sorted (l : List News) (post kind now : Int) (k : Nat) : (hns l post kind now k).Pairwise (fun a b => a.1.1 < b.1.1) := by
  unfold hns
  rw [List.pairwise_filterMap]
  refine List.Pairwise.imp ?_ (List.pairwise_lt_range (n := k))
  intro a b hab x hx y hy
  rw [hn_at hx, hn_at hy]; exact hab
/-- What comes before x is handed out before x. -/
theorem hns_before {l : List News} {post kind now : Int} {pre : List (HN l post kind now)} {x z : HN l post kind now} (h : (pre ++ [x]) <+: hns l post kind now l.length) (hz : z.1.1 < x.1.1) : z ∈ pre := by
  obtain ⟨r, hr⟩ := h
  have hm := hns_mem z
  have hs := hns_sorted l post kind now l.length
  rw [← hr] at hm hs
  rcases List.mem_append.1 hm with hm | hm
  · rcases List.mem_append.1 hm with hm | hm
    · exact hm
    · obtain rfl : z = x := by simpa using hm
      omega
  · have := (List.pairwise_append.1 hs).2.2 x (by simp) z hm
    omega
theorem pairs_no {r : Int} {l : List News} {post kind now : Int} {j m : Nat} (h : ∀ x y : HN l post kind now, x.1.1 = j → y.1.1 = m → pairs r l post kind now x.1.1 y.1.1 = false) : pairs r l post kind now j m = false := by
  cases hp : pairs r l post kind now j m with
  | false => rfl
  | true =>
    unfold pairs at hp
    simp only [Bool.and_eq_true] at hp
    have hp2 := hp.2
    split at hp2
    · rename_i x y hx hy
      simp only [Bool.and_eq_true] at hp2
      have := h ⟨(j, x), hx, hp2.1.1⟩ ⟨(m, y), hy, hp2.1.2⟩ rfl rfl
      simp only at this
      unfold pairs at this
      rw [hx, hy] at this
      simp [hp.1, hp2.1.1, hp2.1.2, hp2.2] at this
    · cases hp2
noncomputable def innerOf : Code → Code
  | .block _ (.seq _ (.block _ (.rangeFunc _ _ _ b))) => b
  | _ => .skip
noncomputable def code69i : Code := innerOf code69
theorem conf_inner {bd : Nat} {A : Option Addr} {n cp : Nat} {p t v : Int} {l : List News} {post kind now : Int} {w W : World}
    (hD : Desk w bd A n cp p t v) (hok : ∀ x ∈ l, x.ok = true) (p0 : 0 ≤ p) (p1 : p ≤ 100) (t0 : 0 ≤ t) (t1 : t ≤ 100) (v0 : 0 ≤ v) (v1 : v ≤ 100) {r0 : Int} (hrt : rateOf p t v kind = r0) (hx : Ext w W)
    {q0 q1 q2 q3 b4 b8 b9 b10 l2 b14 : Nat} {pre2 : List (HN l post kind now)} {x y : HN l post kind now} {b : Nat × Nat} {W2 : World} {D2 : List Nat}
    (hbdM : bd ∉ ([(b.2, [.int .i64 x.1.2.post, .int .i64 x.1.2.kind, .int .i64 x.1.2.seen, .int .i64 x.1.2.came, .int .i64 x.1.2.lo, .int .i64 x.1.2.hi], some (102, 6, 1)), (b.1, [.int .i64 (x.1.1 : Int)], some (3, 1, 1)), (b10, [.bool false], some (4, 1, 1)), (b9, [.int .i64 0], some (3, 1, 1)), (b8, [.int .i64 0], some (3, 1, 1))] : Hp).map Prod.fst)
    (hDW : Desk W bd A n cp p t v) (c4 : W.cell? ⟨b4, 0, none⟩ = some (.pointer (some ⟨bd, 0, none⟩))) (hb4 : b4 < W.heap.size)
    (m4 : b4 ∉ ([(b.2, [.int .i64 x.1.2.post, .int .i64 x.1.2.kind, .int .i64 x.1.2.seen, .int .i64 x.1.2.came, .int .i64 x.1.2.lo, .int .i64 x.1.2.hi], some (102, 6, 1)), (b.1, [.int .i64 (x.1.1 : Int)], some (3, 1, 1)), (b10, [.bool false], some (4, 1, 1)), (b9, [.int .i64 0], some (3, 1, 1)), (b8, [.int .i64 0], some (3, 1, 1))] : Hp).map Prod.fst)
    (hi2 : CPi2 r0 x pre2)
    (hw2 : Has W ⟨([(b.2, [.int .i64 x.1.2.post, .int .i64 x.1.2.kind, .int .i64 x.1.2.seen, .int .i64 x.1.2.came, .int .i64 x.1.2.lo, .int .i64 x.1.2.hi], some (102, 6, 1)), (b.1, [.int .i64 (x.1.1 : Int)], some (3, 1, 1)), (b10, [.bool false], some (4, 1, 1)), (b9, [.int .i64 0], some (3, 1, 1)), (b8, [.int .i64 0], some (3, 1, 1))] : Hp).map Prod.fst, D2⟩ (([(b14, [.int .i64 y.1.2.post, .int .i64 y.1.2.kind, .int .i64 y.1.2.seen, .int .i64 y.1.2.came, .int .i64 y.1.2.lo, .int .i64 y.1.2.hi], some (102, 6, 1))] ++ [(b10, [.bool false], some (4, 1, 1)), (b9, [.int .i64 0], some (3, 1, 1)), (b8, [.int .i64 0], some (3, 1, 1))] : Hp) ++ [(q3, [.int .i64 now], some (3, 1, 1)), (q2, [.int .i64 kind], some (3, 1, 1)), (q1, [.int .i64 post], some (3, 1, 1)), (q0, [.pointer (some ⟨bd, 0, none⟩)], some (115, 1, 1)), (b.2, [.int .i64 x.1.2.post, .int .i64 x.1.2.kind, .int .i64 x.1.2.seen, .int .i64 x.1.2.came, .int .i64 x.1.2.lo, .int .i64 x.1.2.hi], some (102, 6, 1)), (b.1, [.int .i64 (x.1.1 : Int)], some (3, 1, 1))]) W2) :
    T { cx W 51 with w0 := W2, M := ([(b14, [.int .i64 y.1.2.post, .int .i64 y.1.2.kind, .int .i64 y.1.2.seen, .int .i64 y.1.2.came, .int .i64 y.1.2.lo, .int .i64 y.1.2.hi], some (102, 6, 1))] ++ [(b10, [.bool false], some (4, 1, 1)), (b9, [.int .i64 0], some (3, 1, 1)), (b8, [.int .i64 0], some (3, 1, 1))] : Hp).map Prod.fst } (WS.round Try.prog l2 1) code69i
      (QB (fun _ : Unit => [(b10, [.bool false], some (4, 1, 1)), (b9, [.int .i64 0], some (3, 1, 1)), (b8, [.int .i64 0], some (3, 1, 1))]) (fun pre _ => CPi2 r0 x pre) (fun i : Nat × Nat => [(b10, [.bool true], some (4, 1, 1)), (b9, [.int .i64 (i.2 : Int)], some (3, 1, 1)), (b8, [.int .i64 (i.1 : Int)], some (3, 1, 1))]) (CPl2 r0 x) (pre2 ++ [y]))
      [(14, .pointer (some ⟨b14, 0, none⟩)), (13, .int .i64 (y.1.1 : Int)), (12, .pointer (some ⟨b.2, 0, none⟩)), (11, .pointer (some ⟨b.1, 0, none⟩)), (4, .pointer (some ⟨b4, 0, none⟩)), (8, .pointer (some ⟨b8, 0, none⟩)), (9, .pointer (some ⟨b9, 0, none⟩)), (10, .pointer (some ⟨b10, 0, none⟩))]
      ([(b14, [.int .i64 y.1.2.post, .int .i64 y.1.2.kind, .int .i64 y.1.2.seen, .int .i64 y.1.2.came, .int .i64 y.1.2.lo, .int .i64 y.1.2.hi], some (102, 6, 1))] ++ [(b10, [.bool false], some (4, 1, 1)), (b9, [.int .i64 0], some (3, 1, 1)), (b8, [.int .i64 0], some (3, 1, 1))]) := by
  have hxo := hok _ (List.mem_of_getElem? x.2.1)
  have hyo := hok _ (List.mem_of_getElem? y.2.1)
  have hxk : x.1.2.kind = kind := by have := x.2.2; simp [News.hand] at this; exact this.1.2
  have hyi := (News.ok_iff _).1 hyo
  have hxi := (News.ok_iff _).1 hxo
  have hr0 : 0 ≤ r0 := by
    rw [← hrt]; unfold rateOf; (repeat' split) <;> omega
  have hcs := contra_span r0 x.1.2 y.1.2 hxi.2.2.2.2.2.2.2.1 hyi.2.2.2.2.2.2.2.1 hr0
  have hph := pairs_hn r0 x y
  have k4 : W2.cell? ⟨b4, 0, none⟩ = some (.pointer (some ⟨bd, 0, none⟩)) := hw2.oldc c4 m4
  have n4 : b4 ∉ ([(b14, [.int .i64 y.1.2.post, .int .i64 y.1.2.kind, .int .i64 y.1.2.seen, .int .i64 y.1.2.came, .int .i64 y.1.2.lo, .int .i64 y.1.2.hi], some (102, 6, 1)), (b10, [.bool false], some (4, 1, 1)), (b9, [.int .i64 0], some (3, 1, 1)), (b8, [.int .i64 0], some (3, 1, 1))] : Hp).map Prod.fst := fun hm => hw2.oldoff hb4 m4 (by rw [List.map_append]; exact List.mem_append_left _ hm)
  have hbd2 : bd ∉ ([(b14, [.int .i64 y.1.2.post, .int .i64 y.1.2.kind, .int .i64 y.1.2.seen, .int .i64 y.1.2.came, .int .i64 y.1.2.lo, .int .i64 y.1.2.hi], some (102, 6, 1)), (b10, [.bool false], some (4, 1, 1)), (b9, [.int .i64 0], some (3, 1, 1)), (b8, [.int .i64 0], some (3, 1, 1))] : Hp).map Prod.fst := fun hm => hw2.oldoff hDW.2.2 hbdM (by rw [List.map_append]; exact List.mem_append_left _ hm)
  have hD2 : Desk W2 bd A n cp p t v := isNew.extM hDW hw2.ext hbdM
  have m1 := hw2.off (b := b.1) (by simp)
  have m2 := hw2.off (b := b.2) (by simp)
  clear c4 m4
  have c4 := k4
  have m4 := n4
  simp only [List.cons_append, List.nil_append] at hw2 m1 m2 ⊢
  have c1 : W2.cell? ⟨b.1, 0, none⟩ = some (.int .i64 (x.1.1 : Int)) := hw2.cellAt (by (repeat (first | exact P0 | apply P1))) rfl
  have d0 : W2.cell? ⟨b.2, 0, none⟩ = some (.int .i64 x.1.2.post) := hw2.cellAt (by (repeat (first | exact P0 | apply P1))) rfl
  have d1 : W2.cell? ⟨b.2, 1, none⟩ = some (.int .i64 x.1.2.kind) := hw2.cellAt (by (repeat (first | exact P0 | apply P1))) rfl
  have d2 : W2.cell? ⟨b.2, 2, none⟩ = some (.int .i64 x.1.2.seen) := hw2.cellAt (by (repeat (first | exact P0 | apply P1))) rfl
  have d3 : W2.cell? ⟨b.2, 3, none⟩ = some (.int .i64 x.1.2.came) := hw2.cellAt (by (repeat (first | exact P0 | apply P1))) rfl
  have d4 : W2.cell? ⟨b.2, 4, none⟩ = some (.int .i64 x.1.2.lo) := hw2.cellAt (by (repeat (first | exact P0 | apply P1))) rfl
  have d5 : W2.cell? ⟨b.2, 5, none⟩ = some (.int .i64 x.1.2.hi) := hw2.cellAt (by (repeat (first | exact P0 | apply P1))) rfl
  have HS : ∀ D w1, Has W2 ⟨([(b14, [.int .i64 y.1.2.post, .int .i64 y.1.2.kind, .int .i64 y.1.2.seen, .int .i64 y.1.2.came, .int .i64 y.1.2.lo, .int .i64 y.1.2.hi], some (102, 6, 1)), (b10, [.bool false], some (4, 1, 1)), (b9, [.int .i64 0], some (3, 1, 1)), (b8, [.int .i64 0], some (3, 1, 1))] : Hp).map Prod.fst, D⟩ [(b14, [.int .i64 y.1.2.post, .int .i64 y.1.2.kind, .int .i64 y.1.2.seen, .int .i64 y.1.2.came, .int .i64 y.1.2.lo, .int .i64 y.1.2.hi], some (102, 6, 1)), (b10, [.bool false], some (4, 1, 1)), (b9, [.int .i64 0], some (3, 1, 1)), (b8, [.int .i64 0], some (3, 1, 1))] w1 → SaysC bd x.1.2 y.1.2.seen r0 w1 :=
    fun D w1 h1 => says_m hD2 hxo (by omega) (by omega) p0 p1 t0 t1 v0 v1 (by rw [hxk]; exact hrt) h1.ext fun z hz e => hbd2 (List.mem_map.2 ⟨z, hz, e⟩)
  have hlt1 : x.1.1 < l.length := (List.getElem?_eq_some_iff.1 x.2.1).1
  have hlt2 : y.1.1 < l.length := (List.getElem?_eq_some_iff.1 y.2.1).1
  apply t_block
  repeat' (first
    | ((with_reducible apply oq_id); first
      | (apply oq_fn; exact rfl; first | exact trivial | (refine ⟨?_, ?_⟩ <;> omega) | (refine ⟨?_, ?_, ?_⟩ <;> omega) | omega | skip)
      | ((with_reducible apply oq_load); exact rfl; exact rfl)
      | ((with_reducible apply oq_loadAgg); exact rfl; exact rfl)
      | ((with_reducible apply oq_call (k := 123) (hc := Try.call123)); exact rfl; exact rfl; exact fun D w1 hw1 => HS _ w1 hw1)
      | ((with_reducible apply oq_call (k := 79) (hc := Try.call79)); exact rfl; exact rfl; exact fun D w1 hw1 => tog_own hw1 (by (repeat (first | exact P0 | apply P1))))
      | ((with_reducible apply oq_build); exact rfl; exact rfl; exact rfl)
      | ((with_reducible apply oq_buildA); exact rfl; exact rfl; exact rfl; exact rfl)
      | ((with_reducible apply oq_fieldAgg); exact rfl; exact rfl; exact rfl)
      | ((with_reducible apply oq_indexAgg); exact rfl; exact rfl; exact rfl; exact rfl))
    | ((with_reducible apply tl_id); first
      | ((with_reducible apply tl_nil))
      | ((with_reducible apply u_q); exact rfl; exact rfl; exact rfl; exact rfl)
      | ((with_reducible apply u_s0); exact rfl; exact rfl)
      | ((with_reducible apply u_s); exact rfl; exact rfl; exact rfl)
      | ((with_reducible apply u_skip); exact rfl; exact rfl; exact rfl)
      | ((with_reducible apply u_splitD); exact rfl; exact rfl; all_goals first | (intro hp; try (exfalso; omega)) | skip)
      | ((with_reducible apply u_splitN); exact rfl; exact rfl; all_goals first | (intro hp; try (exfalso; omega)) | skip)
      | ((with_reducible apply u_split); exact rfl; exact rfl; all_goals first | intro hp | skip))
    | ((with_reducible apply gx_id); first
      | ((with_reducible apply v_nil))
      | ((with_reducible apply v_q); exact rfl; exact rfl; exact rfl)
      | ((with_reducible apply v_skip); exact rfl; exact rfl; exact rfl)
      | ((with_reducible apply v_splitD); exact rfl; exact rfl; all_goals first | (intro hp; try (exfalso; omega)) | skip)
      | ((with_reducible apply v_splitN); exact rfl; exact rfl; all_goals first | (intro hp; try (exfalso; omega)) | skip)
      | ((with_reducible apply v_split); exact rfl; exact rfl; all_goals first | intro hp | skip))
    | ((with_reducible apply os_id); first
      | ((with_reducible apply os_x); exact rfl)
      | ((with_reducible apply os_store); exact rfl; exact rfl; exact rfl; exact rfl)
      | ((with_reducible apply os_storeAgg); exact rfl; exact rfl; exact rfl; exact rfl; exact rfl))
    | ((with_reducible apply ox_id); first
      | ((with_reducible apply ox_alloc); exact rfl; intro _)
      | ((with_reducible apply ox_box); exact rfl; exact rfl; intro _)
      | ((with_reducible apply ox_boxAgg); exact rfl; intro _)
      | ((with_reducible apply ox_buildSlice1); exact rfl; exact rfl; exact rfl; exact rfl; exact rfl; exact rfl; intro _)
      | ((with_reducible apply ox_buildSlice2); exact rfl; exact rfl; exact rfl; exact rfl; exact rfl; exact rfl; intro _)
      | ((with_reducible apply ox_buildSlice); exact rfl; exact rfl; exact rfl; exact rfl))
    | ((with_reducible apply ai_id); first
      | ((with_reducible apply ai_q); exact rfl; exact rfl; exact rfl; exact rfl; exact rfl)
      | ((with_reducible apply ai_x); exact rfl; exact rfl; exact rfl; exact rfl; exact rfl)
      | ((with_reducible apply ai_s0); exact rfl; exact rfl; exact rfl; exact rfl)
      | ((with_reducible apply ai_n0); exact rfl; exact rfl; exact rfl)
      | ((with_reducible apply ai_s); exact rfl; exact rfl; exact rfl; exact rfl; exact rfl)
      | ((with_reducible apply ai_n); exact rfl; exact rfl; exact rfl; exact rfl))
    | ((with_reducible apply al_keep); focus (repeat (first | exact HpSub.refl _ | (apply HpSub.cons; (repeat (first | exact P0 | apply P1))) | exact HpSub.nil)))
    | ((with_reducible apply rd_id); first
      | (apply Rd.own; (repeat (first | exact P0 | apply P1)); exact rfl; done)
      | (apply Rd.old; (first | (with_reducible assumption) | exact c0 | exact c1 | exact c2 | exact c3 | exact c4 | exact c5 | exact c6 | exact c7 | exact c8 | exact d0 | exact d1 | exact d2 | exact d3 | exact d4 | exact d5); first | exact List.not_mem_nil | exact m0 | exact m1 | exact m2 | exact m3 | exact m4 | exact m5 | exact m6 | exact m7 | exact m8 | exact m9))
    | ((with_reducible apply t_id); first
      | ((with_reducible apply t_seq))
      | (apply t_region; kernel_rfl)
      | (apply t_drawn; kernel_rfl; decide +kernel)
      | ((with_reducible apply t_condT); exact rfl)
      | ((with_reducible apply t_condF); exact rfl)
      | ((with_reducible apply t_condD); exact rfl; all_goals first | (intro hp; try (exfalso; omega)) | skip)
      | ((with_reducible apply t_condN); exact rfl; all_goals first | (intro hp; try (exfalso; omega)) | skip)
      | ((with_reducible apply t_cond); exact rfl; all_goals first | intro hp | skip)
      | ((with_reducible apply t_ret))
      | ((with_reducible apply t_skip))
      | ((with_reducible apply t_exit))
      | ((with_reducible apply t_block)))
    | with_reducible apply q_thenN
    | with_reducible apply q_thenR
    | with_reducible apply q_blockR
    | with_reducible apply q_blockN
    | with_reducible apply q_thenE
    | ((with_reducible apply q_blockE); exact rfl)
    | ((with_reducible apply q_blockO); exact rfl)
    | exact P0
    | ((with_reducible apply P1))
    | exact Rdn.zero
    | apply Rdn.succ
    | ((with_reducible apply Norm.nil); exact rfl)
    | ((with_reducible apply Norm.cons); exact rfl)
    | ((with_reducible apply end_ret))
    | ((with_reducible apply end_normal))
    | exact rvs_nil
    | ((with_reducible apply rvs_cons))
    | ((with_reducible apply rv_tmp); exact rfl)
    | ((with_reducible apply rv_cell); exact rfl; exact rfl)
    | ((with_reducible apply rv_cellAgg); exact rfl; exact rfl)
    | (apply t_mix (id := 7) [0, 1, 2, 3, 4, 5, 6] 4 #[false, false, false, false, false, false, false, false, false, false, false]; kernel_rfl; kernel_rfl; exact rfl)
    | ((with_reducible apply al_id); first | (apply al_done; decide +kernel) | (apply al_one 7; decide +kernel) | (apply al_one 8; decide +kernel) | (apply al_one 9; decide +kernel) | (apply al_one 10; decide +kernel) | (apply al_two 7 9; decide +kernel) | (apply al_two 8 9; decide +kernel))
    | exact Nat.le_of_ble_eq_true rfl
    | exact (rfl : (_ : Bool) = true)
    | omega
    | (intro _ _; with_reducible apply tl_id)
    | (intro _; with_reducible apply tl_id)
    | (intro _ _; with_reducible apply al_id)
    | (intro _; with_reducible apply al_id))
  all_goals first
    | (refine ⟨(), fun z hz => ?_, ?_⟩
       · rcases List.mem_append.1 hz with h | h
         · exact hi2 z h
         · obtain rfl : z = y := by simpa using h
           rw [hph]
           first
             | (rw [decide_eq_false (by omega)]; rfl)
             | (rw [Bool.eq_false_iff.2 (fun h => hp (hcs.2 h))]; exact Bool.and_false _)
       · (repeat (first | exact HpSub.refl _ | (apply HpSub.consE; (repeat (first | exact P0 | apply P1)); exact rfl) | exact HpSub.nil)))
    | (refine ⟨(x.1.1, y.1.1), ⟨rfl, pre2, y, rfl, hi2, ?_, rfl⟩, ?_⟩
       · rw [hph, decide_eq_true (by omega), hcs.1 hp]; rfl
       · (repeat (first | exact HpSub.refl _ | (apply HpSub.consE; (repeat (first | exact P0 | apply P1)); exact rfl) | exact HpSub.nil)))


theorem conf_body {bd : Nat} {A : Option Addr} {n cp : Nat} {p t v : Int} {l : List News} {post kind now : Int} {w : World} (hr : RdS w 6 A n (l.map News.cells)) (hn : n ≤ 1000000)
    (hD : Desk w bd A n cp p t v) (hok : ∀ x ∈ l, x.ok = true) (p0 : 0 ≤ p) (p1 : p ≤ 100) (t0 : 0 ≤ t) (t1 : t ≤ 100) (v0 : 0 ≤ v) (v1 : v ≤ 100) {r0 : Int} (hrt : rateOf p t v kind = r0) (hAl : 0 < n → ∀ b o, A = some ⟨b, o, none⟩ → b < w.heap.size)
    {b0 b1 b2 b3 b4 b5 b6 b7 b8 b9 b10 l' : Nat} {pre : List (HN l post kind now)} {x : HN l post kind now} {b : Nat × Nat} {W : World} {D : List Nat} (hi : CPi r0 pre)
    (hw : Has w ⟨[], D⟩ (([(b.2, [.int .i64 x.1.2.post, .int .i64 x.1.2.kind, .int .i64 x.1.2.seen, .int .i64 x.1.2.came, .int .i64 x.1.2.lo, .int .i64 x.1.2.hi], some (102, 6, 1)), (b.1, [.int .i64 (x.1.1 : Int)], some (3, 1, 1))] ++ [(b10, [.bool false], some (4, 1, 1)), (b9, [.int .i64 0], some (3, 1, 1)), (b8, [.int .i64 0], some (3, 1, 1))] : Hp) ++ [(b3, [.int .i64 now], some (3, 1, 1)), (b2, [.int .i64 kind], some (3, 1, 1)), (b1, [.int .i64 post], some (3, 1, 1)), (b0, [.pointer (some ⟨bd, 0, none⟩)], some (115, 1, 1)), (b7, [.int .i64 now], some (3, 1, 1)), (b6, [.int .i64 kind], some (3, 1, 1)), (b5, [.int .i64 post], some (3, 1, 1)), (b4, [.pointer (some ⟨bd, 0, none⟩)], some (115, 1, 1))]) W)
    (hl' : ∃ r, W.heap[l']? = some (.loop r)) :
    T { cx w 51 with w0 := W, M := ([(b.2, [.int .i64 x.1.2.post, .int .i64 x.1.2.kind, .int .i64 x.1.2.seen, .int .i64 x.1.2.came, .int .i64 x.1.2.lo, .int .i64 x.1.2.hi], some (102, 6, 1)), (b.1, [.int .i64 (x.1.1 : Int)], some (3, 1, 1))] ++ [(b10, [.bool false], some (4, 1, 1)), (b9, [.int .i64 0], some (3, 1, 1)), (b8, [.int .i64 0], some (3, 1, 1))] : Hp).map Prod.fst } (WS.round Try.prog l' 3) code69
      (QB (fun _ : Unit => [(b10, [.bool false], some (4, 1, 1)), (b9, [.int .i64 0], some (3, 1, 1)), (b8, [.int .i64 0], some (3, 1, 1))]) (fun pre _ => CPi r0 pre) (fun i : Nat × Nat => [(b10, [.bool true], some (4, 1, 1)), (b9, [.int .i64 (i.2 : Int)], some (3, 1, 1)), (b8, [.int .i64 (i.1 : Int)], some (3, 1, 1))]) (CPl r0) (pre ++ [x]))
      [(12, .pointer (some ⟨b.2, 0, none⟩)), (11, .pointer (some ⟨b.1, 0, none⟩)), (4, .pointer (some ⟨b4, 0, none⟩)), (5, .pointer (some ⟨b5, 0, none⟩)), (6, .pointer (some ⟨b6, 0, none⟩)), (7, .pointer (some ⟨b7, 0, none⟩)), (8, .pointer (some ⟨b8, 0, none⟩)), (9, .pointer (some ⟨b9, 0, none⟩)), (10, .pointer (some ⟨b10, 0, none⟩))]
      ([(b.2, [.int .i64 x.1.2.post, .int .i64 x.1.2.kind, .int .i64 x.1.2.seen, .int .i64 x.1.2.came, .int .i64 x.1.2.lo, .int .i64 x.1.2.hi], some (102, 6, 1)), (b.1, [.int .i64 (x.1.1 : Int)], some (3, 1, 1))] ++ [(b10, [.bool false], some (4, 1, 1)), (b9, [.int .i64 0], some (3, 1, 1)), (b8, [.int .i64 0], some (3, 1, 1))]) := by
  have hx : Ext w W := hw.ext.ext
  have hown : ∀ z ∈ ([(b.2, [.int .i64 x.1.2.post, .int .i64 x.1.2.kind, .int .i64 x.1.2.seen, .int .i64 x.1.2.came, .int .i64 x.1.2.lo, .int .i64 x.1.2.hi], some (102, 6, 1)), (b.1, [.int .i64 (x.1.1 : Int)], some (3, 1, 1)), (b10, [.bool false], some (4, 1, 1)), (b9, [.int .i64 0], some (3, 1, 1)), (b8, [.int .i64 0], some (3, 1, 1))] : Hp).map Prod.fst, w.heap.size ≤ z := fun z hz => by
    obtain ⟨y, hy, rfl⟩ := List.mem_map.1 hz
    rcases (hw.blk y (List.mem_append_left _ hy)).1 with h1 | h1
    · exact h1
    · exact (List.not_mem_nil h1).elim
  have hlM : l' ∉ ([(b.2, [.int .i64 x.1.2.post, .int .i64 x.1.2.kind, .int .i64 x.1.2.seen, .int .i64 x.1.2.came, .int .i64 x.1.2.lo, .int .i64 x.1.2.hi], some (102, 6, 1)), (b.1, [.int .i64 (x.1.1 : Int)], some (3, 1, 1)), (b10, [.bool false], some (4, 1, 1)), (b9, [.int .i64 0], some (3, 1, 1)), (b8, [.int .i64 0], some (3, 1, 1))] : Hp).map Prod.fst := fun hm => hw.notloop hl' (by rw [List.map_append]; exact List.mem_append_left _ hm)
  have hbdM : bd ∉ ([(b.2, [.int .i64 x.1.2.post, .int .i64 x.1.2.kind, .int .i64 x.1.2.seen, .int .i64 x.1.2.came, .int .i64 x.1.2.lo, .int .i64 x.1.2.hi], some (102, 6, 1)), (b.1, [.int .i64 (x.1.1 : Int)], some (3, 1, 1)), (b10, [.bool false], some (4, 1, 1)), (b9, [.int .i64 0], some (3, 1, 1)), (b8, [.int .i64 0], some (3, 1, 1))] : Hp).map Prod.fst := fun hm => by have := hown bd hm; have := hD.2.2; omega
  have hAM : 0 < n → ∀ b' o, A = some ⟨b', o, none⟩ → b' ∉ ([(b.2, [.int .i64 x.1.2.post, .int .i64 x.1.2.kind, .int .i64 x.1.2.seen, .int .i64 x.1.2.came, .int .i64 x.1.2.lo, .int .i64 x.1.2.hi], some (102, 6, 1)), (b.1, [.int .i64 (x.1.1 : Int)], some (3, 1, 1)), (b10, [.bool false], some (4, 1, 1)), (b9, [.int .i64 0], some (3, 1, 1)), (b8, [.int .i64 0], some (3, 1, 1))] : Hp).map Prod.fst := fun h0 b' o h hm => by have := hown b' hm; have := hAl h0 b' o h; omega
  have hDW : Desk W bd A n cp p t v := hD.ext hx
  have m4 := hw.off (b := b4) (by simp)
  have m5 := hw.off (b := b5) (by simp)
  have m6 := hw.off (b := b6) (by simp)
  have m7 := hw.off (b := b7) (by simp)
  simp only [List.cons_append, List.nil_append] at hw m4 m5 m6 m7 ⊢
  have c4 : W.cell? ⟨b4, 0, none⟩ = some (.pointer (some ⟨bd, 0, none⟩)) := hw.cellAt (by (repeat (first | exact P0 | apply P1))) rfl
  have c5 : W.cell? ⟨b5, 0, none⟩ = some (.int .i64 post) := hw.cellAt (by (repeat (first | exact P0 | apply P1))) rfl
  have c6 : W.cell? ⟨b6, 0, none⟩ = some (.int .i64 kind) := hw.cellAt (by (repeat (first | exact P0 | apply P1))) rfl
  have c7 : W.cell? ⟨b7, 0, none⟩ = some (.int .i64 now) := hw.cellAt (by (repeat (first | exact P0 | apply P1))) rfl
  have hb4 : b4 < W.heap.size := cell_lt c4
  apply t_block
  repeat' (first
    | ((with_reducible apply oq_id); first
      | (apply oq_fn; exact rfl; first | exact trivial | (refine ⟨?_, ?_⟩ <;> omega) | (refine ⟨?_, ?_, ?_⟩ <;> omega) | omega | skip)
      | ((with_reducible apply oq_load); exact rfl; exact rfl)
      | ((with_reducible apply oq_loadAgg); exact rfl; exact rfl)
      | ((with_reducible apply oq_build); exact rfl; exact rfl; exact rfl)
      | ((with_reducible apply oq_buildA); exact rfl; exact rfl; exact rfl; exact rfl)
      | ((with_reducible apply oq_fieldAgg); exact rfl; exact rfl; exact rfl)
      | ((with_reducible apply oq_indexAgg); exact rfl; exact rfl; exact rfl; exact rfl))
    | ((with_reducible apply tl_id); first
      | ((with_reducible apply tl_nil))
      | ((with_reducible apply u_s); exact rfl; exact rfl; exact rfl; (with_reducible apply os_callF (PV := HandV bd post kind now) (k := 122) (hc := Try.call122)); exact rfl; exact rfl; exact fun D w1 hw1 => hand_T _ _ _ _ w1; rintro v H' ⟨q0, q1, q2, q3, rfl, rfl⟩)
      | ((with_reducible apply u_q); exact rfl; exact rfl; exact rfl; exact rfl)
      | ((with_reducible apply u_s0); exact rfl; exact rfl)
      | ((with_reducible apply u_s); exact rfl; exact rfl; exact rfl)
      | ((with_reducible apply u_skip); exact rfl; exact rfl; exact rfl)
      | ((with_reducible apply u_splitD); exact rfl; exact rfl; all_goals first | (intro hp; try (exfalso; omega)) | skip)
      | ((with_reducible apply u_splitN); exact rfl; exact rfl; all_goals first | (intro hp; try (exfalso; omega)) | skip)
      | ((with_reducible apply u_split); exact rfl; exact rfl; all_goals first | intro hp | skip))
    | ((with_reducible apply gx_id); first
      | ((with_reducible apply v_nil))
      | ((with_reducible apply v_q); exact rfl; exact rfl; exact rfl)
      | ((with_reducible apply v_skip); exact rfl; exact rfl; exact rfl)
      | ((with_reducible apply v_splitD); exact rfl; exact rfl; all_goals first | (intro hp; try (exfalso; omega)) | skip)
      | ((with_reducible apply v_splitN); exact rfl; exact rfl; all_goals first | (intro hp; try (exfalso; omega)) | skip)
      | ((with_reducible apply v_split); exact rfl; exact rfl; all_goals first | intro hp | skip))
    | ((with_reducible apply os_id); first
      | ((with_reducible apply os_x); exact rfl)
      | ((with_reducible apply os_store); exact rfl; exact rfl; exact rfl; exact rfl)
      | ((with_reducible apply os_storeAgg); exact rfl; exact rfl; exact rfl; exact rfl; exact rfl))
    | ((with_reducible apply ox_id); first
      | ((with_reducible apply ox_alloc); exact rfl; intro _)
      | ((with_reducible apply ox_box); exact rfl; exact rfl; intro _)
      | ((with_reducible apply ox_boxAgg); exact rfl; intro _)
      | ((with_reducible apply ox_buildSlice1); exact rfl; exact rfl; exact rfl; exact rfl; exact rfl; exact rfl; intro _)
      | ((with_reducible apply ox_buildSlice2); exact rfl; exact rfl; exact rfl; exact rfl; exact rfl; exact rfl; intro _)
      | ((with_reducible apply ox_buildSlice); exact rfl; exact rfl; exact rfl; exact rfl))
    | ((with_reducible apply rd_id); first
      | (apply Rd.own; (repeat (first | exact P0 | apply P1)); exact rfl; done)
      | (apply Rd.old; (first | (with_reducible assumption) | exact c0 | exact c1 | exact c2 | exact c3 | exact c4 | exact c5 | exact c6 | exact c7 | exact c8 | exact d0 | exact d1 | exact d2 | exact d3 | exact d4 | exact d5); first | exact List.not_mem_nil | exact m0 | exact m1 | exact m2 | exact m3 | exact m4 | exact m5 | exact m6 | exact m7 | exact m8 | exact m9))
    | ((with_reducible apply t_id); first
      | ((with_reducible apply t_seq))
      | (apply t_region; kernel_rfl)
      | (apply t_drawn; kernel_rfl; decide +kernel)
      | ((with_reducible apply t_condT); exact rfl)
      | ((with_reducible apply t_condF); exact rfl)
      | ((with_reducible apply t_condD); exact rfl; all_goals first | (intro hp; try (exfalso; omega)) | skip)
      | ((with_reducible apply t_condN); exact rfl; all_goals first | (intro hp; try (exfalso; omega)) | skip)
      | ((with_reducible apply t_cond); exact rfl; all_goals first | intro hp | skip)
      | ((with_reducible apply t_ret))
      | ((with_reducible apply t_skip))
      | ((with_reducible apply t_exit))
      | ((with_reducible apply t_block)))
    | with_reducible apply q_thenN
    | with_reducible apply q_thenR
    | with_reducible apply q_blockR
    | with_reducible apply q_blockN
    | with_reducible apply q_thenE
    | ((with_reducible apply q_blockE); exact rfl)
    | ((with_reducible apply q_blockO); exact rfl)
    | exact P0
    | ((with_reducible apply P1))
    | exact Rdn.zero
    | apply Rdn.succ
    | ((with_reducible apply Norm.nil); exact rfl)
    | ((with_reducible apply Norm.cons); exact rfl)
    | ((with_reducible apply end_ret))
    | ((with_reducible apply end_normal))
    | exact rvs_nil
    | ((with_reducible apply rvs_cons))
    | ((with_reducible apply rv_tmp); exact rfl)
    | ((with_reducible apply rv_cell); exact rfl; exact rfl)
    | ((with_reducible apply rv_cellAgg); exact rfl; exact rfl)
    | exact Nat.le_of_ble_eq_true rfl
    | exact (rfl : (_ : Bool) = true)
    | omega
    | (intro _ _; with_reducible apply tl_id)
    | (intro _; with_reducible apply tl_id)
    | (intro _ _; with_reducible apply al_id)
    | (intro _; with_reducible apply al_id))
  refine t_rangeN (m := 1) (N := l.length) (l₀ := l') (α := HN l post kind now) (β := Nat) (ι := Unit) (κ := Nat × Nat) (S := fun ys => ys = hns l post kind now l.length) (Sp := fun pre => pre <+: hns l post kind now l.length)
    (encs := fun y => [.int .i64 (y.1.1 : Int), .agg ⟨[.int .i64 y.1.2.post, .int .i64 y.1.2.kind, .int .i64 y.1.2.seen, .int .i64 y.1.2.came, .int .i64 y.1.2.lo, .int .i64 y.1.2.hi]⟩])
    (hk := [(q3, [.int .i64 now], some (3, 1, 1)), (q2, [.int .i64 kind], some (3, 1, 1)), (q1, [.int .i64 post], some (3, 1, 1)), (q0, [.pointer (some ⟨bd, 0, none⟩)], some (115, 1, 1)), (b.2, [.int .i64 x.1.2.post, .int .i64 x.1.2.kind, .int .i64 x.1.2.seen, .int .i64 x.1.2.came, .int .i64 x.1.2.lo, .int .i64 x.1.2.hi], some (102, 6, 1)), (b.1, [.int .i64 (x.1.1 : Int)], some (3, 1, 1))])
    (fun _ => [(b10, [.bool false], some (4, 1, 1)), (b9, [.int .i64 0], some (3, 1, 1)), (b8, [.int .i64 0], some (3, 1, 1))]) (fun pre _ => CPi2 r0 x pre)
    (fun y b14 => [(b14, [.int .i64 y.1.2.post, .int .i64 y.1.2.kind, .int .i64 y.1.2.seen, .int .i64 y.1.2.came, .int .i64 y.1.2.lo, .int .i64 y.1.2.hi], some (102, 6, 1))])
    (fun y b14 => [(14, .pointer (some ⟨b14, 0, none⟩)), (13, .int .i64 (y.1.1 : Int)), (12, .pointer (some ⟨b.2, 0, none⟩)), (11, .pointer (some ⟨b.1, 0, none⟩)), (4, .pointer (some ⟨b4, 0, none⟩)), (8, .pointer (some ⟨b8, 0, none⟩)), (9, .pointer (some ⟨b9, 0, none⟩)), (10, .pointer (some ⟨b10, 0, none⟩))])
    (fun i => [(b10, [.bool true], some (4, 1, 1)), (b9, [.int .i64 (i.2 : Int)], some (3, 1, 1)), (b8, [.int .i64 (i.1 : Int)], some (3, 1, 1))]) (CPl2 r0 x) () hl' hlM rfl Try.call143 ?seq (fun y hy => (List.not_mem_nil hy).elim) ?sub ?ok ?done ?stop
  case sub =>
    simp only [List.cons_append, List.nil_append]
    (repeat (first | exact HpSub.refl _ | (apply HpSub.consE; (repeat (first | exact P0 | apply P1)); exact rfl) | exact HpSub.nil))
  case seq =>
    intro D w1 hw1
    have he := hw1.ext
    simp only [List.cons_append, List.nil_append] at hw1
    refine hand_stops Fence.wide 2 trivial rfl (by omega) q0 q1 q2 q3 bd A n cp l post kind now hn _ (.inr (by simp)) (.inr (by simp)) (.inr (by simp)) (.inr (by simp)) (.inl ⟨hDW.2.2, hbdM⟩) (fun h0 b' o h => .inl ⟨Nat.lt_of_lt_of_le (hAl h0 b' o h) hx.size, hAM h0 b' o h⟩) w1 ⟨(hr.ext hx).extM he hAM, ?_, ?_, ?_, ?_, (isNew.extM hDW he hbdM).1 0⟩
    · exact hw1.cellAt (by (repeat (first | exact P0 | apply P1))) rfl
    · exact hw1.cellAt (by (repeat (first | exact P0 | apply P1))) rfl
    · exact hw1.cellAt (by (repeat (first | exact P0 | apply P1))) rfl
    · exact hw1.cellAt (by (repeat (first | exact P0 | apply P1))) rfl
  case ok =>
    refine ⟨fun _ => rfl, rfl, fun y W2 => ?_, fun y b14 i k W2 D2 hb hw2 hns z hz z' hz' => ?_, fun l2 pre2 y i b14 W2 D2 hi2 hw2 hlt2 hl2 => ?_⟩
    · refine sl0_seq (sl0_region (by kernel_rfl) ?_)
      repeat' (first
        | ((with_reducible apply oq_id); first
          | (apply oq_fn; exact rfl; first | exact trivial | (refine ⟨?_, ?_⟩ <;> omega) | (refine ⟨?_, ?_, ?_⟩ <;> omega) | omega | skip)
          | ((with_reducible apply oq_load); exact rfl; exact rfl)
          | ((with_reducible apply oq_loadAgg); exact rfl; exact rfl)
          | ((with_reducible apply oq_build); exact rfl; exact rfl; exact rfl)
          | ((with_reducible apply oq_buildA); exact rfl; exact rfl; exact rfl; exact rfl)
          | ((with_reducible apply oq_fieldAgg); exact rfl; exact rfl; exact rfl)
          | ((with_reducible apply oq_indexAgg); exact rfl; exact rfl; exact rfl; exact rfl))
        | ((with_reducible apply tl_id); first
          | ((with_reducible apply tl_nil))
          | ((with_reducible apply u_q); exact rfl; exact rfl; exact rfl; exact rfl)
          | ((with_reducible apply u_s0); exact rfl; exact rfl)
          | ((with_reducible apply u_s); exact rfl; exact rfl; exact rfl)
          | ((with_reducible apply u_skip); exact rfl; exact rfl; exact rfl)
          | ((with_reducible apply u_splitD); exact rfl; exact rfl; all_goals first | (intro hp; try (exfalso; omega)) | skip)
          | ((with_reducible apply u_splitN); exact rfl; exact rfl; all_goals first | (intro hp; try (exfalso; omega)) | skip)
          | ((with_reducible apply u_split); exact rfl; exact rfl; all_goals first | intro hp | skip))
        | ((with_reducible apply gx_id); first
          | ((with_reducible apply v_nil))
          | ((with_reducible apply v_q); exact rfl; exact rfl; exact rfl)
          | ((with_reducible apply v_skip); exact rfl; exact rfl; exact rfl)
          | ((with_reducible apply v_splitD); exact rfl; exact rfl; all_goals first | (intro hp; try (exfalso; omega)) | skip)
          | ((with_reducible apply v_splitN); exact rfl; exact rfl; all_goals first | (intro hp; try (exfalso; omega)) | skip)
          | ((with_reducible apply v_split); exact rfl; exact rfl; all_goals first | intro hp | skip))
        | ((with_reducible apply os_id); first
          | ((with_reducible apply os_x); exact rfl)
          | ((with_reducible apply os_store); exact rfl; exact rfl; exact rfl; exact rfl)
          | ((with_reducible apply os_storeAgg); exact rfl; exact rfl; exact rfl; exact rfl; exact rfl))
        | ((with_reducible apply ox_id); first
          | ((with_reducible apply ox_alloc); exact rfl; intro _)
          | ((with_reducible apply ox_box); exact rfl; exact rfl; intro _)
          | ((with_reducible apply ox_boxAgg); exact rfl; intro _)
          | ((with_reducible apply ox_buildSlice1); exact rfl; exact rfl; exact rfl; exact rfl; exact rfl; exact rfl; intro _)
          | ((with_reducible apply ox_buildSlice2); exact rfl; exact rfl; exact rfl; exact rfl; exact rfl; exact rfl; intro _)
          | ((with_reducible apply ox_buildSlice); exact rfl; exact rfl; exact rfl; exact rfl))
        | ((with_reducible apply rd_id); first
          | (apply Rd.own; (repeat (first | exact P0 | apply P1)); exact rfl; done)
          | (apply Rd.old; (first | (with_reducible assumption) | exact c0 | exact c1 | exact c2 | exact c3 | exact c4 | exact c5 | exact c6 | exact c7 | exact c8 | exact d0 | exact d1 | exact d2 | exact d3 | exact d4 | exact d5); first | exact List.not_mem_nil | exact m0 | exact m1 | exact m2 | exact m3 | exact m4 | exact m5 | exact m6 | exact m7 | exact m8 | exact m9))
        | ((with_reducible apply t_id); first
          | ((with_reducible apply t_seq))
          | (apply t_region; kernel_rfl)
          | (apply t_drawn; kernel_rfl; decide +kernel)
          | ((with_reducible apply t_condT); exact rfl)
          | ((with_reducible apply t_condF); exact rfl)
          | ((with_reducible apply t_condD); exact rfl; all_goals first | (intro hp; try (exfalso; omega)) | skip)
          | ((with_reducible apply t_condN); exact rfl; all_goals first | (intro hp; try (exfalso; omega)) | skip)
          | ((with_reducible apply t_cond); exact rfl; all_goals first | intro hp | skip)
          | ((with_reducible apply t_ret))
          | ((with_reducible apply t_skip))
          | ((with_reducible apply t_exit))
          | ((with_reducible apply t_block)))
        | with_reducible apply q_thenN
        | with_reducible apply q_thenR
        | with_reducible apply q_blockR
        | with_reducible apply q_blockN
        | with_reducible apply q_thenE
        | ((with_reducible apply q_blockE); exact rfl)
        | ((with_reducible apply q_blockO); exact rfl)
        | exact P0
        | ((with_reducible apply P1))
        | exact Rdn.zero
        | apply Rdn.succ
        | ((with_reducible apply Norm.nil); exact rfl)
        | ((with_reducible apply Norm.cons); exact rfl)
        | ((with_reducible apply end_ret))
        | ((with_reducible apply end_normal))
        | exact rvs_nil
        | ((with_reducible apply rvs_cons))
        | ((with_reducible apply rv_tmp); exact rfl)
        | ((with_reducible apply rv_cell); exact rfl; exact rfl)
        | ((with_reducible apply rv_cellAgg); exact rfl; exact rfl)
        | exact Nat.le_of_ble_eq_true rfl
        | exact (rfl : (_ : Bool) = true)
        | omega
        | (intro _ _; with_reducible apply tl_id)
        | (intro _; with_reducible apply tl_id)
        | (intro _ _; with_reducible apply al_id)
        | (intro _; with_reducible apply al_id))
      refine sl0_region (by kernel_rfl) ?_
      repeat' (first
        | ((with_reducible apply oq_id); first
          | (apply oq_fn; exact rfl; first | exact trivial | (refine ⟨?_, ?_⟩ <;> omega) | (refine ⟨?_, ?_, ?_⟩ <;> omega) | omega | skip)
          | ((with_reducible apply oq_load); exact rfl; exact rfl)
          | ((with_reducible apply oq_loadAgg); exact rfl; exact rfl)
          | ((with_reducible apply oq_build); exact rfl; exact rfl; exact rfl)
          | ((with_reducible apply oq_buildA); exact rfl; exact rfl; exact rfl; exact rfl)
          | ((with_reducible apply oq_fieldAgg); exact rfl; exact rfl; exact rfl)
          | ((with_reducible apply oq_indexAgg); exact rfl; exact rfl; exact rfl; exact rfl))
        | ((with_reducible apply tl_id); first
          | ((with_reducible apply tl_nil))
          | ((with_reducible apply u_q); exact rfl; exact rfl; exact rfl; exact rfl)
          | ((with_reducible apply u_s0); exact rfl; exact rfl)
          | ((with_reducible apply u_s); exact rfl; exact rfl; exact rfl)
          | ((with_reducible apply u_skip); exact rfl; exact rfl; exact rfl)
          | ((with_reducible apply u_splitD); exact rfl; exact rfl; all_goals first | (intro hp; try (exfalso; omega)) | skip)
          | ((with_reducible apply u_splitN); exact rfl; exact rfl; all_goals first | (intro hp; try (exfalso; omega)) | skip)
          | ((with_reducible apply u_split); exact rfl; exact rfl; all_goals first | intro hp | skip))
        | ((with_reducible apply gx_id); first
          | ((with_reducible apply v_nil))
          | ((with_reducible apply v_q); exact rfl; exact rfl; exact rfl)
          | ((with_reducible apply v_skip); exact rfl; exact rfl; exact rfl)
          | ((with_reducible apply v_splitD); exact rfl; exact rfl; all_goals first | (intro hp; try (exfalso; omega)) | skip)
          | ((with_reducible apply v_splitN); exact rfl; exact rfl; all_goals first | (intro hp; try (exfalso; omega)) | skip)
          | ((with_reducible apply v_split); exact rfl; exact rfl; all_goals first | intro hp | skip))
        | ((with_reducible apply os_id); first
          | ((with_reducible apply os_x); exact rfl)
          | ((with_reducible apply os_store); exact rfl; exact rfl; exact rfl; exact rfl)
          | ((with_reducible apply os_storeAgg); exact rfl; exact rfl; exact rfl; exact rfl; exact rfl))
        | ((with_reducible apply ox_id); first
          | ((with_reducible apply ox_alloc); exact rfl; intro _)
          | ((with_reducible apply ox_box); exact rfl; exact rfl; intro _)
          | ((with_reducible apply ox_boxAgg); exact rfl; intro _)
          | ((with_reducible apply ox_buildSlice1); exact rfl; exact rfl; exact rfl; exact rfl; exact rfl; exact rfl; intro _)
          | ((with_reducible apply ox_buildSlice2); exact rfl; exact rfl; exact rfl; exact rfl; exact rfl; exact rfl; intro _)
          | ((with_reducible apply ox_buildSlice); exact rfl; exact rfl; exact rfl; exact rfl))
        | ((with_reducible apply rd_id); first
          | (apply Rd.own; (repeat (first | exact P0 | apply P1)); exact rfl; done)
          | (apply Rd.old; (first | (with_reducible assumption) | exact c0 | exact c1 | exact c2 | exact c3 | exact c4 | exact c5 | exact c6 | exact c7 | exact c8 | exact d0 | exact d1 | exact d2 | exact d3 | exact d4 | exact d5); first | exact List.not_mem_nil | exact m0 | exact m1 | exact m2 | exact m3 | exact m4 | exact m5 | exact m6 | exact m7 | exact m8 | exact m9))
        | ((with_reducible apply t_id); first
          | ((with_reducible apply t_seq))
          | (apply t_region; kernel_rfl)
          | (apply t_drawn; kernel_rfl; decide +kernel)
          | ((with_reducible apply t_condT); exact rfl)
          | ((with_reducible apply t_condF); exact rfl)
          | ((with_reducible apply t_condD); exact rfl; all_goals first | (intro hp; try (exfalso; omega)) | skip)
          | ((with_reducible apply t_condN); exact rfl; all_goals first | (intro hp; try (exfalso; omega)) | skip)
          | ((with_reducible apply t_cond); exact rfl; all_goals first | intro hp | skip)
          | ((with_reducible apply t_ret))
          | ((with_reducible apply t_skip))
          | ((with_reducible apply t_exit))
          | ((with_reducible apply t_block)))
        | with_reducible apply q_thenN
        | with_reducible apply q_thenR
        | with_reducible apply q_blockR
        | with_reducible apply q_blockN
        | with_reducible apply q_thenE
        | ((with_reducible apply q_blockE); exact rfl)
        | ((with_reducible apply q_blockO); exact rfl)
        | exact P0
        | ((with_reducible apply P1))
        | exact Rdn.zero
        | apply Rdn.succ
        | ((with_reducible apply Norm.nil); exact rfl)
        | ((with_reducible apply Norm.cons); exact rfl)
        | ((with_reducible apply end_ret))
        | ((with_reducible apply end_normal))
        | exact rvs_nil
        | ((with_reducible apply rvs_cons))
        | ((with_reducible apply rv_tmp); exact rfl)
        | ((with_reducible apply rv_cell); exact rfl; exact rfl)
        | ((with_reducible apply rv_cellAgg); exact rfl; exact rfl)
        | exact Nat.le_of_ble_eq_true rfl
        | exact (rfl : (_ : Bool) = true)
        | omega
        | (intro _ _; with_reducible apply tl_id)
        | (intro _; with_reducible apply tl_id)
        | (intro _ _; with_reducible apply al_id)
        | (intro _; with_reducible apply al_id))
      rename_i by_
      refine ⟨by_, ?_, ?_⟩
      · (repeat (first | exact FrSub.nil | (apply FrSub.cons; exact rfl)))
      · (repeat (first | exact HpSub.refl _ | (apply HpSub.consE; (repeat (first | exact P0 | apply P1)); exact rfl) | exact HpSub.nil))
    · have h1 : z'.1 < k := hns z'.1 (by
        simp only [List.cons_append, List.nil_append, List.map_cons, List.map_nil, List.mem_cons, List.not_mem_nil, or_false] at hz' ⊢
        rcases hz' with rfl | rfl | rfl | rfl | rfl | rfl | rfl | rfl | rfl <;> simp)
      have h2 := (hb.blk z hz).1
      omega
    · exact conf_inner hD hok p0 p1 t0 t1 v0 v1 hrt hx hbdM hDW c4 hb4 m4 hi2 hw2
  case done =>
    rintro xs i rfl hi2
    apply q_blockN
    apply q_blockN
    refine ⟨(), fun z hz y => ?_, ?_⟩
    · rcases List.mem_append.1 hz with h | h
      · exact hi z h y
      · obtain rfl : z = x := by simpa using h
        exact hi2 y (hns_mem y)
    · simp only [List.cons_append, List.nil_append]
      (repeat (first | exact HpSub.refl _ | (apply HpSub.consE; (repeat (first | exact P0 | apply P1)); exact rfl) | exact HpSub.nil))
  case stop =>
    rintro k pre' j hp ⟨rfl, pre2, y, h1, h2, h3, rfl⟩
    apply t_ret
    apply q_blockR
    apply q_blockR
    refine ⟨(x.1.1, y.1.1), ⟨rfl, pre, x, pre2, y, rfl, hi, h1 ▸ hp, h2, h3, rfl⟩, ?_⟩
    simp only [List.cons_append, List.nil_append]
    (repeat (first | exact HpSub.refl _ | (apply HpSub.consE; (repeat (first | exact P0 | apply P1)); exact rfl) | exact HpSub.nil))


/-- What conflict returns. -/
def confV : Option (Nat × Nat) → Value
  | some (i, k) => .tuple #[.int .i64 (i : Int), .int .i64 (k : Int), .bool true]
  | none => .tuple #[.int .i64 0, .int .i64 0, .bool false]
theorem conflict_T (bd : Nat) (A : Option Addr) (n cp : Nat) (p t v : Int) (l : List News) (post kind now : Int) (w : World) (hr : RdS w 6 A n (l.map News.cells)) (hn : n ≤ 1000000)
    (hD : Desk w bd A n cp p t v) (hok : ∀ x ∈ l, x.ok = true) (p0 : 0 ≤ p) (p1 : p ≤ 100) (t0 : 0 ≤ t) (t1 : t ≤ 100) (v0 : 0 ≤ v) (v1 : v ≤ 100) (r0 : Int) (hrt : rateOf p t v kind = r0) :
    Calls Try.prog 69 #[.pointer (some ⟨bd, 0, none⟩), .int .i64 post, .int .i64 kind, .int .i64 now] w fun e w' => e = .returned (confV (conflictF r0 l post kind now)) ∧ Ext w w' := by
  have hlen := hr.len
  simp at hlen
  have hAl : 0 < n → ∀ b o, A = some ⟨b, o, none⟩ → b < w.heap.size := fun h0 b o h => by
    obtain ⟨b', o', h1, h2, _⟩ := hr.at_ h0
    rw [h] at h1; cases h1; exact h2
  refine enterQ (c := cx w 51) Try.func69 rfl rfl rfl rfl ?_
  repeat' (first | ((with_reducible apply oq_id); first | (apply oq_fn; exact rfl; first | exact trivial | (refine ⟨?_, ?_⟩ <;> omega) | (refine ⟨?_, ?_, ?_⟩ <;> omega) | omega | skip) | ((with_reducible apply oq_load); exact rfl; exact rfl) | ((with_reducible apply oq_loadAgg); exact rfl; exact rfl)) | ((with_reducible apply tl_id); first | ((with_reducible apply tl_nil)) | ((with_reducible apply u_s); exact rfl; exact rfl; exact rfl; (with_reducible apply os_callF (PV := HandV bd post kind now) (k := 122) (hc := Try.call122)); exact rfl; exact rfl; exact fun D w1 hw1 => hand_T _ _ _ _ w1; rintro v H' ⟨b0, b1, b2, b3, rfl, rfl⟩) | ((with_reducible apply u_q); exact rfl; exact rfl; exact rfl; exact rfl) | ((with_reducible apply u_s0); exact rfl; exact rfl) | ((with_reducible apply u_s); exact rfl; exact rfl; exact rfl) | ((with_reducible apply u_skip); exact rfl; exact rfl; exact rfl) | ((with_reducible apply u_splitD); exact rfl; exact rfl; all_goals first | (intro hp; try (exfalso; omega)) | skip) | ((with_reducible apply u_splitN); exact rfl; exact rfl; all_goals first | (intro hp; try (exfalso; omega)) | skip) | ((with_reducible apply u_split); exact rfl; exact rfl; all_goals first | intro hp | skip)) | ((with_reducible apply gx_id); first | ((with_reducible apply v_nil)) | ((with_reducible apply v_q); exact rfl; exact rfl; exact rfl)) | ((with_reducible apply os_id); first | ((with_reducible apply os_x); exact rfl) | ((with_reducible apply os_store); exact rfl; exact rfl; exact rfl; exact rfl) | ((with_reducible apply os_storeAgg); exact rfl; exact rfl; exact rfl; exact rfl; exact rfl)) | ((with_reducible apply ox_id); first | ((with_reducible apply ox_alloc); exact rfl; intro _) | ((with_reducible apply ox_box); exact rfl; exact rfl; intro _) | ((with_reducible apply ox_boxAgg); exact rfl; intro _) | ((with_reducible apply ox_buildSlice1); exact rfl; exact rfl; exact rfl; exact rfl; exact rfl; exact rfl; intro _) | ((with_reducible apply ox_buildSlice2); exact rfl; exact rfl; exact rfl; exact rfl; exact rfl; exact rfl; intro _) | ((with_reducible apply ox_buildSlice); exact rfl; exact rfl; exact rfl; exact rfl)) | ((with_reducible apply rd_id); first | (apply Rd.own; (repeat (first | exact P0 | apply P1)); exact rfl; done) | (apply Rd.old; (first | (with_reducible assumption)); first | exact List.not_mem_nil)) | ((with_reducible apply t_id); first | ((with_reducible apply t_seq)) | (apply t_region; kernel_rfl) | (apply t_drawn; kernel_rfl; decide +kernel) | ((with_reducible apply t_condT); exact rfl) | ((with_reducible apply t_condF); exact rfl) | ((with_reducible apply t_condD); exact rfl; all_goals first | (intro hp; try (exfalso; omega)) | skip) | ((with_reducible apply t_condN); exact rfl; all_goals first | (intro hp; try (exfalso; omega)) | skip) | ((with_reducible apply t_cond); exact rfl; all_goals first | intro hp | skip) | ((with_reducible apply t_ret)) | ((with_reducible apply t_skip)) | ((with_reducible apply t_block))) | with_reducible apply q_thenN | with_reducible apply q_thenR | with_reducible apply q_blockR | with_reducible apply q_blockN | ((with_reducible apply q_blockE); exact rfl) | ((with_reducible apply q_blockO); exact rfl) | exact P0 | ((with_reducible apply P1)) | exact Rdn.zero | apply Rdn.succ | ((with_reducible apply Norm.nil); exact rfl) | ((with_reducible apply Norm.cons); exact rfl) | ((with_reducible apply end_ret)) | ((with_reducible apply end_normal)) | exact rvs_nil | ((with_reducible apply rvs_cons)) | ((with_reducible apply rv_cell); exact rfl; exact rfl) | ((with_reducible apply rv_cellAgg); exact rfl; exact rfl) | exact Nat.le_of_ble_eq_true rfl | exact (rfl : (_ : Bool) = true) | omega | (intro _ _; with_reducible apply tl_id) | (intro _; with_reducible apply tl_id) | (intro _ _; with_reducible apply al_id) | (intro _; with_reducible apply al_id))
  rename_i b4 b5 b6 b7 b8 b9 b10
  refine t_range (m := 3) (N := l.length) (α := HN l post kind now) (β := Nat × Nat) (ι := Unit) (κ := Nat × Nat) (S := fun ys => ys = hns l post kind now l.length) (Sp := fun pre => pre <+: hns l post kind now l.length)
    (encs := fun x => [.int .i64 (x.1.1 : Int), .agg ⟨[.int .i64 x.1.2.post, .int .i64 x.1.2.kind, .int .i64 x.1.2.seen, .int .i64 x.1.2.came, .int .i64 x.1.2.lo, .int .i64 x.1.2.hi]⟩])
    (hk := [(b3, [.int .i64 now], some (3, 1, 1)), (b2, [.int .i64 kind], some (3, 1, 1)), (b1, [.int .i64 post], some (3, 1, 1)), (b0, [.pointer (some ⟨bd, 0, none⟩)], some (115, 1, 1)), (b7, [.int .i64 now], some (3, 1, 1)), (b6, [.int .i64 kind], some (3, 1, 1)), (b5, [.int .i64 post], some (3, 1, 1)), (b4, [.pointer (some ⟨bd, 0, none⟩)], some (115, 1, 1))])
    (fun _ => [(b10, [.bool false], some (4, 1, 1)), (b9, [.int .i64 0], some (3, 1, 1)), (b8, [.int .i64 0], some (3, 1, 1))]) (fun pre _ => CPi r0 pre)
    (fun x b => [(b.2, [.int .i64 x.1.2.post, .int .i64 x.1.2.kind, .int .i64 x.1.2.seen, .int .i64 x.1.2.came, .int .i64 x.1.2.lo, .int .i64 x.1.2.hi], some (102, 6, 1)), (b.1, [.int .i64 (x.1.1 : Int)], some (3, 1, 1))])
    (fun x b => [(12, .pointer (some ⟨b.2, 0, none⟩)), (11, .pointer (some ⟨b.1, 0, none⟩)), (4, .pointer (some ⟨b4, 0, none⟩)), (5, .pointer (some ⟨b5, 0, none⟩)), (6, .pointer (some ⟨b6, 0, none⟩)), (7, .pointer (some ⟨b7, 0, none⟩)), (8, .pointer (some ⟨b8, 0, none⟩)), (9, .pointer (some ⟨b9, 0, none⟩)), (10, .pointer (some ⟨b10, 0, none⟩))])
    (fun i => [(b10, [.bool true], some (4, 1, 1)), (b9, [.int .i64 (i.2 : Int)], some (3, 1, 1)), (b8, [.int .i64 (i.1 : Int)], some (3, 1, 1))]) (CPl r0) () rfl Try.call143 ?seq (fun x hx => (List.not_mem_nil hx).elim) ?sub ?ok ?done ?stop
  case sub =>
    simp only [List.cons_append, List.nil_append]
    (repeat (first | exact HpSub.refl _ | (apply HpSub.consE; (repeat (first | exact P0 | apply P1)); exact rfl) | exact HpSub.nil))
  case seq =>
    intro D w1 hw1
    have hx : Ext w w1 := hw1.ext.ext
    simp only [List.cons_append, List.nil_append] at hw1
    refine hand_stops Fence.wide 4 trivial rfl (by omega) b0 b1 b2 b3 bd A n cp l post kind now hn _ (.inr (by simp)) (.inr (by simp)) (.inr (by simp)) (.inr (by simp)) (.inl ⟨hD.2.2, List.not_mem_nil⟩) (fun h0 b o h => .inl ⟨hAl h0 b o h, List.not_mem_nil⟩) w1 ⟨hr.ext hx, ?_, ?_, ?_, ?_, hx.cell (hD.1 0)⟩
    · exact hw1.cellAt (by (repeat (first | exact P0 | apply P1))) rfl
    · exact hw1.cellAt (by (repeat (first | exact P0 | apply P1))) rfl
    · exact hw1.cellAt (by (repeat (first | exact P0 | apply P1))) rfl
    · exact hw1.cellAt (by (repeat (first | exact P0 | apply P1))) rfl
  case ok =>
    refine ⟨fun _ => rfl, rfl, fun x W => ?_, fun x b i k W D hb hw hns y hy z hz => ?_, fun l' pre x i b W D hi hw hlt hl' => ?_⟩
    · refine sl0_seq (sl0_region (by kernel_rfl) ?_)
      repeat' (first | ((with_reducible apply oq_id); first | (apply oq_fn; exact rfl; first | exact trivial | (refine ⟨?_, ?_⟩ <;> omega) | (refine ⟨?_, ?_, ?_⟩ <;> omega) | omega | skip) | ((with_reducible apply oq_load); exact rfl; exact rfl) | ((with_reducible apply oq_loadAgg); exact rfl; exact rfl)) | ((with_reducible apply tl_id); first | ((with_reducible apply tl_nil)) | ((with_reducible apply u_q); exact rfl; exact rfl; exact rfl; exact rfl) | ((with_reducible apply u_s0); exact rfl; exact rfl) | ((with_reducible apply u_s); exact rfl; exact rfl; exact rfl) | ((with_reducible apply u_skip); exact rfl; exact rfl; exact rfl) | ((with_reducible apply u_splitD); exact rfl; exact rfl; all_goals first | (intro hp; try (exfalso; omega)) | skip) | ((with_reducible apply u_splitN); exact rfl; exact rfl; all_goals first | (intro hp; try (exfalso; omega)) | skip) | ((with_reducible apply u_split); exact rfl; exact rfl; all_goals first | intro hp | skip)) | ((with_reducible apply gx_id); first | ((with_reducible apply v_nil)) | ((with_reducible apply v_q); exact rfl; exact rfl; exact rfl)) | ((with_reducible apply os_id); first | ((with_reducible apply os_x); exact rfl) | ((with_reducible apply os_store); exact rfl; exact rfl; exact rfl; exact rfl) | ((with_reducible apply os_storeAgg); exact rfl; exact rfl; exact rfl; exact rfl; exact rfl)) | ((with_reducible apply ox_id); first | ((with_reducible apply ox_alloc); exact rfl; intro _) | ((with_reducible apply ox_box); exact rfl; exact rfl; intro _) | ((with_reducible apply ox_boxAgg); exact rfl; intro _) | ((with_reducible apply ox_buildSlice1); exact rfl; exact rfl; exact rfl; exact rfl; exact rfl; exact rfl; intro _) | ((with_reducible apply ox_buildSlice2); exact rfl; exact rfl; exact rfl; exact rfl; exact rfl; exact rfl; intro _) | ((with_reducible apply ox_buildSlice); exact rfl; exact rfl; exact rfl; exact rfl)) | ((with_reducible apply rd_id); first | (apply Rd.own; (repeat (first | exact P0 | apply P1)); exact rfl; done) | (apply Rd.old; (first | (with_reducible assumption)); first | exact List.not_mem_nil)) | ((with_reducible apply t_id); first | ((with_reducible apply t_seq)) | (apply t_region; kernel_rfl) | (apply t_drawn; kernel_rfl; decide +kernel) | ((with_reducible apply t_condT); exact rfl) | ((with_reducible apply t_condF); exact rfl) | ((with_reducible apply t_condD); exact rfl; all_goals first | (intro hp; try (exfalso; omega)) | skip) | ((with_reducible apply t_condN); exact rfl; all_goals first | (intro hp; try (exfalso; omega)) | skip) | ((with_reducible apply t_cond); exact rfl; all_goals first | intro hp | skip) | ((with_reducible apply t_ret)) | ((with_reducible apply t_skip)) | ((with_reducible apply t_block))) | with_reducible apply q_thenN | with_reducible apply q_thenR | with_reducible apply q_blockR | with_reducible apply q_blockN | ((with_reducible apply q_blockE); exact rfl) | ((with_reducible apply q_blockO); exact rfl) | exact P0 | ((with_reducible apply P1)) | exact Rdn.zero | apply Rdn.succ | ((with_reducible apply Norm.nil); exact rfl) | ((with_reducible apply Norm.cons); exact rfl) | ((with_reducible apply end_ret)) | ((with_reducible apply end_normal)) | exact rvs_nil | ((with_reducible apply rvs_cons)) | ((with_reducible apply rv_cell); exact rfl; exact rfl) | ((with_reducible apply rv_cellAgg); exact rfl; exact rfl) | exact Nat.le_of_ble_eq_true rfl | exact (rfl : (_ : Bool) = true) | omega | (intro _ _; with_reducible apply tl_id) | (intro _; with_reducible apply tl_id) | (intro _ _; with_reducible apply al_id) | (intro _; with_reducible apply al_id))
      refine sl0_region (by kernel_rfl) ?_
      repeat' (first | ((with_reducible apply oq_id); first | (apply oq_fn; exact rfl; first | exact trivial | (refine ⟨?_, ?_⟩ <;> omega) | (refine ⟨?_, ?_, ?_⟩ <;> omega) | omega | skip) | ((with_reducible apply oq_load); exact rfl; exact rfl) | ((with_reducible apply oq_loadAgg); exact rfl; exact rfl)) | ((with_reducible apply tl_id); first | ((with_reducible apply tl_nil)) | ((with_reducible apply u_q); exact rfl; exact rfl; exact rfl; exact rfl) | ((with_reducible apply u_s0); exact rfl; exact rfl) | ((with_reducible apply u_s); exact rfl; exact rfl; exact rfl) | ((with_reducible apply u_skip); exact rfl; exact rfl; exact rfl) | ((with_reducible apply u_splitD); exact rfl; exact rfl; all_goals first | (intro hp; try (exfalso; omega)) | skip) | ((with_reducible apply u_splitN); exact rfl; exact rfl; all_goals first | (intro hp; try (exfalso; omega)) | skip) | ((with_reducible apply u_split); exact rfl; exact rfl; all_goals first | intro hp | skip)) | ((with_reducible apply gx_id); first | ((with_reducible apply v_nil)) | ((with_reducible apply v_q); exact rfl; exact rfl; exact rfl)) | ((with_reducible apply os_id); first | ((with_reducible apply os_x); exact rfl) | ((with_reducible apply os_store); exact rfl; exact rfl; exact rfl; exact rfl) | ((with_reducible apply os_storeAgg); exact rfl; exact rfl; exact rfl; exact rfl; exact rfl)) | ((with_reducible apply ox_id); first | ((with_reducible apply ox_alloc); exact rfl; intro _) | ((with_reducible apply ox_box); exact rfl; exact rfl; intro _) | ((with_reducible apply ox_boxAgg); exact rfl; intro _) | ((with_reducible apply ox_buildSlice1); exact rfl; exact rfl; exact rfl; exact rfl; exact rfl; exact rfl; intro _) | ((with_reducible apply ox_buildSlice2); exact rfl; exact rfl; exact rfl; exact rfl; exact rfl; exact rfl; intro _) | ((with_reducible apply ox_buildSlice); exact rfl; exact rfl; exact rfl; exact rfl)) | ((with_reducible apply rd_id); first | (apply Rd.own; (repeat (first | exact P0 | apply P1)); exact rfl; done) | (apply Rd.old; (first | (with_reducible assumption)); first | exact List.not_mem_nil)) | ((with_reducible apply t_id); first | ((with_reducible apply t_seq)) | (apply t_region; kernel_rfl) | (apply t_drawn; kernel_rfl; decide +kernel) | ((with_reducible apply t_condT); exact rfl) | ((with_reducible apply t_condF); exact rfl) | ((with_reducible apply t_condD); exact rfl; all_goals first | (intro hp; try (exfalso; omega)) | skip) | ((with_reducible apply t_condN); exact rfl; all_goals first | (intro hp; try (exfalso; omega)) | skip) | ((with_reducible apply t_cond); exact rfl; all_goals first | intro hp | skip) | ((with_reducible apply t_ret)) | ((with_reducible apply t_skip)) | ((with_reducible apply t_block))) | with_reducible apply q_thenN | with_reducible apply q_thenR | with_reducible apply q_blockR | with_reducible apply q_blockN | ((with_reducible apply q_blockE); exact rfl) | ((with_reducible apply q_blockO); exact rfl) | exact P0 | ((with_reducible apply P1)) | exact Rdn.zero | apply Rdn.succ | ((with_reducible apply Norm.nil); exact rfl) | ((with_reducible apply Norm.cons); exact rfl) | ((with_reducible apply end_ret)) | ((with_reducible apply end_normal)) | exact rvs_nil | ((with_reducible apply rvs_cons)) | ((with_reducible apply rv_cell); exact rfl; exact rfl) | ((with_reducible apply rv_cellAgg); exact rfl; exact rfl) | exact Nat.le_of_ble_eq_true rfl | exact (rfl : (_ : Bool) = true) | omega | (intro _ _; with_reducible apply tl_id) | (intro _; with_reducible apply tl_id) | (intro _ _; with_reducible apply al_id) | (intro _; with_reducible apply al_id))
      rename_i bi bx
      refine ⟨(bi, bx), ?_, ?_⟩
      · (repeat (first | exact FrSub.nil | (apply FrSub.cons; exact rfl)))
      · (repeat (first | exact HpSub.refl _ | (apply HpSub.consE; (repeat (first | exact P0 | apply P1)); exact rfl) | exact HpSub.nil))
    · have h1 : z.1 < k := hns z.1 (by
        simp only [List.cons_append, List.nil_append, List.map_cons, List.map_nil, List.mem_cons, List.not_mem_nil, or_false] at hz ⊢
        have := congrArg Prod.fst (Eq.refl z)
        rcases hz with rfl | rfl | rfl | rfl | rfl | rfl | rfl | rfl | rfl | rfl | rfl <;> simp)
      have h2 := (hb.blk y hy).1
      omega
    · exact conf_body hr hn hD hok p0 p1 t0 t1 v0 v1 hrt hAl hi hw hl'
  case done =>
    rintro xs i rfl hi
    have hnone : conflictF r0 l post kind now = none := conflictF_none _ _ _ _ _ fun j m _ _ => pairs_no fun x y _ _ => hi x (hns_mem x) y
    simp only [List.cons_append, List.nil_append]
    repeat' (first | ((with_reducible apply oq_id); first | (apply oq_fn; exact rfl; first | exact trivial | (refine ⟨?_, ?_⟩ <;> omega) | (refine ⟨?_, ?_, ?_⟩ <;> omega) | omega | skip) | ((with_reducible apply oq_load); exact rfl; exact rfl) | ((with_reducible apply oq_loadAgg); exact rfl; exact rfl)) | ((with_reducible apply tl_id); first | ((with_reducible apply tl_nil)) | ((with_reducible apply u_q); exact rfl; exact rfl; exact rfl; exact rfl) | ((with_reducible apply u_s0); exact rfl; exact rfl) | ((with_reducible apply u_s); exact rfl; exact rfl; exact rfl) | ((with_reducible apply u_skip); exact rfl; exact rfl; exact rfl) | ((with_reducible apply u_splitD); exact rfl; exact rfl; all_goals first | (intro hp; try (exfalso; omega)) | skip) | ((with_reducible apply u_splitN); exact rfl; exact rfl; all_goals first | (intro hp; try (exfalso; omega)) | skip) | ((with_reducible apply u_split); exact rfl; exact rfl; all_goals first | intro hp | skip)) | ((with_reducible apply gx_id); first | ((with_reducible apply v_nil)) | ((with_reducible apply v_q); exact rfl; exact rfl; exact rfl)) | ((with_reducible apply os_id); first | ((with_reducible apply os_x); exact rfl) | ((with_reducible apply os_store); exact rfl; exact rfl; exact rfl; exact rfl) | ((with_reducible apply os_storeAgg); exact rfl; exact rfl; exact rfl; exact rfl; exact rfl)) | ((with_reducible apply ox_id); first | ((with_reducible apply ox_alloc); exact rfl; intro _) | ((with_reducible apply ox_box); exact rfl; exact rfl; intro _) | ((with_reducible apply ox_boxAgg); exact rfl; intro _) | ((with_reducible apply ox_buildSlice1); exact rfl; exact rfl; exact rfl; exact rfl; exact rfl; exact rfl; intro _) | ((with_reducible apply ox_buildSlice2); exact rfl; exact rfl; exact rfl; exact rfl; exact rfl; exact rfl; intro _) | ((with_reducible apply ox_buildSlice); exact rfl; exact rfl; exact rfl; exact rfl)) | ((with_reducible apply rd_id); first | (apply Rd.own; (repeat (first | exact P0 | apply P1)); exact rfl; done) | (apply Rd.old; (first | (with_reducible assumption)); first | exact List.not_mem_nil)) | ((with_reducible apply t_id); first | ((with_reducible apply t_seq)) | (apply t_region; kernel_rfl) | (apply t_drawn; kernel_rfl; decide +kernel) | ((with_reducible apply t_condT); exact rfl) | ((with_reducible apply t_condF); exact rfl) | ((with_reducible apply t_condD); exact rfl; all_goals first | (intro hp; try (exfalso; omega)) | skip) | ((with_reducible apply t_condN); exact rfl; all_goals first | (intro hp; try (exfalso; omega)) | skip) | ((with_reducible apply t_cond); exact rfl; all_goals first | intro hp | skip) | ((with_reducible apply t_ret)) | ((with_reducible apply t_skip)) | ((with_reducible apply t_block))) | with_reducible apply q_thenN | with_reducible apply q_thenR | with_reducible apply q_blockR | with_reducible apply q_blockN | ((with_reducible apply q_blockE); exact rfl) | ((with_reducible apply q_blockO); exact rfl) | exact P0 | ((with_reducible apply P1)) | exact Rdn.zero | apply Rdn.succ | ((with_reducible apply Norm.nil); exact rfl) | ((with_reducible apply Norm.cons); exact rfl) | ((with_reducible apply end_ret)) | ((with_reducible apply end_normal)) | exact rvs_nil | ((with_reducible apply rvs_cons)) | ((with_reducible apply rv_cell); exact rfl; exact rfl) | ((with_reducible apply rv_cellAgg); exact rfl; exact rfl) | exact Nat.le_of_ble_eq_true rfl | exact (rfl : (_ : Bool) = true) | omega | (intro _ _; with_reducible apply tl_id) | (intro _; with_reducible apply tl_id) | (intro _ _; with_reducible apply al_id) | (intro _; with_reducible apply al_id))
    rw [hnone]; rfl
  case stop =>
    rintro k pre j hp ⟨rfl, pre0, x, pre2, y, h1, h2, h3, h4, h5, rfl⟩
    subst h1
    have hsome : conflictF r0 l post kind now = some (x.1.1, y.1.1) := by
      refine conflictF_some _ _ _ _ _ _ _ h5 (fun j m hj _ => pairs_no fun z y' e1 e2 => ?_) (fun m hm => pairs_no fun z y' e1 e2 => ?_)
      · exact h2 z (hns_before hp (by omega)) y'
      · have hy' := h4 y' (hns_before h3 (by omega))
        rw [e1]; exact hy'
    simp only [List.cons_append, List.nil_append]
    repeat' (first | ((with_reducible apply oq_id); first | (apply oq_fn; exact rfl; first | exact trivial | (refine ⟨?_, ?_⟩ <;> omega) | (refine ⟨?_, ?_, ?_⟩ <;> omega) | omega | skip) | ((with_reducible apply oq_load); exact rfl; exact rfl) | ((with_reducible apply oq_loadAgg); exact rfl; exact rfl)) | ((with_reducible apply tl_id); first | ((with_reducible apply tl_nil)) | ((with_reducible apply u_q); exact rfl; exact rfl; exact rfl; exact rfl) | ((with_reducible apply u_s0); exact rfl; exact rfl) | ((with_reducible apply u_s); exact rfl; exact rfl; exact rfl) | ((with_reducible apply u_skip); exact rfl; exact rfl; exact rfl) | ((with_reducible apply u_splitD); exact rfl; exact rfl; all_goals first | (intro hp; try (exfalso; omega)) | skip) | ((with_reducible apply u_splitN); exact rfl; exact rfl; all_goals first | (intro hp; try (exfalso; omega)) | skip) | ((with_reducible apply u_split); exact rfl; exact rfl; all_goals first | intro hp | skip)) | ((with_reducible apply gx_id); first | ((with_reducible apply v_nil)) | ((with_reducible apply v_q); exact rfl; exact rfl; exact rfl)) | ((with_reducible apply os_id); first | ((with_reducible apply os_x); exact rfl) | ((with_reducible apply os_store); exact rfl; exact rfl; exact rfl; exact rfl) | ((with_reducible apply os_storeAgg); exact rfl; exact rfl; exact rfl; exact rfl; exact rfl)) | ((with_reducible apply ox_id); first | ((with_reducible apply ox_alloc); exact rfl; intro _) | ((with_reducible apply ox_box); exact rfl; exact rfl; intro _) | ((with_reducible apply ox_boxAgg); exact rfl; intro _) | ((with_reducible apply ox_buildSlice1); exact rfl; exact rfl; exact rfl; exact rfl; exact rfl; exact rfl; intro _) | ((with_reducible apply ox_buildSlice2); exact rfl; exact rfl; exact rfl; exact rfl; exact rfl; exact rfl; intro _) | ((with_reducible apply ox_buildSlice); exact rfl; exact rfl; exact rfl; exact rfl)) | ((with_reducible apply rd_id); first | (apply Rd.own; (repeat (first | exact P0 | apply P1)); exact rfl; done) | (apply Rd.old; (first | (with_reducible assumption)); first | exact List.not_mem_nil)) | ((with_reducible apply t_id); first | ((with_reducible apply t_seq)) | (apply t_region; kernel_rfl) | (apply t_drawn; kernel_rfl; decide +kernel) | ((with_reducible apply t_condT); exact rfl) | ((with_reducible apply t_condF); exact rfl) | ((with_reducible apply t_condD); exact rfl; all_goals first | (intro hp; try (exfalso; omega)) | skip) | ((with_reducible apply t_condN); exact rfl; all_goals first | (intro hp; try (exfalso; omega)) | skip) | ((with_reducible apply t_cond); exact rfl; all_goals first | intro hp | skip) | ((with_reducible apply t_ret)) | ((with_reducible apply t_skip)) | ((with_reducible apply t_block))) | with_reducible apply q_thenN | with_reducible apply q_thenR | with_reducible apply q_blockR | with_reducible apply q_blockN | ((with_reducible apply q_blockE); exact rfl) | ((with_reducible apply q_blockO); exact rfl) | exact P0 | ((with_reducible apply P1)) | exact Rdn.zero | apply Rdn.succ | ((with_reducible apply Norm.nil); exact rfl) | ((with_reducible apply Norm.cons); exact rfl) | ((with_reducible apply end_ret)) | ((with_reducible apply end_normal)) | exact rvs_nil | ((with_reducible apply rvs_cons)) | ((with_reducible apply rv_cell); exact rfl; exact rfl) | ((with_reducible apply rv_cellAgg); exact rfl; exact rfl) | exact Nat.le_of_ble_eq_true rfl | exact (rfl : (_ : Bool) = true) | omega | (intro _ _; with_reducible apply tl_id) | (intro _; with_reducible apply tl_id) | (intro _ _; with_reducible apply al_id) | (intro _; with_reducible apply al_id))
    rw [hsome]; rfl

end Go.Proofs.Ytalidommelefaaa
