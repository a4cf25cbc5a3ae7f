/- A part of the proof: rules for walks, and contracts of functions (7). -/
import Derived.Test.YtcjkndjjbjoehaaGreatX3A
import Derived.Test.YtcjkndjjbjoehaaGreatX3F
set_option linter.unusedVariables false
set_option linter.unusedSimpArgs false
set_option maxRecDepth 100000
set_option maxHeartbeats 2000000
namespace Go.Proofs.YtcjkndjjbjoehaaGreat
theorem goI0 {G A1 A2 A3 A4 A5 A6 A7 A8 A9 A10 A11 A12 A13 A14 A15 A16 : Prop} (p : GoP A1 A2 A3 A4 A5 A6 A7 A8 A9 A10 A11 A12 A13 A14 A15 A16) (h : GoL A1 → GoL A2 → GoL A3 → GoL A4 → GoL A5 → GoL A6 → GoL A7 → GoL A8 → GoL A9 → GoL A10 → GoL A11 → GoL A12 → GoL A13 → GoL A14 → GoL A15 → GoL A16 → GoM → G := by intro m1 m2 m3 m4 m5 m6 m7 m8 m9 m10 m11 m12 m13 m14 m15 m16 _; (repeat' (first | ((with_reducible apply oq_id); first | ((with_reducible apply oc_id); first | ((with_reducible apply oq_call (k := 67) (hc := Tryz.call67)); exact rfl; exact rfl; (intro D w1 hw1; refine rfrom1_t ?_ hw1 (by (repeat (first | exact P0 | apply P1))); omega)) | ((with_reducible apply oq_call (k := 67) (hc := Tryz.call67)); exact rfl; exact rfl; (intro D w1 hw1; refine rfrom1_f ?_ hw1 (by (repeat (first | exact P0 | apply P1))); omega)) | ((with_reducible apply oq_call (k := 67) (hc := Tryz.call67)); exact rfl; exact rfl; (intro D w1 hw1; refine rfrom2_t ?_ hw1 (by (repeat (first | exact P0 | apply P1))); omega)) | ((with_reducible apply oq_call (k := 67) (hc := Tryz.call67)); exact rfl; exact rfl; (intro D w1 hw1; refine rfrom2_f ?_ hw1 (by (repeat (first | exact P0 | apply P1))); omega)) | ((with_reducible apply oq_call (k := 71) (hc := Tryz.call71)); exact rfl; exact rfl; (intro D w1 hw1; refine within6_t _ _ _ ?_ w1; omega)) | ((with_reducible apply oq_call (k := 71) (hc := Tryz.call71)); exact rfl; exact rfl; (intro D w1 hw1; refine within6_f _ _ _ ?_ w1; omega)) | ((with_reducible apply oq_call (k := 88) (hc := Tryz.call88)); exact rfl; exact rfl; exact fun D w1 hw1 => HX w1 hw1.ext.ext) | ((with_reducible apply oq_call (k := 137) (hc := Tryz.call137)); exact rfl; exact rfl; exact fun D w1 hw1 => HX w1 hw1.ext.ext)) | ((with_reducible apply ob_id); first | ((with_reducible apply oq_eqlT); exact rfl; exact rfl; omega) | ((with_reducible apply oq_eqlF); exact rfl; exact rfl; omega) | ((with_reducible apply oq_gtrT); exact rfl; exact rfl; omega) | ((with_reducible apply oq_gtrF); exact rfl; exact rfl; omega) | ((with_reducible apply oq_lssT); exact rfl; exact rfl; omega) | ((with_reducible apply oq_lssF); exact rfl; exact rfl; omega) | ((with_reducible apply oq_neqT); exact rfl; exact rfl; omega) | ((with_reducible apply oq_neqF); exact rfl; exact rfl; omega)) | (focus ((with_reducible apply oq_indexAddrN); exact rfl; exact rfl; exact rfl; exact rfl; omega)) | (apply oq_fn; exact rfl; first | exact trivial | (refine ⟨?_, ?_⟩ <;> omega) | (refine ⟨?_, ?_, ?_⟩ <;> omega) | omega | skip) | ((with_reducible apply oq_load); exact rfl; exact rfl)) | ((with_reducible apply tl_id); first | ((with_reducible apply tl_nil)) | ((with_reducible apply u_q); exact rfl; exact rfl; exact rfl; exact rfl) | ((with_reducible apply u_s); exact rfl; exact rfl; exact rfl) | ((with_reducible apply u_skip); exact rfl; exact rfl; exact rfl)) | ((with_reducible apply os_id); first | ((with_reducible apply os_x); exact rfl)) | ((with_reducible apply ox_id); first | ((with_reducible apply ox_boxAgg); exact rfl; intro _) | ((with_reducible apply ox_buildSlice1); exact rfl; exact rfl; exact rfl; exact rfl; exact rfl; exact rfl; intro _)) | ((with_reducible apply rd_id); first | (apply Rd.own; (repeat (first | exact P0 | apply P1)); exact rfl; done) | (apply Rd.old; (first | (with_reducible assumption) | exact c0 | exact c1 | exact c2 | exact c3 | exact c4 | exact c5 | exact c6 | exact c7 | exact c8 | exact d0 | exact d1 | exact d2 | exact d3 | exact d4 | exact d5); first | exact List.not_mem_nil | exact m0 | exact m1 | exact m2 | exact m3 | exact m4 | exact m5 | exact m6 | exact m7 | exact m8 | exact m9)) | ((with_reducible apply t_id); first | ((with_reducible apply t_seq)) | (apply t_region; kernel_rfl) | ((with_reducible apply t_condT); exact rfl) | ((with_reducible apply t_condF); exact rfl) | ((with_reducible apply t_ret)) | ((with_reducible apply t_skip)) | ((with_reducible apply t_exit)) | ((with_reducible apply t_block))) | with_reducible apply q_thenN | with_reducible apply q_thenR | with_reducible apply q_blockR | with_reducible apply q_blockN | with_reducible apply q_thenE | ((with_reducible apply q_blockE); exact rfl) | ((with_reducible apply end_ret)) | exact rvs_nil | ((with_reducible apply rvs_cons)) | ((with_reducible apply rv_tmp); exact rfl))); (try focus (repeat (rename_i x; first | exact goD x m1.p | revert x))); (try focus (repeat (rename_i x; first | exact goD x m2.p | revert x))); (try focus (repeat (rename_i x; first | exact goD x m3.p | revert x))); (try focus (repeat (rename_i x; first | exact goD x m4.p | revert x))); (try focus (repeat (rename_i x; first | exact goD x m5.p | revert x))); (try focus (repeat (rename_i x; first | exact goD x m6.p | revert x))); (try focus (repeat (rename_i x; first | exact goD x m7.p | revert x))); (try focus (repeat (rename_i x; first | exact goD x m8.p | revert x))); (try focus (repeat (rename_i x; first | exact goD x m9.p | revert x))); (try focus (repeat (rename_i x; first | exact goD x m10.p | revert x))); (try focus (repeat (rename_i x; first | exact goD x m11.p | revert x))); (try focus (repeat (rename_i x; first | exact goD x m12.p | revert x))); (try focus (repeat (rename_i x; first | exact goD x m13.p | revert x))); (try focus (repeat (rename_i x; first | exact goD x m14.p | revert x))); (try focus (repeat (rename_i x; first | exact goD x m15.p | revert x))); (try focus (repeat (rename_i x; first | exact goD x m16.p | revert x)))) (e : GoTs A1 A2 A3 A4 A5 A6 A7 A8 A9 A10 A11 A12 A13 A14 A15 A16 := by constructor <;> first | (with_reducible exact GoT.t) | exact GoT.u) : G := p.run h
theorem goI1 {G A1 A2 A3 A4 A5 A6 A7 A8 A9 A10 A11 A12 A13 A14 A15 A16 : Prop} (p : GoP A1 A2 A3 A4 A5 A6 A7 A8 A9 A10 A11 A12 A13 A14 A15 A16) (h : GoL A1 → GoL A2 → GoL A3 → GoL A4 → GoL A5 → GoL A6 → GoL A7 → GoL A8 → GoL A9 → GoL A10 → GoL A11 → GoL A12 → GoL A13 → GoL A14 → GoL A15 → GoL A16 → GoM → G := by intro m1 m2 m3 m4 m5 m6 m7 m8 m9 m10 m11 m12 m13 m14 m15 m16 _; (repeat' (first | ((with_reducible apply oq_id); first | ((with_reducible apply oq_call (k := 118) (hc := Tryz.call118)); exact rfl; exact rfl; exact fun D w1 hw1 => HR w1) | ((with_reducible apply oq_call (k := 126) (hc := Tryz.call126)); exact rfl; exact rfl; exact fun D w1 hw1 => HR w1) | ((with_reducible apply ob_id); first | (focus ((with_reducible apply (oq_mulE (k := x * x))); exact rfl; exact rfl; exact rfl; (refine ⟨?_, ?_⟩ <;> omega))) | (focus ((with_reducible apply (oq_mulE (k := y * y))); exact rfl; exact rfl; exact rfl; (refine ⟨?_, ?_⟩ <;> omega))) | (focus ((with_reducible apply (oq_addE (k := x * x + y * y))); exact rfl; exact rfl; omega)) | (focus ((with_reducible apply (oq_mulE (k := 10000 * (x * x + y * y)))); exact rfl; exact rfl; exact rfl; (refine ⟨?_, ?_⟩ <;> omega)))) | (apply oq_fn; exact rfl; first | exact trivial | (refine ⟨?_, ?_⟩ <;> omega) | (refine ⟨?_, ?_, ?_⟩ <;> omega) | omega | skip) | ((with_reducible apply oq_load); exact rfl; exact rfl) | ((with_reducible apply oq_build); exact rfl; exact rfl; exact rfl)) | ((with_reducible apply tl_id); first | ((with_reducible apply tl_nil)) | ((with_reducible apply u_q); exact rfl; exact rfl; exact rfl; exact rfl) | ((with_reducible apply u_s0); exact rfl; exact rfl) | ((with_reducible apply u_s); exact rfl; exact rfl; exact rfl)) | ((with_reducible apply os_id); first | ((with_reducible apply os_x); exact rfl) | ((with_reducible apply os_storeAgg); exact rfl; exact rfl; exact rfl; exact rfl; exact rfl)) | ((with_reducible apply ox_id); first | ((with_reducible apply ox_alloc); exact rfl; intro _) | ((with_reducible apply ox_boxAgg); exact rfl; intro _)) | ((with_reducible apply rd_id); first | (apply Rd.own; (repeat (first | exact P0 | apply P1)); exact rfl; done)) | ((with_reducible apply t_id); first | ((with_reducible apply t_seq)) | (apply t_region; kernel_rfl) | ((with_reducible apply t_ret))) | with_reducible apply q_thenN | exact P0 | ((with_reducible apply Norm.nil); exact rfl) | ((with_reducible apply Norm.cons); exact rfl) | ((with_reducible apply end_ret)) | exact rvs_nil | ((with_reducible apply rvs_cons)) | ((with_reducible apply rv_tmp); exact rfl) | exact Nat.le_of_ble_eq_true rfl)); (try focus (repeat (rename_i x; first | exact goD x m1.p | revert x))); (try focus (repeat (rename_i x; first | exact goD x m2.p | revert x))); (try focus (repeat (rename_i x; first | exact goD x m3.p | revert x))); (try focus (repeat (rename_i x; first | exact goD x m4.p | revert x))); (try focus (repeat (rename_i x; first | exact goD x m5.p | revert x))); (try focus (repeat (rename_i x; first | exact goD x m6.p | revert x))); (try focus (repeat (rename_i x; first | exact goD x m7.p | revert x))); (try focus (repeat (rename_i x; first | exact goD x m8.p | revert x))); (try focus (repeat (rename_i x; first | exact goD x m9.p | revert x))); (try focus (repeat (rename_i x; first | exact goD x m10.p | revert x))); (try focus (repeat (rename_i x; first | exact goD x m11.p | revert x))); (try focus (repeat (rename_i x; first | exact goD x m12.p | revert x))); (try focus (repeat (rename_i x; first | exact goD x m13.p | revert x))); (try focus (repeat (rename_i x; first | exact goD x m14.p | revert x))); (try focus (repeat (rename_i x; first | exact goD x m15.p | revert x))); (try focus (repeat (rename_i x; first | exact goD x m16.p | revert x)))) (e : GoTs A1 A2 A3 A4 A5 A6 A7 A8 A9 A10 A11 A12 A13 A14 A15 A16 := by constructor <;> first | (with_reducible exact GoT.t) | exact GoT.u) : G := p.run h
open Go.RowKit
attribute [local irreducible] OQ OS OX Rd T TL GX GL AL AI RV wpG SAny Calls
def PaceOk (v q1 q2 q3 q4 g0 g1 : Int) : Prop := (1 ≤ v ∧ v ≤ 1000) ∧ (-500 ≤ q1 ∧ q1 ≤ 9000) ∧ (-500 ≤ q3 ∧ q3 ≤ 9000) ∧ (0 ≤ q2 ∧ q2 ≤ 2000) ∧ (0 ≤ q4 ∧ q4 ≤ 1000000000) ∧ (0 ≤ g0 ∧ g0 ≤ g1 ∧ g1 ≤ 1000000)
instance (v q1 q2 q3 q4 g0 g1 : Int) : Decidable (PaceOk v q1 q2 q3 q4 g0 g1) := by unfold PaceOk; exact inferInstance
def paceB (v q1 q2 q3 q4 g0 g1 : Int) : Bool := decide (PaceOk v q1 q2 q3 q4 g0 g1)
/-- The winds of a cast: one slice of gales each. -/
structure Wn where
  A : Option Addr
  n : Nat
  c : Nat
  l : List Gl
def wnCells (x : Wn) : List Value := [.slice x.A x.n x.c]
structure CastR (w : World) (A : Option Addr) (n : Nat) (L : List Wn) : Prop where
  rows : RdS w 1 A n (L.map wnCells)
  each : ∀ x ∈ L, RdS w 6 x.A x.n (x.l.map glCells) ∧ x.n ≤ x.c
theorem CastR.ext {w w' : World} {A : Option Addr} {n : Nat} {L : List Wn} (h : CastR w A n L) (hx : Ext w w') : CastR w' A n L := ⟨h.rows.ext hx, fun x hm => ⟨(h.each x hm).1.ext hx, (h.each x hm).2⟩⟩
theorem CastR.len {w : World} {A : Option Addr} {n : Nat} {L : List Wn} (h : CastR w A n L) : L.length = n := by simpa using h.rows.len
theorem CastR.read {w : World} {A : Option Addr} {n : Nat} {l : List Wn} (h : CastR w A n l) {i : Nat} (hi : i < n) :
    ∃ b o x, A = some ⟨b, o, none⟩ ∧ b < w.heap.size ∧ l[i]? = some x ∧ w.cell? ⟨b, o + i * 1, none⟩ = some (.slice x.A x.n x.c) ∧ RdS w 6 x.A x.n (x.l.map glCells) ∧ x.n ≤ x.c := by
  obtain ⟨b, o, cs, hA, hb, hx, _, hc⟩ := h.rows.row hi
  simp only [List.getElem?_map, Option.map_eq_some_iff] at hx
  obtain ⟨x, hx, rfl⟩ := hx
  exact ⟨b, o, x, hA, hb, hx, hc 0 _ rfl, h.each x (List.mem_of_getElem? hx)⟩
def castE (L : List Wn) : Int := if 1 ≤ (L.length : Int) ∧ (L.length : Int) ≤ 4 then (if L.all fun x => windB x.l then 0 else 22) else 4
theorem castE_no {L : List Wn} {j : Nat} {x : Wn} (h1 : 1 ≤ (L.length : Int) ∧ (L.length : Int) ≤ 4) (hx : L[j]? = some x) (h : windB x.l = false) : castE L = 22 := by
  unfold castE
  rw [if_pos h1, if_neg]
  intro e
  have := List.all_eq_true.1 e x (List.mem_of_getElem? hx)
  rw [h] at this; cases this
theorem castE_zero {L : List Wn} : castE L = 0 ↔ (1 ≤ (L.length : Int) ∧ (L.length : Int) ≤ 4) ∧ ∀ x ∈ L, windB x.l = true := by
  unfold castE
  by_cases h1 : 1 ≤ (L.length : Int) ∧ (L.length : Int) ≤ 4
  · rw [if_pos h1]
    by_cases h2 : (L.all fun x => windB x.l) = true
    · rw [if_pos h2]; exact ⟨fun _ => ⟨h1, fun x hx => List.all_eq_true.1 h2 x hx⟩, fun _ => rfl⟩
    · rw [if_neg h2]; exact ⟨fun e => (by cases e), fun e => absurd (List.all_eq_true.2 e.2) h2⟩
  · rw [if_neg h1]; exact ⟨fun e => (by cases e), fun e => absurd e.1 h1⟩
theorem take_okW {L : List Wn} {p : Wn → Prop} {j : Nat} {x : Wn} (h : ∀ y ∈ L.take j, p y) (hx : L[j]? = some x) (hp : p x) : ∀ y ∈ L.take (j + 1), p y := by
  rw [List.take_add_one, hx]
  intro y hy
  rcases List.mem_append.1 hy with hy | hy
  · exact h y hy
  · have : y = x := by simpa using hy
    rw [this]; exact hp
noncomputable def lenV (x y : Int) : Int := (rootV (10000 * (x * x + y * y)) (10000 * (x * x + y * y))).2.1
/-- Small enough to be tried. -/
def Small (m n : Nat) (L : List Wn) : Prop := m ≤ 20 ∧ n ≤ 50 ∧ L.length ≤ 8 ∧ ∀ x ∈ L, x.n ≤ 24
instance (m n : Nat) (L : List Wn) : Decidable (Small m n L) := by unfold Small; exact inferInstance
theorem checkPace_calls (v q1 q2 q3 q4 g0 g1 : Int) (w : World) : Calls Tryz.prog 55 #[.agg #[.int .i64 v, .int .i64 q1, .int .i64 q2, .int .i64 q3, .int .i64 q4, .int .i64 g0, .int .i64 g1]] w fun e w' => e = .returned (.int .i64 (if paceB v q1 q2 q3 q4 g0 g1 then 0 else 62)) ∧ Ext w w' := by
  by_cases a1 : 1 ≤ v ∧ v ≤ 1000
  rotate_left
  · have e : paceB v q1 q2 q3 q4 g0 g1 = false := decide_eq_false (fun e => by unfold PaceOk at e; omega)
    rw [e]
    refine enterQ (c := cx w 50) Tryz.func55 rfl rfl rfl rfl ?_
    ((all_goals refine goI0 ?_); (all_goals constructor); (any_goals exact trivial); all_goals intros)
    all_goals rfl
  by_cases a2 : -500 ≤ q1 ∧ q1 ≤ 9000
  rotate_left
  · have e : paceB v q1 q2 q3 q4 g0 g1 = false := decide_eq_false (fun e => by unfold PaceOk at e; omega)
    rw [e]
    refine enterQ (c := cx w 50) Tryz.func55 rfl rfl rfl rfl ?_
    ((all_goals refine goI0 ?_); (all_goals constructor); (any_goals exact trivial); all_goals intros)
    all_goals rfl
  by_cases a3 : -500 ≤ q3 ∧ q3 ≤ 9000
  rotate_left
  · have e : paceB v q1 q2 q3 q4 g0 g1 = false := decide_eq_false (fun e => by unfold PaceOk at e; omega)
    rw [e]
    refine enterQ (c := cx w 50) Tryz.func55 rfl rfl rfl rfl ?_
    ((all_goals refine goI0 ?_); (all_goals constructor); (any_goals exact trivial); all_goals intros)
    all_goals rfl
  by_cases a4 : 0 ≤ q2 ∧ q2 ≤ 2000
  rotate_left
  · have e : paceB v q1 q2 q3 q4 g0 g1 = false := decide_eq_false (fun e => by unfold PaceOk at e; omega)
    rw [e]
    refine enterQ (c := cx w 50) Tryz.func55 rfl rfl rfl rfl ?_
    ((all_goals refine goI0 ?_); (all_goals constructor); (any_goals exact trivial); all_goals intros)
    all_goals rfl
  by_cases a5 : 0 ≤ q4 ∧ q4 ≤ 1000000000
  rotate_left
  · have e : paceB v q1 q2 q3 q4 g0 g1 = false := decide_eq_false (fun e => by unfold PaceOk at e; omega)
    rw [e]
    refine enterQ (c := cx w 50) Tryz.func55 rfl rfl rfl rfl ?_
    ((all_goals refine goI0 ?_); (all_goals constructor); (any_goals exact trivial); all_goals intros)
    all_goals rfl
  by_cases a6 : (0 ≤ g0 ∧ g0 ≤ 1000000) ∧ (0 ≤ g1 ∧ g1 ≤ 1000000)
  rotate_left
  · have e : paceB v q1 q2 q3 q4 g0 g1 = false := decide_eq_false (fun e => by unfold PaceOk at e; omega)
    rw [e]
    refine enterQ (c := cx w 50) Tryz.func55 rfl rfl rfl rfl ?_
    ((all_goals refine goI0 ?_); (all_goals constructor); (any_goals exact trivial); all_goals intros)
    all_goals rfl
  by_cases a7 : g0 ≤ g1
  rotate_left
  · have e : paceB v q1 q2 q3 q4 g0 g1 = false := decide_eq_false (fun e => by unfold PaceOk at e; omega)
    rw [e]
    refine enterQ (c := cx w 50) Tryz.func55 rfl rfl rfl rfl ?_
    ((all_goals refine goI0 ?_); (all_goals constructor); (any_goals exact trivial); all_goals intros)
    all_goals rfl
  have e : paceB v q1 q2 q3 q4 g0 g1 = true := decide_eq_true (by unfold PaceOk; omega)
  rw [e]
  refine enterQ (c := cx w 50) Tryz.func55 rfl rfl rfl rfl ?_
  ((all_goals refine goI0 ?_); (all_goals constructor); (any_goals exact trivial); all_goals intros)
  all_goals rfl
theorem refCheckPace_calls (v q1 q2 q3 q4 g0 g1 : Int) (w : World) : Calls Tryz.prog 111 #[.agg #[.int .i64 v, .int .i64 q1, .int .i64 q2, .int .i64 q3, .int .i64 q4, .int .i64 g0, .int .i64 g1]] w fun e w' => e = .returned (.int .i64 (if paceB v q1 q2 q3 q4 g0 g1 then 0 else 62)) ∧ Ext w w' := by
  by_cases a1 : 1 ≤ v ∧ v ≤ 1000
  rotate_left
  · have e : paceB v q1 q2 q3 q4 g0 g1 = false := decide_eq_false (fun e => by unfold PaceOk at e; omega)
    rw [e]
    refine enterQ (c := cx w 47) Tryz.func111 rfl rfl rfl rfl ?_
    ((all_goals refine goI0 ?_); (all_goals constructor); (any_goals exact trivial); all_goals intros)
    all_goals rfl
  by_cases a2 : -500 ≤ q1 ∧ q1 ≤ 9000
  rotate_left
  · have e : paceB v q1 q2 q3 q4 g0 g1 = false := decide_eq_false (fun e => by unfold PaceOk at e; omega)
    rw [e]
    refine enterQ (c := cx w 47) Tryz.func111 rfl rfl rfl rfl ?_
    ((all_goals refine goI0 ?_); (all_goals constructor); (any_goals exact trivial); all_goals intros)
    all_goals rfl
  by_cases a3 : -500 ≤ q3 ∧ q3 ≤ 9000
  rotate_left
  · have e : paceB v q1 q2 q3 q4 g0 g1 = false := decide_eq_false (fun e => by unfold PaceOk at e; omega)
    rw [e]
    refine enterQ (c := cx w 47) Tryz.func111 rfl rfl rfl rfl ?_
    ((all_goals refine goI0 ?_); (all_goals constructor); (any_goals exact trivial); all_goals intros)
    all_goals rfl
  by_cases a4 : 0 ≤ q2 ∧ q2 ≤ 2000
  rotate_left
  · have e : paceB v q1 q2 q3 q4 g0 g1 = false := decide_eq_false (fun e => by unfold PaceOk at e; omega)
    rw [e]
    refine enterQ (c := cx w 47) Tryz.func111 rfl rfl rfl rfl ?_
    ((all_goals refine goI0 ?_); (all_goals constructor); (any_goals exact trivial); all_goals intros)
    all_goals rfl
  by_cases a5 : 0 ≤ q4 ∧ q4 ≤ 1000000000
  rotate_left
  · have e : paceB v q1 q2 q3 q4 g0 g1 = false := decide_eq_false (fun e => by unfold PaceOk at e; omega)
    rw [e]
    refine enterQ (c := cx w 47) Tryz.func111 rfl rfl rfl rfl ?_
    ((all_goals refine goI0 ?_); (all_goals constructor); (any_goals exact trivial); all_goals intros)
    all_goals rfl
  by_cases a6 : 0 ≤ g0 ∧ g0 ≤ g1
  rotate_left
  · have e : paceB v q1 q2 q3 q4 g0 g1 = false := decide_eq_false (fun e => by unfold PaceOk at e; omega)
    rw [e]
    refine enterQ (c := cx w 47) Tryz.func111 rfl rfl rfl rfl ?_
    ((all_goals refine goI0 ?_); (all_goals constructor); (any_goals exact trivial); all_goals intros)
    all_goals rfl
  by_cases a7 : g1 ≤ 1000000
  rotate_left
  · have e : paceB v q1 q2 q3 q4 g0 g1 = false := decide_eq_false (fun e => by unfold PaceOk at e; omega)
    rw [e]
    refine enterQ (c := cx w 47) Tryz.func111 rfl rfl rfl rfl ?_
    ((all_goals refine goI0 ?_); (all_goals constructor); (any_goals exact trivial); all_goals intros)
    all_goals rfl
  have e : paceB v q1 q2 q3 q4 g0 g1 = true := decide_eq_true (by unfold PaceOk; omega)
  rw [e]
  refine enterQ (c := cx w 47) Tryz.func111 rfl rfl rfl rfl ?_
  ((all_goals refine goI0 ?_); (all_goals constructor); (any_goals exact trivial); all_goals intros)
  all_goals rfl
theorem checkCast_calls (A : Option Addr) (n cp : Nat) (L : List Wn) (w : World) (hr : CastR w A n L) (hs : ∀ x ∈ L, x.n ≤ 1000000) : Calls Tryz.prog 56 #[.slice A n cp] w fun e w' => e = .returned (.int .i64 (castE L)) ∧ Ext w w' := by
  have hl := hr.len
  by_cases h1 : 1 ≤ (n : Int) ∧ (n : Int) ≤ 4
  rotate_left
  · have e : castE L = 4 := by unfold castE; rw [if_neg (by omega)]
    rw [e]
    refine enterQ (c := cx w 23) Tryz.func56 rfl rfl rfl rfl ?_
    ((all_goals refine goI0 ?_); (all_goals constructor); (any_goals exact trivial); all_goals intros)
    all_goals rfl
  refine enterQ (c := cx w 23) Tryz.func56 rfl rfl rfl rfl ?_
  ((all_goals refine goI0 ?_); (all_goals constructor); (any_goals exact trivial); all_goals intros)
  apply t_loopK (ι := Nat) [11, 12] (fun j => [(13, .int .i64 ((j : Nat) : Int))]) (fun j => []) (fun j => j ≤ n ∧ ∀ x ∈ L.take j, windB x.l = true) (fun j => n - j) (0)
  (repeat (first | exact KeepF.nil | (apply KeepF.cons; exact rfl) | apply KeepF.skip))
  (repeat (first | exact FrSub.nil | (apply FrSub.cons; exact rfl)))
  (repeat (first | exact HpSub.refl _ | (apply HpSub.consE; (repeat (first | exact P0 | apply P1)); exact rfl) | exact HpSub.nil))
  · exact ⟨Nat.zero_le _, fun y hy => by simp at hy⟩
  rintro j ⟨hj, hok⟩
  try simp only [List.cons_append, List.nil_append]
  by_cases hjn : j < n
  · obtain ⟨b, o, x, rfl, _, hx, c0, hrx, hcx⟩ := hr.read hjn
    have HX := fun w1 (e : Ext w w1) => checkWinds_calls x.A x.n x.c x.l w1 (hrx.ext e) (hs x (List.mem_of_getElem? hx))
    cases hw : windB x.l with
    | false =>
      have e : castE L = 22 := castE_no (by omega) hx hw
      rw [e]
      rw [hw] at HX
      ((all_goals refine goI0 ?_); (all_goals constructor); (any_goals exact trivial); all_goals intros)
      all_goals rfl
    | true =>
      rw [hw] at HX
      ((all_goals refine goI0 ?_); (all_goals constructor); (any_goals exact trivial); all_goals intros)
      all_goals (refine ⟨j + 1, ⟨by omega, take_okW hok hx hw⟩, (by omega), ?_, ?_⟩ <;> (try simp only [List.cons_append, List.nil_append]) <;> (repeat' (first | exact FrSub.nil | (apply FrSub.cons; exact rfl) | exact HpSub.refl _)))
  · obtain rfl : j = n := by omega
    rw [List.take_of_length_le (by omega)] at hok
    have e : castE L = 0 := castE_zero.2 ⟨by omega, hok⟩
    rw [e]
    ((all_goals refine goI0 ?_); (all_goals constructor); (any_goals exact trivial); all_goals intros)
    all_goals rfl
theorem refCheckCast_calls (A : Option Addr) (n cp : Nat) (L : List Wn) (w : World) (hr : CastR w A n L) (hs : ∀ x ∈ L, x.n ≤ 1000000) : Calls Tryz.prog 112 #[.slice A n cp] w fun e w' => e = .returned (.int .i64 (castE L)) ∧ Ext w w' := by
  have hl := hr.len
  by_cases h1 : 1 ≤ (n : Int) ∧ (n : Int) ≤ 4
  rotate_left
  · have e : castE L = 4 := by unfold castE; rw [if_neg (by omega)]
    rw [e]
    refine enterQ (c := cx w 20) Tryz.func112 rfl rfl rfl rfl ?_
    ((all_goals refine goI0 ?_); (all_goals constructor); (any_goals exact trivial); all_goals intros)
    all_goals rfl
  refine enterQ (c := cx w 20) Tryz.func112 rfl rfl rfl rfl ?_
  ((all_goals refine goI0 ?_); (all_goals constructor); (any_goals exact trivial); all_goals intros)
  apply t_loopK (ι := Nat) [0] (fun j => [(3, .int .i64 ((j : Nat) : Int))]) (fun j => []) (fun j => j ≤ n ∧ ∀ x ∈ L.take j, windB x.l = true) (fun j => n - j) (0)
  (repeat (first | exact KeepF.nil | (apply KeepF.cons; exact rfl) | apply KeepF.skip))
  (repeat (first | exact FrSub.nil | (apply FrSub.cons; exact rfl)))
  (repeat (first | exact HpSub.refl _ | (apply HpSub.consE; (repeat (first | exact P0 | apply P1)); exact rfl) | exact HpSub.nil))
  · exact ⟨Nat.zero_le _, fun y hy => by simp at hy⟩
  rintro j ⟨hj, hok⟩
  try simp only [List.cons_append, List.nil_append]
  by_cases hjn : j < n
  · obtain ⟨b, o, x, rfl, _, hx, c0, hrx, hcx⟩ := hr.read hjn
    have HX := fun w1 (e : Ext w w1) => winds_calls x.A x.n x.c x.l w1 (hrx.ext e) (hs x (List.mem_of_getElem? hx))
    cases hw : windB x.l with
    | false =>
      have e : castE L = 22 := castE_no (by omega) hx hw
      rw [e]
      rw [hw] at HX
      ((all_goals refine goI0 ?_); (all_goals constructor); (any_goals exact trivial); all_goals intros)
      all_goals rfl
    | true =>
      rw [hw] at HX
      ((all_goals refine goI0 ?_); (all_goals constructor); (any_goals exact trivial); all_goals intros)
      all_goals (refine ⟨j + 1, ⟨by omega, take_okW hok hx hw⟩, (by omega), ?_, ?_⟩ <;> (try simp only [List.cons_append, List.nil_append]) <;> (repeat' (first | exact FrSub.nil | (apply FrSub.cons; exact rfl) | exact HpSub.refl _)))
  · obtain rfl : j = n := by omega
    rw [List.take_of_length_le (by omega)] at hok
    have e : castE L = 0 := castE_zero.2 ⟨by omega, hok⟩
    rw [e]
    ((all_goals refine goI0 ?_); (all_goals constructor); (any_goals exact trivial); all_goals intros)
    all_goals rfl
theorem length_calls (a b x y h : Int) (hx : -7000 ≤ x ∧ x ≤ 7000) (hy : -7000 ≤ y ∧ y ≤ 7000) (w : World) : Calls Tryz.prog 86 #[.agg #[.int .i64 a, .int .i64 b, .int .i64 x, .int .i64 y, .int .i64 h]] w fun e w' => e = .returned (.int .i64 (lenV x y)) ∧ Ext w w' := by
  have b1 := mul_abs (x := x) (y := x) (a := 7000) (b := 7000) (by omega) (by omega)
  have b2 := mul_abs (x := y) (y := y) (a := 7000) (b := 7000) (by omega) (by omega)
  have HR := fun w1 => boundRoot_calls (10000 * (x * x + y * y)) (10000 * (x * x + y * y)) w1
  unfold lenV
  refine enterQ (c := cx w 27) Tryz.func86 rfl rfl rfl rfl ?_
  ((all_goals refine goI1 ?_); (all_goals constructor); (any_goals exact trivial); all_goals intros)
  all_goals rfl
theorem long_calls (a b x y h : Int) (hx : -7000 ≤ x ∧ x ≤ 7000) (hy : -7000 ≤ y ∧ y ≤ 7000) (w : World) : Calls Tryz.prog 100 #[.agg #[.int .i64 a, .int .i64 b, .int .i64 x, .int .i64 y, .int .i64 h]] w fun e w' => e = .returned (.int .i64 (lenV x y)) ∧ Ext w w' := by
  have b1 := mul_abs (x := x) (y := x) (a := 7000) (b := 7000) (by omega) (by omega)
  have b2 := mul_abs (x := y) (y := y) (a := 7000) (b := 7000) (by omega) (by omega)
  have HR := fun w1 => refRoot_calls (10000 * (x * x + y * y)) (10000 * (x * x + y * y)) w1
  unfold lenV
  refine enterQ (c := cx w 27) Tryz.func100 rfl rfl rfl rfl ?_
  ((all_goals refine goI1 ?_); (all_goals constructor); (any_goals exact trivial); all_goals intros)
  all_goals rfl
theorem great_calls (AM AL : Option Addr) (m cM nL cL : Nat) (A : Option Addr) (n cp : Nat) (L : List Wn) (w : World) (hr : CastR w A n L) : Calls Tryz.prog 15 #[.agg #[.slice AM m cM, .slice AL nL cL], .slice A n cp] w fun e w' => e = .returned (.bool (!decide (Small m nL L))) ∧ Ext w w' := by
  have hl := hr.len
  by_cases h1 : 20 < m
  · rw [decide_eq_false (fun h : Small m nL L => by have := h.1; omega)]
    refine enterQ (c := cx w 33) Tryz.func15 rfl rfl rfl rfl ?_
    ((all_goals refine goI0 ?_); (all_goals constructor); (any_goals exact trivial); all_goals intros)
    all_goals rfl
  by_cases h2 : 50 < nL
  · rw [decide_eq_false (fun h : Small m nL L => by have := h.2.1; omega)]
    refine enterQ (c := cx w 33) Tryz.func15 rfl rfl rfl rfl ?_
    ((all_goals refine goI0 ?_); (all_goals constructor); (any_goals exact trivial); all_goals intros)
    all_goals rfl
  by_cases h3 : 8 < n
  · rw [decide_eq_false (fun h : Small m nL L => by have := h.2.2.1; omega)]
    refine enterQ (c := cx w 33) Tryz.func15 rfl rfl rfl rfl ?_
    ((all_goals refine goI0 ?_); (all_goals constructor); (any_goals exact trivial); all_goals intros)
    all_goals rfl
  refine enterQ (c := cx w 33) Tryz.func15 rfl rfl rfl rfl ?_
  ((all_goals refine goI0 ?_); (all_goals constructor); (any_goals exact trivial); all_goals intros)
  apply t_loopK (ι := Nat) [1] (fun j => [(5, .int .i64 ((j : Nat) : Int))]) (fun j => []) (fun j => j ≤ n ∧ ∀ x ∈ L.take j, x.n ≤ 24) (fun j => n - j) (0)
  (repeat (first | exact KeepF.nil | (apply KeepF.cons; exact rfl) | apply KeepF.skip))
  (repeat (first | exact FrSub.nil | (apply FrSub.cons; exact rfl)))
  (repeat (first | exact HpSub.refl _ | (apply HpSub.consE; (repeat (first | exact P0 | apply P1)); exact rfl) | exact HpSub.nil))
  · exact ⟨Nat.zero_le _, fun y hy => by simp at hy⟩
  rintro j ⟨hj, hok⟩
  try simp only [List.cons_append, List.nil_append]
  by_cases hjn : j < n
  · obtain ⟨b, o, x, rfl, _, hx, c0, hrx, hcx⟩ := hr.read hjn
    by_cases hb : 24 < x.n
    · rw [decide_eq_false (fun h : Small m nL L => by have := h.2.2.2 x (List.mem_of_getElem? hx); omega)]
      ((all_goals refine goI0 ?_); (all_goals constructor); (any_goals exact trivial); all_goals intros)
      all_goals rfl
    · ((all_goals refine goI0 ?_); (all_goals constructor); (any_goals exact trivial); all_goals intros)
      all_goals (refine ⟨j + 1, ⟨by omega, take_okW hok hx (by omega)⟩, (by omega), ?_, ?_⟩ <;> (try simp only [List.cons_append, List.nil_append]) <;> (repeat' (first | exact FrSub.nil | (apply FrSub.cons; exact rfl) | exact HpSub.refl _)))
  · obtain rfl : j = n := by omega
    rw [List.take_of_length_le (by omega)] at hok
    rw [decide_eq_true (show Small m nL L from ⟨by omega, by omega, by omega, hok⟩)]
    ((all_goals refine goI0 ?_); (all_goals constructor); (any_goals exact trivial); all_goals intros)
    all_goals rfl
end Go.Proofs.YtcjkndjjbjoehaaGreat

