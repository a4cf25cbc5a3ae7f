/- A part of the proof: rules for walks, and contracts of functions (13). -/
import Derived.Test.YtcjkndjjbjoehaaGreatX5A
import Derived.Test.YtcjkndjjbjoehaaGreatX5L
import Derived.Test.YtcjkndjjbjoehaaGreatX5D
set_option linter.unusedVariables false
set_option linter.unusedSimpArgs false
set_option maxRecDepth 100000
set_option maxHeartbeats 2000000
namespace Go.Proofs.YtcjkndjjbjoehaaGreat
theorem goN0 {G A1 A2 A3 A4 A5 A6 A7 A8 A9 A10 A11 A12 A13 A14 A15 A16 : Prop} (p : GoP A1 A2 A3 A4 A5 A6 A7 A8 A9 A10 A11 A12 A13 A14 A15 A16) (h : GoL A1 → GoL A2 → GoL A3 → GoL A4 → GoL A5 → GoL A6 → GoL A7 → GoL A8 → GoL A9 → GoL A10 → GoL A11 → GoL A12 → GoL A13 → GoL A14 → GoL A15 → GoL A16 → GoM → G := by intro m1 m2 m3 m4 m5 m6 m7 m8 m9 m10 m11 m12 m13 m14 m15 m16 _; (repeat' (first | ((with_reducible apply oq_id); first | ((with_reducible apply oq_call (k := 77) (hc := Tryz.call77)); exact rfl; exact rfl; exact fun D w1 hw1 => HO w1 hw1.ext.ext) | ((with_reducible apply ob_id); first | (focus ((with_reducible apply (oq_addE (k := ((R.length + 1 + 1 : Nat) : Int)))); exact rfl; exact rfl; omega)) | ((with_reducible apply oq_geqT); exact rfl; exact rfl; omega) | ((with_reducible apply oq_geqF); exact rfl; exact rfl; omega) | ((with_reducible apply oq_lssT); exact rfl; exact rfl; omega) | ((with_reducible apply oq_lssF); exact rfl; exact rfl; omega)) | (focus ((with_reducible apply oq_indexAddrN); exact rfl; exact rfl; exact rfl; exact rfl; omega)) | (apply oq_fn; exact rfl; first | exact trivial | (refine ⟨?_, ?_⟩ <;> omega) | (refine ⟨?_, ?_, ?_⟩ <;> omega) | omega | skip) | ((with_reducible apply oq_load); exact rfl; exact rfl) | ((with_reducible apply oq_loadAgg); exact rfl; exact rfl)) | ((with_reducible apply tl_id); first | ((with_reducible apply tl_nil)) | ((with_reducible apply u_q); exact rfl; exact rfl; exact rfl; exact rfl) | ((with_reducible apply u_s0); exact rfl; exact rfl) | ((with_reducible apply u_s); exact rfl; exact rfl; exact rfl)) | ((with_reducible apply gx_id); first | ((with_reducible apply v_nil)) | ((with_reducible apply v_q); exact rfl; exact rfl; exact rfl) | ((with_reducible apply v_skip); exact rfl; exact rfl; exact rfl)) | ((with_reducible apply os_id); first | ((with_reducible apply (os_storeI (k := k) hln)); exact rfl; exact rfl; exact rfl; (focus ((repeat (first | exact P0 | apply P1)); done))) | ((with_reducible apply (os_storeI (k := k) hln2)); exact rfl; exact rfl; exact rfl; (focus ((repeat (first | exact P0 | apply P1)); done))) | ((with_reducible apply (os_storeI (k := i) hln)); exact rfl; exact rfl; exact rfl; (focus ((repeat (first | exact P0 | apply P1)); done))) | ((with_reducible apply (os_storeI (k := i) (hln3 _))); exact rfl; exact rfl; exact rfl; (focus ((repeat (first | exact P0 | apply P1)); done))) | ((with_reducible apply os_x); exact rfl) | ((with_reducible apply os_append (hk := app_ok57)); exact rfl; exact rfl; (repeat (first | exact P0 | apply P1)))) | ((with_reducible apply ox_id); first | ((with_reducible apply ox_buildSlice1); exact rfl; exact rfl; exact rfl; exact rfl; exact rfl; exact rfl; intro _)) | ((with_reducible apply rd_id); first | (apply rdI hXi; (repeat (first | exact P0 | apply P1)); done) | (apply rdI hps; (repeat (first | exact P0 | apply P1)); done) | (apply Rd.own; (repeat (first | exact P0 | apply P1)); exact rfl; done) | (apply Rd.old; (first | (with_reducible assumption) | exact c0 | exact c1 | exact c2 | exact c3 | exact c4 | exact c5 | exact c6 | exact c7 | exact c8 | exact d0 | exact d1 | exact d2 | exact d3 | exact d4 | exact d5); first | exact List.not_mem_nil | exact m0 | exact m1 | exact m2 | exact m3 | exact m4 | exact m5 | exact m6 | exact m7 | exact m8 | exact m9)) | ((with_reducible apply t_id); first | ((with_reducible apply t_seq)) | (apply t_region; kernel_rfl) | (apply t_drawn; kernel_rfl; decide +kernel; try simp only [List.append_eq, List.cons_append, List.nil_append]) | ((with_reducible apply t_condT); exact rfl) | ((with_reducible apply t_condF); exact rfl) | ((with_reducible apply t_ret)) | ((with_reducible apply t_skip)) | ((with_reducible apply t_exit)) | ((with_reducible apply t_block))) | with_reducible apply q_thenN | with_reducible apply q_blockN | with_reducible apply q_thenE | ((with_reducible apply q_blockE); exact rfl) | exact Rdn.zero | apply Rdn.succ | ((with_reducible apply end_ret)) | exact rvs_nil | ((with_reducible apply rvs_cons)) | ((with_reducible apply rv_tmp); exact rfl) | exact lrM_len _ _ _ | exact Nat.le_of_ble_eq_true rfl | exact (rfl : (_ : Bool) = true) | omega | (intro _ _; with_reducible apply tl_id))); (try focus (repeat (rename_i x; first | exact goD x m1.p | revert x))); (try focus (repeat (rename_i x; first | exact goD x m2.p | revert x))); (try focus (repeat (rename_i x; first | exact goD x m3.p | revert x))); (try focus (repeat (rename_i x; first | exact goD x m4.p | revert x))); (try focus (repeat (rename_i x; first | exact goD x m5.p | revert x))); (try focus (repeat (rename_i x; first | exact goD x m6.p | revert x))); (try focus (repeat (rename_i x; first | exact goD x m7.p | revert x))); (try focus (repeat (rename_i x; first | exact goD x m8.p | revert x))); (try focus (repeat (rename_i x; first | exact goD x m9.p | revert x))); (try focus (repeat (rename_i x; first | exact goD x m10.p | revert x))); (try focus (repeat (rename_i x; first | exact goD x m11.p | revert x))); (try focus (repeat (rename_i x; first | exact goD x m12.p | revert x))); (try focus (repeat (rename_i x; first | exact goD x m13.p | revert x))); (try focus (repeat (rename_i x; first | exact goD x m14.p | revert x))); (try focus (repeat (rename_i x; first | exact goD x m15.p | revert x))); (try focus (repeat (rename_i x; first | exact goD x m16.p | revert x)))) (e : GoTs A1 A2 A3 A4 A5 A6 A7 A8 A9 A10 A11 A12 A13 A14 A15 A16 := by constructor <;> first | (with_reducible exact GoT.t) | exact GoT.u) : G := p.run h
theorem goN1 {G A1 A2 A3 A4 A5 A6 A7 A8 A9 A10 A11 A12 A13 A14 A15 A16 : Prop} (p : GoP A1 A2 A3 A4 A5 A6 A7 A8 A9 A10 A11 A12 A13 A14 A15 A16) (h : GoL A1 → GoL A2 → GoL A3 → GoL A4 → GoL A5 → GoL A6 → GoL A7 → GoL A8 → GoL A9 → GoL A10 → GoL A11 → GoL A12 → GoL A13 → GoL A14 → GoL A15 → GoL A16 → GoM → G := by intro m1 m2 m3 m4 m5 m6 m7 m8 m9 m10 m11 m12 m13 m14 m15 m16 _; (repeat' (first | exact FrSub.nil | (apply FrSub.cons; exact rfl) | exact HpSub.refl _ | (apply HpSub.consE; (repeat (first | exact P0 | apply P1)); first | exact rfl | (simp; done) | (simp [fillF_zero]; done)) | apply HpSub.skipX)); (try focus (repeat (rename_i x; first | exact goD x m1.p | revert x))); (try focus (repeat (rename_i x; first | exact goD x m2.p | revert x))); (try focus (repeat (rename_i x; first | exact goD x m3.p | revert x))); (try focus (repeat (rename_i x; first | exact goD x m4.p | revert x))); (try focus (repeat (rename_i x; first | exact goD x m5.p | revert x))); (try focus (repeat (rename_i x; first | exact goD x m6.p | revert x))); (try focus (repeat (rename_i x; first | exact goD x m7.p | revert x))); (try focus (repeat (rename_i x; first | exact goD x m8.p | revert x))); (try focus (repeat (rename_i x; first | exact goD x m9.p | revert x))); (try focus (repeat (rename_i x; first | exact goD x m10.p | revert x))); (try focus (repeat (rename_i x; first | exact goD x m11.p | revert x))); (try focus (repeat (rename_i x; first | exact goD x m12.p | revert x))); (try focus (repeat (rename_i x; first | exact goD x m13.p | revert x))); (try focus (repeat (rename_i x; first | exact goD x m14.p | revert x))); (try focus (repeat (rename_i x; first | exact goD x m15.p | revert x))); (try focus (repeat (rename_i x; first | exact goD x m16.p | revert x)))) (e : GoTs A1 A2 A3 A4 A5 A6 A7 A8 A9 A10 A11 A12 A13 A14 A15 A16 := by constructor <;> first | (with_reducible exact GoT.t) | exact GoT.u) : G := p.run h
open Go.RowKit
attribute [local irreducible] OQ OS OX Rd T TL GX GL AL AI RV wpG SAny Calls
theorem zero3z : (Tryz.prog.info? 3).map (fun i => i.zero) = some (some (.int .i64 0)) := by kernel_rfl
/-- A list of n numbers, of which the first k are made. -/
def fillF (f : Nat → Int) (n k : Nat) : List Int := (List.range n).map fun j => if j < k then f j else 0
theorem fillF_len (f : Nat → Int) (n k : Nat) : (fillF f n k).length = n := by simp [fillF]
theorem fillF_get {f : Nat → Int} {n k j : Nat} (hj : j < n) : (fillF f n k)[j]? = some (if j < k then f j else 0) := by simp [fillF, hj]
theorem fillF_set {f : Nat → Int} {n k : Nat} : (fillF f n k).set k (f k) = fillF f n (k + 1) := by
  refine List.ext_getElem? fun j => ?_
  rw [List.getElem?_set]
  by_cases hj : j < n
  · rw [fillF_get hj, fillF_get hj, fillF_len]
    by_cases h : k = j
    · subst h; simp [hj]
    · rw [if_neg h]
      by_cases h2 : j < k
      · rw [if_pos h2, if_pos (by omega)]
      · rw [if_neg h2, if_neg (by omega)]
  · have e1 : (fillF f n k)[j]? = none := by rw [List.getElem?_eq_none_iff, fillF_len]; omega
    have e2 : (fillF f n (k + 1))[j]? = none := by rw [List.getElem?_eq_none_iff, fillF_len]; omega
    rw [e1, e2, fillF_len]
    split
    · rw [if_neg (by omega)]
    · rfl
theorem fillF_full (f : Nat → Int) (n : Nat) : fillF f n n = (List.range n).map f := by
  unfold fillF
  refine List.map_congr_left fun j hj => ?_
  rw [if_pos (List.mem_range.1 hj)]
theorem fillF_zero (f : Nat → Int) (n : Nat) : fillF f n 0 = List.replicate n 0 := by
  unfold fillF
  refine List.ext_getElem? fun j => ?_
  by_cases hj : j < n <;> simp [hj]
/-- What the first tracks give. -/
def foldT (cst : Lg → Bool → Int) (L : List Lg) (P : List Int) (i t : Nat) : Int := ((List.range t).filterMap (arcT cst L i)).foldl (addL P) (-1)
theorem foldT_succ (cst : Lg → Bool → Int) (L : List Lg) (P : List Int) (i t : Nat) : foldT cst L P i (t + 1) = match arcT cst L i t with | some x => addL P (foldT cst L P i t) x | none => foldT cst L P i t := by
  unfold foldT
  rw [List.range_succ, List.filterMap_append, List.foldl_append]
  cases h : arcT cst L i t <;> simp [h]
/-- The fuels of the tracks, there and back, as they lie. -/
structure Cw where
  A : Option Addr
  c : Nat
  x : Int
  y : Int
structure CoR (w : World) (A : Option Addr) (n : Nat) (S : List Cw) : Prop where
  rows : RdS w 1 A n (S.map fun r => [.slice r.A 2 r.c])
  each : ∀ r ∈ S, RdS w 1 r.A 2 ([r.x, r.y].map inCells)
theorem CoR.ext {w w' : World} {A : Option Addr} {n : Nat} {S : List Cw} (h : CoR w A n S) (e : Ext w w') : CoR w' A n S := ⟨h.rows.ext e, fun r hr => (h.each r hr).ext e⟩
theorem CoR.read {w : World} {A : Option Addr} {n : Nat} {S : List Cw} (h : CoR w A n S) {i : Nat} (hi : i < n) :
    ∃ b o r, A = some ⟨b, o, none⟩ ∧ b < w.heap.size ∧ S[i]? = some r ∧ w.cell? ⟨b, o + i * 1, none⟩ = some (.slice r.A 2 r.c) ∧ RdS w 1 r.A 2 ([r.x, r.y].map inCells) := by
  obtain ⟨b, o, cs, hA, hb, hx, _, hc⟩ := h.rows.row hi
  simp only [List.getElem?_map, Option.map_eq_some_iff] at hx
  obtain ⟨r, hx, rfl⟩ := hx
  exact ⟨b, o, r, hA, hb, hx, hc 0 _ rfl, h.each r (List.mem_of_getElem? hx)⟩
theorem bl_read {w : World} {A : Option Addr} {n : Nat} {l : List Bool} (h : RdS w 1 A n (l.map blCells)) {i : Nat} (hi : i < n) :
    ∃ b o x, A = some ⟨b, o, none⟩ ∧ b < w.heap.size ∧ l[i]? = some x ∧ w.cell? ⟨b, o + i * 1, none⟩ = some (.bool x) := by
  obtain ⟨b, o, cs, hA, hb, hx, _, hc⟩ := h.row hi
  simp only [List.getElem?_map, Option.map_eq_some_iff] at hx
  obtain ⟨x, hx, rfl⟩ := hx
  exact ⟨b, o, x, hA, hb, hx, hc 0 _ rfl⟩
/-- A row of the table, and where it lies. -/
abbrev Lr := Nat × List Int
def lrS (n : Nat) (r : Lr) : Value := .slice (some ⟨r.1, 0, none⟩) n n
def lrK (n : Nat) (a : Hp) (r : Lr) : Hp := (r.1, r.2.map iv, some (3, 1, n)) :: a
def lrB (n : Nat) (R : List Lr) : Hp := R.foldl (lrK n) []
theorem lrB_snoc (n : Nat) (R : List Lr) (r : Lr) : lrB n (R ++ [r]) = (r.1, r.2.map iv, some (3, 1, n)) :: lrB n R := by simp [lrB, lrK, List.foldl_append]
/-- The table that is handed out. -/
def LeadV (m : Nat) (T : List (List Int)) (u : Value) (H : Hp) : Prop := ∃ (R : List Lr) (bo co : Nat), R.map Prod.snd = T ∧ u = .slice (some ⟨bo, 0, none⟩) R.length co ∧ H = (bo, R.map (lrS m), some (31, 1, co)) :: lrB m R
theorem lrM_len (m : Nat) (R : List Lr) (r : Lr) : (R.map (lrS m) ++ [lrS m r]).length = (R.length + 1) * 1 := by simp
theorem rd_last {c : Cx} {H H' : Hp} {g m : Nat} {R : List Lr} {r : Lr} {tg : Tg} (p : Pick H g (R.map (lrS m) ++ [lrS m r]) tg H') : Rd c H ⟨g, 0 + R.length * 1, none⟩ (lrS m r) := Rd.own p (by simp)
theorem addL_le {P : List Int} {B : Int} (hB : 0 ≤ B) (hP : ∀ x ∈ P, x ≤ B) {D : Int} (l : List (Nat × Nat × Int)) (hl : ∀ x ∈ l, 0 ≤ x.2.2 ∧ x.2.2 ≤ D) (hD : 0 ≤ D) : l.foldl (addL P) (-1) ≤ D + B := by
  rcases (addL_spec P l (-1) (fun x hx => (hl x hx).1)).1 with h | ⟨x, hx, h0, h⟩
  · omega
  · have h1 := hl x hx
    have : P.getD x.2.1 (-1) ≤ B := by
      rw [List.getD_eq_getElem?_getD] at *
      cases hg : P[x.2.1]? with
      | none => simp; omega
      | some y => simp; exact hP y (List.mem_of_getElem? hg)
    omega
theorem lead_le {cst : Lg → Bool → Int} {L : List Lg} {m : Nat} {to : Nat → Bool} (hc : ∀ z ∈ L, ∀ bk, cst z bk ≤ 166666666667) : ∀ k, ∀ x ∈ leadF (arcs cst L) m to k, x ≤ (k : Int) * 166666666667
  | 0, x, hx => by
    obtain ⟨i, _, rfl⟩ := List.mem_map.1 hx
    split <;> omega
  | k + 1, x, hx => by
    obtain ⟨i, _, rfl⟩ := List.mem_map.1 hx
    have ih := lead_le (to := to) (m := m) hc k
    have := addL_le (P := leadF (arcs cst L) m to k) (B := (k : Int) * 166666666667) (by omega) ih (D := 166666666667) (arcs cst L i) (fun x hx => by
      obtain ⟨_, z, hz, h0, h⟩ := arcT_some (arcs_mem hx)
      refine ⟨h0, ?_⟩
      have hm := List.mem_of_getElem? hz
      rcases h with ⟨_, e⟩ | ⟨_, e⟩ <;> rw [e] <;> exact hc z hm _) (by omega)
    omega
theorem lead_get {cst : Lg → Bool → Int} {L : List Lg} {m : Nat} {to : Nat → Bool} {k s : Nat} (hs : s < m) : (leadF (arcs cst L) m to k)[s]? = some ((leadF (arcs cst L) m to k).getD s (-1)) := by
  have : s < (leadF (arcs cst L) m to k).length := by rw [leadF_len]; exact hs
  rw [List.getD_eq_getElem?_getD, List.getElem?_eq_getElem this]; rfl
/-- What a track gives, in both tellings. -/
theorem other_arc {cst : Lg → Bool → Int} {L : List Lg} {m i t : Nat} {z : Lg} (hz : L[t]? = some z) (hL : LegOk m z) (hc : ∀ bk, cst z bk ≤ 166666666667) (hc1 : ∀ bk, -1 ≤ cst z bk) :
    ∃ site cost : Int, (if z.a = (i : Int) then z.b else if z.b = (i : Int) then z.a else 0) = site ∧ (if z.a = (i : Int) then cst z false else if z.b = (i : Int) then cst z true else -1) = cost ∧ -1 ≤ cost ∧ cost ≤ 166666666667 ∧
      ((cost < 0 ∧ arcT cst L i t = none) ∨ (0 ≤ cost ∧ ∃ s : Nat, site = (s : Int) ∧ s < m ∧ arcT cst L i t = some (t, s, cost))) := by
  refine ⟨_, _, rfl, rfl, ?_⟩
  obtain ⟨h1, h2, _⟩ := hL
  have e : arcT cst L i t = arcOf cst i z t := by unfold arcT; rw [hz]; rfl
  rw [e]
  unfold arcOf
  have c0 := hc false
  have c1 := hc true
  have d0 := hc1 false
  have d1 := hc1 true
  by_cases ha : z.a = (i : Int)
  · simp only [if_pos ha]
    refine ⟨d0, c0, ?_⟩
    by_cases h0 : 0 ≤ cst z false
    · rw [if_pos h0]; exact .inr ⟨h0, z.b.toNat, by omega, by omega, rfl⟩
    · rw [if_neg h0]; exact .inl ⟨by omega, rfl⟩
  · simp only [if_neg ha]
    by_cases hb : z.b = (i : Int)
    · simp only [if_pos hb]
      refine ⟨d1, c1, ?_⟩
      by_cases h0 : 0 ≤ cst z true
      · rw [if_pos h0]; exact .inr ⟨h0, z.a.toNat, by omega, by omega, rfl⟩
      · rw [if_neg h0]; exact .inl ⟨by omega, rfl⟩
    · simp only [if_neg hb]
      exact ⟨by omega, by omega, .inl ⟨by omega, by simp⟩⟩
theorem lead_calls (AM A : Option Addr) (m cM n cp : Nat) (L : List Lg) (w : World) (hr : RdS w 5 A n (L.map lgCells)) (hn : n ≤ 1000000) (hm0 : 1 ≤ m) (hm : m ≤ 1000) (AK : Option Addr) (cK : Nat) (K : List Cw) (hk0 : CoR w AK n K) (AT : Option Addr) (cT : Nat) (T : List Bool) (hT : RdS w 1 AT m (T.map blCells)) (hL : ∀ z ∈ L, LegOk m z) (cst : Lg → Bool → Int) (hK : K.map (fun r => (r.x, r.y)) = L.map (fun z => (cst z false, cst z true))) (hc : ∀ z ∈ L, ∀ bk, cst z bk ≤ 166666666667) (hc1 : ∀ z ∈ L, ∀ bk, -1 ≤ cst z bk) : Calls Tryz.prog 113 #[.agg #[.slice AM m cM, .slice A n cp], .slice AK n cK, .slice AT m cT] w fun e w' => ∃ u H', e = .returned u ∧ LeadV m ((List.range m).map (leadF (arcs cst L) m (fun j => T.getD j false))) u H' ∧ Has w ⟨[], []⟩ H' w' := by
  have hl : L.length = n := by simpa using hr.len
  have hlT : T.length = m := by simpa using hT.len
  refine enterF (c := cx w 124) Tryz.func113 rfl rfl rfl rfl ?_
  repeat' (first | ((with_reducible apply oq_id); first | (apply oq_fn; exact rfl; first | exact trivial | (refine ⟨?_, ?_⟩ <;> omega) | (refine ⟨?_, ?_, ?_⟩ <;> omega) | omega | skip) | ((with_reducible apply oq_load); exact rfl; exact rfl)) | ((with_reducible apply tl_id); first | ((with_reducible apply tl_nil)) | ((with_reducible apply u_s); exact rfl; exact rfl; exact rfl; ((with_reducible apply (os_makeI (n := m) (hk := app_ok31) (hz := zero3z))); exact rfl; exact rfl; omega; (unfold maxLen; omega); intro b8)) | ((with_reducible apply u_q); exact rfl; exact rfl; exact rfl; exact rfl) | ((with_reducible apply u_s); exact rfl; exact rfl; exact rfl)) | ((with_reducible apply os_id); first | ((with_reducible apply os_x); exact rfl)) | ((with_reducible apply ox_id); first | ((with_reducible apply ox_boxAgg); exact rfl; intro _)) | ((with_reducible apply rd_id); first | (apply Rd.own; (repeat (first | exact P0 | apply P1)); exact rfl; done)) | ((with_reducible apply t_id); first | ((with_reducible apply t_seq)) | (apply t_region; kernel_rfl) | ((with_reducible apply t_block))) | with_reducible apply q_thenN)
  rename_i b3
  rw [show List.replicate m (Value.int .i64 0) = (fillF (fun j => if T.getD j false then 0 else -1) m 0).map iv by rw [fillF_zero, List.map_replicate]; rfl]
  apply t_loopK (ι := Nat) [1, 2, 3, 6, 7, 8] (fun k => [(9, .int .i64 ((k : Nat) : Int))]) (fun k => [(b3, [.slice AM m cM, .slice A n cp], some (25, 2, 1)), (b8, (fillF (fun j => if T.getD j false then 0 else -1) m k).map iv, some (3, 1, m))]) (fun k => k ≤ m) (fun k => m - k) (0)
  (repeat (first | exact KeepF.nil | (apply KeepF.cons; exact rfl) | apply KeepF.skip))
  (repeat (first | exact FrSub.nil | (apply FrSub.cons; exact rfl)))
  (repeat (first | exact HpSub.refl _ | (apply HpSub.consE; (repeat (first | exact P0 | apply P1)); exact rfl) | exact HpSub.nil))
  · exact Nat.zero_le _
  rintro k hk
  try simp only [List.cons_append, List.nil_append]
  by_cases hlt : k < m
  · obtain ⟨bT, oT, x, rfl, _, hx, c0⟩ := bl_read hT hlt
    have hTk : T.getD k false = x := by rw [List.getD_eq_getElem?_getD, hx]; rfl
    have hs := fillF_set (f := (fun j => if T.getD j false then 0 else -1)) (n := m) (k := k)
    simp only [hTk] at hs
    have hln : k < (fillF (fun j => if T.getD j false then 0 else -1) m k).length := by rw [fillF_len]; exact hlt
    have hln2 : k < ((fillF (fun j => if T.getD j false then 0 else -1) m k).set k (-1)).length := by rw [List.length_set, fillF_len]; exact hlt
    cases x with
    | true =>
      simp only [if_true] at hs
      have hs2 : ((fillF (fun j => if T.getD j false then 0 else -1) m k).set k (-1)).set k 0 = fillF (fun j => if T.getD j false then 0 else -1) m (k + 1) := by rw [List.set_set]; exact hs
      ((all_goals refine goN0 ?_); (all_goals constructor); (any_goals exact trivial); all_goals intros)
      all_goals (refine ⟨k + 1, by omega, by omega, ?_, ?_⟩ <;> (try rw [hs2]) <;> (((all_goals refine goN1 ?_); (all_goals constructor); (any_goals exact trivial); all_goals intros)))
    | false =>
      simp only [Bool.false_eq_true, if_false] at hs
      ((all_goals refine goN0 ?_); (all_goals constructor); (any_goals exact trivial); all_goals intros)
      all_goals (refine ⟨k + 1, by omega, by omega, ?_, ?_⟩ <;> (try rw [hs]) <;> (((all_goals refine goN1 ?_); (all_goals constructor); (any_goals exact trivial); all_goals intros)))
  obtain rfl : m = k := by omega
  rw [fillF_full]
  ((all_goals refine goN0 ?_); (all_goals constructor); (any_goals exact trivial); all_goals intros)
  rename_i bO
  apply t_loopK (ι := List Lr × Nat × Nat × Nat) [1, 3, 6, 7] (fun z => [(11, .int .i64 ((z.1.length + 1 : Nat) : Int)), (10, .slice (some ⟨z.2.1, 0, none⟩) (z.1.length + 1) z.2.2.1)]) (fun z => (b3, [.slice AM m cM, .slice A n cp], some (25, 2, 1)) :: (z.2.1, z.1.map (lrS m) ++ [lrS m (z.2.2.2, (leadF (arcs cst L) m (fun j => T.getD j false) z.1.length))], some (31, 1, z.2.2.1)) :: (z.2.2.2, (leadF (arcs cst L) m (fun j => T.getD j false) z.1.length).map iv, some (3, 1, m)) :: lrB m z.1) (fun z => z.1.length + 1 ≤ m ∧ z.1.map Prod.snd = (List.range z.1.length).map (leadF (arcs cst L) m (fun j => T.getD j false))) (fun z => m - z.1.length) (([], bO, 1, b8))
  (repeat (first | exact KeepF.nil | (apply KeepF.cons; exact rfl) | apply KeepF.skip))
  (repeat (first | exact FrSub.nil | (apply FrSub.cons; exact rfl)))
  (repeat (first | exact HpSub.refl _ | (apply HpSub.consE; (repeat (first | exact P0 | apply P1)); exact rfl) | exact HpSub.nil))
  · exact ⟨by simp only [List.length_nil]; omega, rfl⟩
  rintro ⟨R, bo, co, bl⟩ ⟨hRm, hRs⟩
  simp only at hRm hRs
  try simp only [List.cons_append, List.nil_append]
  have hQb := lead_le (to := fun j => T.getD j false) (m := m) hc R.length
  have hQl := leadF_len (A := arcs cst L) (n := m) (to := fun j => T.getD j false) R.length
  have hnx : leadF (arcs cst L) m (fun j => T.getD j false) (R.length + 1) = (List.range m).map (fun j => foldT cst L (leadF (arcs cst L) m (fun j => T.getD j false) R.length) j n) := by rw [← hl]; rfl
  have hRx : (R ++ [(bl, leadF (arcs cst L) m (fun j => T.getD j false) R.length)]).map Prod.snd = (List.range (R.length + 1)).map (leadF (arcs cst L) m (fun j => T.getD j false)) := by rw [List.range_succ, List.map_append, List.map_append, hRs]; rfl
  have hgQ := fun s (h : s < m) => lead_get (cst := cst) (L := L) (to := fun j => T.getD j false) (k := R.length) h
  generalize leadF (arcs cst L) m (fun j => T.getD j false) R.length = Q at *
  by_cases hlB : R.length + 1 < m
  · repeat' (first | ((with_reducible apply oq_id); first | (focus ((with_reducible apply (oq_subE (k := ((R.length : Nat) : Int)))); exact rfl; exact rfl; omega)) | (focus ((with_reducible apply oq_indexAddrN); exact rfl; exact rfl; exact rfl; exact rfl; omega)) | ((with_reducible apply oq_lssT); exact rfl; exact rfl; omega) | (apply oq_fn; exact rfl; first | exact trivial | (refine ⟨?_, ?_⟩ <;> omega) | (refine ⟨?_, ?_, ?_⟩ <;> omega) | omega | skip) | ((with_reducible apply oq_load); exact rfl; exact rfl)) | ((with_reducible apply tl_id); first | ((with_reducible apply tl_nil)) | ((with_reducible apply u_s); exact rfl; exact rfl; exact rfl; ((with_reducible apply (os_makeI (n := m) (hk := app_ok31) (hz := zero3z))); exact rfl; exact rfl; omega; (unfold maxLen; omega); intro bX)) | ((with_reducible apply u_q); exact rfl; exact rfl; exact rfl; exact rfl)) | ((with_reducible apply rd_id); first | (apply rd_last; (repeat (first | exact P0 | apply P1)); done)) | ((with_reducible apply t_id); first | ((with_reducible apply t_seq)) | (apply t_region; kernel_rfl) | ((with_reducible apply t_condT); exact rfl) | ((with_reducible apply t_skip)) | ((with_reducible apply t_block))) | with_reducible apply q_thenN)
    rw [show List.replicate m (Value.int .i64 0) = (fillF (fun j => foldT cst L Q j n) m 0).map iv by rw [fillF_zero, List.map_replicate]; rfl]
    apply t_loopK (ι := Nat) [1, 3, 6, 7, 10, 11, 12, 13] (fun i => [(14, .int .i64 ((i : Nat) : Int))]) (fun i => (b3, [.slice AM m cM, .slice A n cp], some (25, 2, 1)) :: (bX, (fillF (fun j => foldT cst L Q j n) m i).map iv, some (3, 1, m)) :: (bo, R.map (lrS m) ++ [lrS m (bl, Q)], some (31, 1, co)) :: (bl, Q.map iv, some (3, 1, m)) :: lrB m R) (fun i => i ≤ m) (fun i => m - i) (0)
    (repeat (first | exact KeepF.nil | (apply KeepF.cons; exact rfl) | apply KeepF.skip))
    (repeat (first | exact FrSub.nil | (apply FrSub.cons; exact rfl)))
    (repeat (first | exact HpSub.refl _ | (apply HpSub.consE; (repeat (first | exact P0 | apply P1)); exact rfl) | exact HpSub.nil))
    · exact Nat.zero_le _
    rintro i hi
    try simp only [List.cons_append, List.nil_append]
    by_cases hlC : i < m
    · have hln : i < (fillF (fun j => foldT cst L Q j n) m i).length := by rw [fillF_len]; exact hlC
      have hs : (fillF (fun j => foldT cst L Q j n) m i).set i (foldT cst L Q i n) = fillF (fun j => foldT cst L Q j n) m (i + 1) := fillF_set
      ((all_goals refine goN0 ?_); (all_goals constructor); (any_goals exact trivial); all_goals intros)
      apply t_loopK (ι := Nat) [1, 3, 6, 7, 10, 11, 12, 13, 14] (fun t => [(15, .int .i64 ((t : Nat) : Int))]) (fun t => (b3, [.slice AM m cM, .slice A n cp], some (25, 2, 1)) :: (bX, ((fillF (fun j => foldT cst L Q j n) m i).set i (foldT cst L Q i t)).map iv, some (3, 1, m)) :: (bo, R.map (lrS m) ++ [lrS m (bl, Q)], some (31, 1, co)) :: (bl, Q.map iv, some (3, 1, m)) :: lrB m R) (fun t => t ≤ n) (fun t => n - t) (0)
      (repeat (first | exact KeepF.nil | (apply KeepF.cons; exact rfl) | apply KeepF.skip))
      (repeat (first | exact FrSub.nil | (apply FrSub.cons; exact rfl)))
      (repeat (first | exact HpSub.refl _ | (apply HpSub.consE; (repeat (first | exact P0 | apply P1)); exact rfl) | exact HpSub.nil))
      · exact Nat.zero_le _
      rintro t ht
      try simp only [List.cons_append, List.nil_append]
      by_cases hlD : t < n
      · obtain ⟨bA, oA, z, rfl, _, hz, c0, c1, c2, c3, c4⟩ := lg_read hr hlD
        obtain ⟨bK, oK, r, rfl, _, hrt, d0, hrr⟩ := hk0.read hlD
        have hm' := List.mem_of_getElem? hz
        have hxy : (r.x, r.y) = (cst z false, cst z true) := by
          have h := congrArg (fun l => l[t]?) hK
          simp only [List.getElem?_map, hrt, hz, Option.map_some, Option.some.injEq] at h
          exact h
        simp only [Prod.mk.injEq] at hxy
        have HO := fun w1 (hx : Ext w w1) => other_calls z r.A r.c r.x r.y (i : Int) w1 (hrr.ext hx)
        obtain ⟨site, cost, hs1, hs2, hcl, hcu, hcase⟩ := other_arc (m := m) (i := i) hz (hL z hm') (hc z hm') (hc1 z hm')
        rw [hxy.1, hxy.2, hs1, hs2] at HO
        have hf := foldT_succ cst L Q i t
        have hset : ∀ u v : Int, ((fillF (fun j => foldT cst L Q j n) m i).set i u).set i v = (fillF (fun j => foldT cst L Q j n) m i).set i v := fun u v => List.set_set ..
        have hln3 : ∀ u : Int, i < ((fillF (fun j => foldT cst L Q j n) m i).set i u).length := fun u => by rw [List.length_set, fillF_len]; exact hlC
        obtain ⟨z0, hz0⟩ : ∃ v, foldT cst L Q i t = v := ⟨_, rfl⟩
        rw [hz0] at hf ⊢
        have hXi : ((fillF (fun j => foldT cst L Q j n) m i).set i z0)[i]? = some z0 := by rw [List.getElem?_set_self (by rw [fillF_len]; exact hlC)]
        rcases hcase with ⟨hneg, harc⟩ | ⟨h0, s, rfl, hsm, harc⟩
        · rw [harc] at hf
          simp only at hf
          ((all_goals refine goN0 ?_); (all_goals constructor); (any_goals exact trivial); all_goals intros)
          all_goals (refine ⟨t + 1, by omega, by omega, ?_, ?_⟩ <;> (try simp only [hf]) <;> (((all_goals refine goN1 ?_); (all_goals constructor); (any_goals exact trivial); all_goals intros)))
        · rw [harc] at hf
          simp only at hf
          have hps := hgQ s hsm
          unfold addL at hf
          simp only at hf
          obtain ⟨ps, hpe⟩ : ∃ v, Q.getD s (-1) = v := ⟨_, rfl⟩
          rw [hpe] at hps hf
          have hpb := hQb ps (List.mem_of_getElem? hps)
          by_cases hp0 : 0 ≤ ps
          · by_cases hu : z0 < 0 ∨ cost + ps < z0
            · rw [if_pos ⟨hp0, hu⟩] at hf
              have hse := hset z0 (cost + ps)
              rcases hu with hu | hu
              · ((all_goals refine goN0 ?_); (all_goals constructor); (any_goals exact trivial); all_goals intros)
                all_goals (refine ⟨t + 1, by omega, by omega, ?_, ?_⟩ <;> (try simp only [hf, hse]) <;> (((all_goals refine goN1 ?_); (all_goals constructor); (any_goals exact trivial); all_goals intros)))
              · by_cases hz1 : z0 < 0
                · ((all_goals refine goN0 ?_); (all_goals constructor); (any_goals exact trivial); all_goals intros)
                  all_goals (refine ⟨t + 1, by omega, by omega, ?_, ?_⟩ <;> (try simp only [hf, hse]) <;> (((all_goals refine goN1 ?_); (all_goals constructor); (any_goals exact trivial); all_goals intros)))
                · ((all_goals refine goN0 ?_); (all_goals constructor); (any_goals exact trivial); all_goals intros)
                  all_goals (refine ⟨t + 1, by omega, by omega, ?_, ?_⟩ <;> (try simp only [hf, hse]) <;> (((all_goals refine goN1 ?_); (all_goals constructor); (any_goals exact trivial); all_goals intros)))
            · rw [if_neg (fun e => hu e.2)] at hf
              have hu1 : ¬ z0 < 0 := fun e => hu (.inl e)
              have hu2 : ¬ cost + ps < z0 := fun e => hu (.inr e)
              ((all_goals refine goN0 ?_); (all_goals constructor); (any_goals exact trivial); all_goals intros)
              all_goals (refine ⟨t + 1, by omega, by omega, ?_, ?_⟩ <;> (try simp only [hf]) <;> (((all_goals refine goN1 ?_); (all_goals constructor); (any_goals exact trivial); all_goals intros)))
          · rw [if_neg (fun e => hp0 e.1)] at hf
            ((all_goals refine goN0 ?_); (all_goals constructor); (any_goals exact trivial); all_goals intros)
            all_goals (refine ⟨t + 1, by omega, by omega, ?_, ?_⟩ <;> (try simp only [hf]) <;> (((all_goals refine goN1 ?_); (all_goals constructor); (any_goals exact trivial); all_goals intros)))
      · obtain rfl : n = t := by omega
        rw [hs]
        ((all_goals refine goN0 ?_); (all_goals constructor); (any_goals exact trivial); all_goals intros)
        all_goals (refine ⟨i + 1, by omega, by omega, ?_, ?_⟩ <;> (((all_goals refine goN1 ?_); (all_goals constructor); (any_goals exact trivial); all_goals intros)))
    · obtain rfl : m = i := by omega
      rw [fillF_full, ← hnx]
      ((all_goals refine goN0 ?_); (all_goals constructor); (any_goals exact trivial); all_goals intros)
      all_goals (rename_i bT bN cN; refine ⟨(R ++ [(bl, Q)], bN, cN, bX), ⟨by simp only [List.length_append, List.length_singleton]; omega, by simp only [List.length_append, List.length_singleton]; exact hRx⟩, by simp only [List.length_append, List.length_singleton]; omega, ?_, ?_⟩ <;> (try simp only [lrB_snoc, List.map_append, List.map_cons, List.map_nil, List.length_append, List.length_singleton, List.append_nil]) <;> (((all_goals refine goN1 ?_); (all_goals constructor); (any_goals exact trivial); all_goals intros)))
  · obtain rfl : m = R.length + 1 := by omega
    ((all_goals refine goN0 ?_); (all_goals constructor); (any_goals exact trivial); all_goals intros)
    all_goals (refine ⟨_, ⟨R ++ [(bl, Q)], bo, co, hRx, (by rw [List.length_append, List.length_singleton]; rfl), rfl⟩, ?_⟩ <;> (try simp only [lrB_snoc, List.map_append, List.map_cons, List.map_nil, List.append_nil]) <;> (((all_goals refine goN1 ?_); (all_goals constructor); (any_goals exact trivial); all_goals intros)))
end Go.Proofs.YtcjkndjjbjoehaaGreat

