/- A part of the proof: rules for walks, and contracts of functions (4). -/
import Derived.Test.YtcjkndjjbjoehaaGreatX3A
import Derived.Test.YtcjkndjjbjoehaaGreatX3C
import Derived.Test.YtcjkndjjbjoehaaGreatX3B
set_option linter.unusedVariables false
set_option linter.unusedSimpArgs false
set_option maxRecDepth 100000
set_option maxHeartbeats 2000000
namespace Go.Proofs.YtcjkndjjbjoehaaGreat
theorem goG0 {G A1 A2 A3 A4 A5 A6 A7 A8 A9 A10 A11 A12 A13 A14 A15 A16 : Prop} (p : GoP A1 A2 A3 A4 A5 A6 A7 A8 A9 A10 A11 A12 A13 A14 A15 A16) (h : GoL A1 → GoL A2 → GoL A3 → GoL A4 → GoL A5 → GoL A6 → GoL A7 → GoL A8 → GoL A9 → GoL A10 → GoL A11 → GoL A12 → GoL A13 → GoL A14 → GoL A15 → GoL A16 → GoM → G := by intro m1 m2 m3 m4 m5 m6 m7 m8 m9 m10 m11 m12 m13 m14 m15 m16 _; (repeat' (first | ((with_reducible apply oq_id); first | ((with_reducible apply oc_id); first | ((with_reducible apply oq_call (k := f) (hc := hc)); exact rfl; exact rfl; exact fun D w1 hw1 => hf x w1) | ((with_reducible apply oq_call (k := 123) (hc := Tryz.call123)); exact rfl; exact rfl; exact fun D w1 hw1 => clamp1 hw1 (by (repeat (first | exact P0 | apply P1))) (by (repeat (first | exact P0 | apply P1)))) | ((with_reducible apply oq_call (k := 124) (hc := Tryz.call124)); exact rfl; exact rfl; exact fun D w1 hw1 => value_calls _ _ _ (tabG e l) _ _ w1 (tabG_rows hl hw1 (by (repeat (first | exact P0 | apply P1)))) (hW.tab (by omega)) (tabG_fst hx (by omega)) (by omega) (tabG_lst hy (by omega))) | ((with_reducible apply oq_call (k := 178) (hc := Tryz.call178)); exact rfl; exact rfl; exact fun D w1 hw1 => floor_calls _ _ hb hb1 (by omega) w1) | ((with_reducible apply oq_call (k := 178) (hc := Tryz.call178)); exact rfl; exact rfl; exact fun D w1 hw1 => floor_calls _ _ (by omega) (by omega) M1 w1) | ((with_reducible apply oq_call (k := 179) (hc := Tryz.call179)); exact rfl; exact rfl; exact fun D w1 hw1 => ceil_calls _ _ (by omega) (by omega) M3 w1) | ((with_reducible apply oq_call (k := 165) (hc := Tryz.call165)); exact rfl; exact rfl; exact fun D w1 hw1 => within1_calls _ _ _ w1) | ((with_reducible apply oq_call (k := 176) (hc := Tryz.call176)); exact rfl; exact rfl; exact fun D w1 hw1 => table_ok _ _ _ t w1 (hr.ext hw1.ext.ext) ht) | ((with_reducible apply oq_call (k := 147) (hc := Tryz.call147)); exact rfl; exact rfl; exact fun D w1 hw1 => HC w1) | ((with_reducible apply oq_call (k := 177) (hc := Tryz.call177)); exact rfl; exact rfl; exact fun D w1 hw1 => HP w1 hw1.ext.ext) | ((with_reducible apply oq_call (k := 177) (hc := Tryz.call177)); exact rfl; exact rfl; exact fun D w1 hw1 => HQ w1 hw1.ext.ext) | ((with_reducible apply oq_call (k := 174) (hc := Tryz.call174)); exact rfl; exact rfl; exact fun D w1 hw1 => refValue_calls _ _ _ (tabG e l) _ _ w1 (tabG_rows hl hw1 (by (repeat (first | exact P0 | apply P1)))) (hW.tab (by omega)) (tabG_fst hx (by omega)) (by omega) (tabG_lst hy (by omega))) | ((with_reducible apply oq_call (k := 147) (hc := Tryz.call147)); exact rfl; exact rfl; exact fun D w1 hw1 => HV w1) | ((with_reducible apply oq_call (k := 137) (hc := Tryz.call137)); exact rfl; exact rfl; exact fun D w1 hw1 => HC w1 hw1.ext.ext) | ((with_reducible apply oq_call (k := 166) (hc := Tryz.call166)); exact rfl; exact rfl; exact fun D w1 hw1 => HF w1)) | ((with_reducible apply ob_id); first | ((with_reducible apply oq_eq212); exact rfl; exact rfl) | ((with_reducible apply oq_subE (k := ((k - 1 : Nat) : Int))); exact rfl; exact rfl; omega) | ((with_reducible apply oq_addE (k := ((i + 1 : Nat) : Int))); exact rfl; exact rfl; omega) | ((with_reducible apply oq_addE (k := ((i + 2 : Nat) : Int))); exact rfl; exact rfl; omega) | ((with_reducible apply oq_subE (k := (j : Int))); exact rfl; exact rfl; omega) | ((with_reducible apply oq_subE (k := (m : Int))); exact rfl; exact rfl; omega)) | (focus ((apply oq_fn); exact rfl; exact ⟨by omega, r1⟩)) | (focus ((with_reducible apply oq_indexAddrN); exact rfl; exact rfl; exact rfl; exact rfl; omega)) | (apply oq_fn; exact rfl; first | exact trivial | (refine ⟨?_, ?_⟩ <;> omega) | (refine ⟨?_, ?_, ?_⟩ <;> omega) | omega | skip) | ((with_reducible apply oq_load); exact rfl; exact rfl) | ((with_reducible apply oq_loadAgg); exact rfl; exact rfl) | ((with_reducible apply oq_build); exact rfl; exact rfl; exact rfl)) | ((with_reducible apply tl_id); first | ((with_reducible apply tl_nil)) | ((with_reducible apply u_q); exact rfl; exact rfl; exact rfl; exact rfl) | ((with_reducible apply u_s0); exact rfl; exact rfl) | ((with_reducible apply u_s); exact rfl; exact rfl; exact rfl) | ((with_reducible apply u_splitD); exact rfl; exact rfl; all_goals first | (intro _; try (exfalso; omega)) | skip)) | ((with_reducible apply gx_id); first | ((with_reducible apply v_nil)) | ((with_reducible apply v_q); exact rfl; exact rfl; exact rfl) | ((with_reducible apply v_skip); exact rfl; exact rfl; exact rfl) | ((with_reducible apply v_splitD); exact rfl; exact rfl; all_goals first | (intro _; try (exfalso; omega)) | skip) | ((with_reducible apply v_splitN); exact rfl; exact rfl; all_goals first | (intro _; try (exfalso; omega)) | skip)) | ((with_reducible apply os_id); first | ((with_reducible apply os_x); exact rfl) | ((with_reducible apply os_storeAgg); exact rfl; exact rfl; exact rfl; exact rfl; exact rfl) | ((with_reducible apply os_appendNil (hk := app_ok210)); exact rfl; exact rfl) | ((with_reducible apply os_append (hk := app_ok210)); exact rfl; exact rfl; (repeat (first | exact P0 | apply P1)))) | ((with_reducible apply ox_id); first | ((with_reducible apply ox_alloc); exact rfl; intro _) | ((with_reducible apply ox_boxAgg); exact rfl; intro _) | ((with_reducible apply ox_buildSlice); exact rfl; exact rfl; exact rfl; exact rfl)) | ((with_reducible apply ai_id); first | ((with_reducible apply ai_q); exact rfl; exact rfl; exact rfl; exact rfl; exact rfl) | ((with_reducible apply ai_x); exact rfl; exact rfl; exact rfl; exact rfl; exact rfl) | ((with_reducible apply ai_s); exact rfl; exact rfl; exact rfl; exact rfl; exact rfl) | ((with_reducible apply ai_n0); exact rfl; exact rfl; exact rfl)) | ((with_reducible apply al_keep); focus (repeat (first | exact HpSub.refl _ | (apply HpSub.cons; (repeat (first | exact P0 | apply P1))) | exact HpSub.nil))) | ((with_reducible apply rd_id); first | (apply Rd.old; (first | exact m0 | exact m1); exact List.not_mem_nil) | (apply Rd.own; (repeat (first | exact P0 | apply P1)); (first | exact t0 | exact t1 | exact t2 | exact u0 | exact u1 | exact u2); done) | (apply Rd.own; (repeat (first | exact P0 | apply P1)); exact rfl; done) | (apply Rd.old; (first | (with_reducible assumption) | exact c0 | exact c1 | exact c2 | exact c3 | exact c4 | exact c5); first | exact List.not_mem_nil) | (apply Rd.old; (first | (with_reducible assumption) | exact c0 | exact c1 | exact c2 | exact d0 | exact d1 | exact d2); first | exact List.not_mem_nil)) | ((with_reducible apply t_id); first | ((with_reducible apply t_seq)) | (apply t_region; kernel_rfl) | (apply t_drawn; kernel_rfl; decide +kernel) | ((with_reducible apply t_condN); exact rfl; all_goals first | (intro _; try (exfalso; omega)) | skip) | ((with_reducible apply t_condT); exact rfl) | ((with_reducible apply t_condF); exact rfl) | ((with_reducible apply t_condD); exact rfl; all_goals first | (intro _; try (exfalso; omega)) | skip) | ((with_reducible apply t_cond); exact rfl; all_goals first | intro _ | skip) | ((with_reducible apply t_ret)) | ((with_reducible apply t_skip)) | ((with_reducible apply t_block)) | ((with_reducible apply t_exit))) | with_reducible apply q_thenN | with_reducible apply q_blockN | with_reducible apply q_thenR | with_reducible apply q_thenE | ((with_reducible apply q_blockE); exact rfl) | exact P0 | ((with_reducible apply P1)) | exact Rdn.zero | apply Rdn.succ | ((with_reducible apply Norm.nil); exact rfl) | ((with_reducible apply Norm.cons); exact rfl) | ((with_reducible apply end_ret)) | exact rvs_nil | ((with_reducible apply rvs_cons)) | ((with_reducible apply rv_tmp); exact rfl) | ((with_reducible apply rv_cellAgg); exact rfl; exact rfl) | (apply t_mix (id := 5) [0, 1, 2, 3, 4, 5, 6, 7] 3 #[false, false, false, false, false, false, false, false, false, true, false]; kernel_rfl; kernel_rfl; exact rfl) | (apply t_mix (id := 7) [0, 1, 2, 3, 4, 5, 6, 7, 8] 4 #[false, false, false, false, false, false, false, false, false, false, false, false, false]; kernel_rfl; kernel_rfl; exact rfl) | (apply t_mix (id := 8) [0, 1, 2, 3, 4, 5, 6, 7] 3 #[false, false, false, false, false, false, false, false, false, true, false]; kernel_rfl; kernel_rfl; exact rfl) | ((with_reducible apply al_id); first | (apply al_done; decide +kernel) | (apply al_one 8; decide +kernel) | (apply al_one 9; decide +kernel) | (apply al_one 10; decide +kernel) | (apply al_one 11; decide +kernel) | (apply al_one 12; decide +kernel) | (apply al_two 9 10; decide +kernel) | (apply al_one 14; decide +kernel) | (apply al_one 15; decide +kernel) | (apply al_one 16; decide +kernel)) | exact hC | exact Nat.le_of_ble_eq_true rfl | exact (rfl : (_ : Bool) = true) | omega | (intro _ _; with_reducible apply al_id) | (intro _; with_reducible apply al_id) | (apply t_mix (id := 11) [0, 1, 2, 3, 4, 5, 6, 7, 8, 9, 10, 11, 12, 13] 3 #[false, false, false, false, false, false, false, false, false, false, false, false, false, false, false, false, false]; kernel_rfl; kernel_rfl; exact rfl))); (try focus (repeat (rename_i x; first | exact goD x m1.p | revert x))); (try focus (repeat (rename_i x; first | exact goD x m2.p | revert x))); (try focus (repeat (rename_i x; first | exact goD x m3.p | revert x))); (try focus (repeat (rename_i x; first | exact goD x m4.p | revert x))); (try focus (repeat (rename_i x; first | exact goD x m5.p | revert x))); (try focus (repeat (rename_i x; first | exact goD x m6.p | revert x))); (try focus (repeat (rename_i x; first | exact goD x m7.p | revert x))); (try focus (repeat (rename_i x; first | exact goD x m8.p | revert x))); (try focus (repeat (rename_i x; first | exact goD x m9.p | revert x))); (try focus (repeat (rename_i x; first | exact goD x m10.p | revert x))); (try focus (repeat (rename_i x; first | exact goD x m11.p | revert x))); (try focus (repeat (rename_i x; first | exact goD x m12.p | revert x))); (try focus (repeat (rename_i x; first | exact goD x m13.p | revert x))); (try focus (repeat (rename_i x; first | exact goD x m14.p | revert x))); (try focus (repeat (rename_i x; first | exact goD x m15.p | revert x))); (try focus (repeat (rename_i x; first | exact goD x m16.p | revert x)))) (e : GoTs A1 A2 A3 A4 A5 A6 A7 A8 A9 A10 A11 A12 A13 A14 A15 A16 := by constructor <;> first | (with_reducible exact GoT.t) | exact GoT.u) : G := p.run h
/-- A place of a table, and the span of its values. -/
structure Kn where
  x : Int
  lo : Int
  hi : Int
/-- The values at a place of the line from a knot to the next one. -/
def lineV (a b : Kn) (x : Int) : Int × Int := (a.lo + (x - a.x) * (b.lo - a.lo) / (b.x - a.x), a.hi - (x - a.x) * (a.hi - b.hi) / (b.x - a.x))
def atV : List Kn → Int → Int × Int
  | a :: b :: r, x => if x ≤ b.x ∨ r = [] then lineV a b x else atV (b :: r) x
  | _, _ => (0, 0)
inductive Incr : List Kn → Prop
  | nil : Incr []
  | one (a : Kn) : Incr [a]
  | cons {a b : Kn} {l : List Kn} (h : a.x < b.x) (k : Incr (b :: l)) : Incr (a :: b :: l)
theorem lineV_end {a b : Kn} (h : a.x < b.x) : lineV a b b.x = (b.lo, b.hi) := by
  unfold lineV
  have : b.x - a.x ≠ 0 := by omega
  rw [Int.mul_ediv_cancel_left _ this, Int.mul_ediv_cancel_left _ this]
  simp; omega
theorem lineV_start {a b : Kn} : lineV a b a.x = (a.lo, a.hi) := by
  unfold lineV
  simp
theorem Incr.at_ : ∀ {l : List Kn}, Incr l → ∀ {i j : Nat} {a b : Kn}, i < j → l[i]? = some a → l[j]? = some b → a.x < b.x
  | _, .nil, i, j, a, b, _, h, _ => by simp at h
  | _, .one _, i, j, a, b, hij, _, h => by
    have := (List.getElem?_eq_some_iff.1 h).1
    simp at this; omega
  | _, .cons (a := u) (b := v) (l := l) h k, i, j, a, b, hij, ha, hb => by
    cases j with
    | zero => omega
    | succ j =>
      rw [List.getElem?_cons_succ] at hb
      cases i with
      | zero =>
        obtain rfl : u = a := by simpa using ha
        cases j with
        | zero =>
          obtain rfl : v = b := by simpa using hb
          exact h
        | succ j =>
          have := Incr.at_ k (i := 0) (j := j + 1) (by omega) rfl hb
          omega
      | succ i =>
        rw [List.getElem?_cons_succ] at ha
        exact Incr.at_ k (by omega) ha hb
/-- The values at a place, by any segment that it lies in. -/
theorem atV_seg : ∀ {l : List Kn}, Incr l → ∀ {i : Nat} {a b : Kn} {x : Int}, l[i]? = some a → l[i + 1]? = some b → (i = 0 ∨ a.x ≤ x) → (i + 2 = l.length ∨ x ≤ b.x) → atV l x = lineV a b x
  | _, .nil, i, a, b, x, h, _, _, _ => by simp at h
  | _, .one _, i, a, b, x, _, h, _, _ => by
    have := (List.getElem?_eq_some_iff.1 h).1
    simp at this
  | _, .cons (a := u) (b := v) (l := l) h k, i, a, b, x, ha, hb, h0, h1 => by
    cases i with
    | zero =>
      obtain rfl : u = a := by simpa using ha
      obtain rfl : v = b := by simpa using hb
      have : x ≤ v.x ∨ l = [] := by
        rcases h1 with h1 | h1
        · right; simp at h1; exact h1
        · exact .inl h1
      unfold atV
      rw [if_pos this]
    | succ i =>
      rw [List.getElem?_cons_succ] at ha hb
      have hax : a.x ≤ x := by rcases h0 with h0 | h0; omega; exact h0
      by_cases hl : l = []
      · subst hl
        have := (List.getElem?_eq_some_iff.1 hb).1
        simp at this
      · by_cases hx : x ≤ v.x
        · have hi : i = 0 := by
            cases i with
            | zero => rfl
            | succ i =>
              have := Incr.at_ k (i := 0) (j := i + 1) (by omega) rfl ha
              omega
          subst hi
          obtain rfl : v = a := by simpa using ha
          have : x = v.x := by omega
          unfold atV
          rw [if_pos (.inl hx), this, lineV_end h, lineV_start]
        · unfold atV
          rw [if_neg (by rintro (h | h); exact hx h; exact hl h)]
          exact atV_seg k ha hb (.inr hax) (by simpa using h1)
def Kn.val (k : Kn) : Int × Int := (k.lo, k.hi)
def kIn (p q : Int) (k : Kn) : Bool := decide (p < k.x) && decide (k.x < q)
def kInR (p q : Int) (k : Kn) : Bool := decide (p ≤ k.x) && decide (k.x ≤ q)
/-- The least span of a table's values from p to q. -/
def valV (t : List Kn) (p q : Int) : Int × Int := hullA (hullS (atV t p) (atV t q)) ((t.filter (kIn p q)).map Kn.val)
/-- a holds b. -/
def SIn (b a : Int × Int) : Prop := a.1 ≤ b.1 ∧ b.2 ≤ a.2
theorem SIn.refl (a : Int × Int) : SIn a a := ⟨Int.le_refl _, Int.le_refl _⟩
theorem SIn.trans {a b c : Int × Int} (h : SIn a b) (k : SIn b c) : SIn a c := ⟨Int.le_trans k.1 h.1, Int.le_trans h.2 k.2⟩
theorem hullS_left (a b : Int × Int) : SIn a (hullS a b) := by unfold SIn hullS; simp only; omega
theorem hullS_right (a b : Int × Int) : SIn b (hullS a b) := by unfold SIn hullS; simp only; omega
theorem hullS_least {a b c : Int × Int} (h : SIn a c) (k : SIn b c) : SIn (hullS a b) c := by unfold SIn hullS at *; simp only; omega
theorem hullA_mono {s : Int × Int} : ∀ {l : List (Int × Int)}, SIn s (hullA s l)
  | [] => SIn.refl s
  | x :: l => (hullS_left s x).trans (hullA_mono (s := hullS s x) (l := l))
theorem hullA_mem {s : Int × Int} : ∀ {l : List (Int × Int)} {x : Int × Int}, x ∈ l → SIn x (hullA s l)
  | y :: l, x, h => by
    rcases List.mem_cons.1 h with rfl | h
    · exact (hullS_right s x).trans (hullA_mono (s := hullS s x) (l := l))
    · exact hullA_mem (s := hullS s y) (l := l) h
theorem hullA_least {c : Int × Int} : ∀ {l : List (Int × Int)} {s : Int × Int}, SIn s c → (∀ x ∈ l, SIn x c) → SIn (hullA s l) c
  | [], s, h, _ => h
  | x :: l, s, h, k => hullA_least (l := l) (hullS_least h (k x (List.mem_cons_self ..))) (fun y hy => k y (List.mem_cons_of_mem _ hy))
theorem SIn.antisymm {a b : Int × Int} (h : SIn a b) (k : SIn b a) : a = b := by
  obtain ⟨a1, a2⟩ := a
  obtain ⟨b1, b2⟩ := b
  simp only [SIn, Prod.mk.injEq] at *
  omega
/-- Some knots may be left out, if what they hold is held already. -/
theorem hullA_filter {f g : Kn → Bool} {s : Int × Int} {t : List Kn} (hfg : ∀ k ∈ t, f k = true → g k = true) (hg : ∀ k ∈ t, g k = true → f k = true ∨ SIn k.val s) : hullA s ((t.filter g).map Kn.val) = hullA s ((t.filter f).map Kn.val) := by
  apply SIn.antisymm
  · refine hullA_least hullA_mono fun x hx => ?_
    obtain ⟨k, hk, rfl⟩ := List.mem_map.1 hx
    obtain ⟨h1, h2⟩ := List.mem_filter.1 hk
    rcases hg k h1 h2 with h3 | h3
    · exact hullA_mem (List.mem_map.2 ⟨k, List.mem_filter.2 ⟨h1, h3⟩, rfl⟩)
    · exact h3.trans hullA_mono
  · refine hullA_least hullA_mono fun x hx => ?_
    obtain ⟨k, hk, rfl⟩ := List.mem_map.1 hx
    obtain ⟨h1, h2⟩ := List.mem_filter.1 hk
    exact hullA_mem (List.mem_map.2 ⟨k, List.mem_filter.2 ⟨h1, hfg k h1 h2⟩, rfl⟩)
/-- At a knot the values are the knot's. -/
theorem atV_knot {t : List Kn} (h : Incr t) {i : Nat} {k : Kn} (hk : t[i]? = some k) (h2 : 2 ≤ t.length) : atV t k.x = k.val := by
  have hi := (List.getElem?_eq_some_iff.1 hk).1
  cases i with
  | zero =>
    have hb : t[1]? = some t[1] := List.getElem?_eq_getElem (by omega)
    rw [atV_seg h (i := 0) hk hb (.inl rfl) (.inr (by have := h.at_ (i := 0) (j := 1) (by omega) hk hb; omega)), lineV_start]; rfl
  | succ i =>
    have ha : t[i]? = some t[i] := List.getElem?_eq_getElem (by omega)
    have := h.at_ (by omega) ha hk
    rw [atV_seg h (i := i) ha hk (.inr (by omega)) (.inr (Int.le_refl _)), lineV_end this]; rfl
/-- Between, or at the ends: that's the same. -/
theorem valV_closed {t : List Kn} (h : Incr t) (h2 : 2 ≤ t.length) {p q : Int} : hullA (hullS (atV t p) (atV t q)) ((t.filter (kInR p q)).map Kn.val) = valV t p q := by
  unfold valV
  refine hullA_filter (fun k _ hk => ?_) (fun k hk hk2 => ?_)
  · simp only [kIn, kInR, Bool.and_eq_true, decide_eq_true_eq] at *; omega
  · simp only [kIn, kInR, Bool.and_eq_true, decide_eq_true_eq] at *
    obtain ⟨i, hi, hik⟩ := List.getElem_of_mem hk
    have hki : t[i]? = some k := by rw [List.getElem?_eq_getElem hi, hik]
    by_cases h1 : k.x = p
    · right
      rw [← h1, atV_knot h hki h2]
      exact hullS_left _ _
    · by_cases h3 : k.x = q
      · right
        rw [← h3, atV_knot h hki h2]
        exact hullS_right _ _
      · left; omega
def knCells (k : Kn) : List Value := [.int .i64 k.x, .int .i64 k.lo, .int .i64 k.hi]
structure TabOk (t : List Kn) : Prop where
  l2 : 2 ≤ t.length
  l32 : t.length ≤ 32
  inc : Incr t
  ok : ∀ k ∈ t, -100000 ≤ k.x ∧ k.x ≤ 100000 ∧ -100000 ≤ k.lo ∧ k.lo ≤ k.hi ∧ k.hi ≤ 100000
theorem TabOk.at_ {t : List Kn} (h : TabOk t) {i : Nat} {k : Kn} (hk : t[i]? = some k) : -100000 ≤ k.x ∧ k.x ≤ 100000 ∧ -100000 ≤ k.lo ∧ k.lo ≤ k.hi ∧ k.hi ≤ 100000 := h.ok k (List.mem_of_getElem? hk)
theorem kn_read {w : World} {A : Option Addr} {n : Nat} {t : List Kn} (h : RdS w 3 A n (t.map knCells)) {i : Nat} (hi : i < n) :
    ∃ b o k, A = some ⟨b, o, none⟩ ∧ b < w.heap.size ∧ t[i]? = some k ∧ w.cell? ⟨b, o + i * 3, none⟩ = some (.int .i64 k.x) ∧ w.cell? ⟨b, o + i * 3 + 1, none⟩ = some (.int .i64 k.lo) ∧ w.cell? ⟨b, o + i * 3 + 2, none⟩ = some (.int .i64 k.hi) := by
  obtain ⟨b, o, cs, hA, hb, hx, _, hc⟩ := h.row hi
  simp only [List.getElem?_map, Option.map_eq_some_iff] at hx
  obtain ⟨x, hx, rfl⟩ := hx
  exact ⟨b, o, x, hA, hb, hx, hc 0 _ rfl, hc 1 _ rfl, hc 2 _ rfl⟩
/-- Where a property that stays begins. -/
theorem mono_cut {p : Nat → Bool} (n : Nat) (hm : ∀ i j, i ≤ j → j < n → p i = true → p j = true) : ∃ r, r ≤ n ∧ (∀ j, j < r → p j = false) ∧ ∀ j, r ≤ j → j < n → p j = true := by
  induction n with
  | zero => exact ⟨0, by omega, fun j hj => by omega, fun j _ hj => by omega⟩
  | succ n ih =>
    obtain ⟨r, h1, h2, h3⟩ := ih (fun i j hij hj => hm i j hij (by omega))
    by_cases hr : r < n
    · exact ⟨r, by omega, h2, fun j hj hj2 => by
        rcases Nat.lt_or_ge j n with h | h
        · exact h3 j hj h
        · exact hm r j hj hj2 (h3 r (Nat.le_refl _) hr)⟩
    · cases hp : p n with
      | true => exact ⟨n, by omega, fun j hj => h2 j (by omega), fun j hj hj2 => by rw [show j = n by omega]; exact hp⟩
      | false => exact ⟨n + 1, by omega, fun j hj => by
          rcases Nat.lt_or_ge j r with h | h
          · exact h2 j h
          · rw [show j = n by omega]; exact hp, fun j hj hj2 => by omega⟩
theorem div_uniq {a b k : Int} (hb : 0 < b) (h1 : k * b ≤ a) (h2 : a < (k + 1) * b) : a / b = k :=
  Int.le_antisymm (Int.lt_add_one_iff.1 (Int.ediv_lt_of_lt_mul hb h2)) (Int.le_ediv_of_mul_le hb h1)
/-- Rounded towards 0, and put right: rounded down. -/
theorem down_eq {a b : Int} (hb : 0 < b) : (a < a.tdiv b * b → a / b = a.tdiv b - 1) ∧ (¬ a < a.tdiv b * b → a / b = a.tdiv b) := by
  rcases Int.le_total 0 a with h | h
  · have e := Int.tdiv_eq_ediv_of_nonneg (b := b) h
    have := Int.ediv_mul_le a (Int.ne_of_gt hb)
    rw [e]
    exact ⟨fun h => by omega, fun _ => rfl⟩
  · have e : a.tdiv b = -((-a) / b) := by rw [← Int.tdiv_eq_ediv_of_nonneg (by omega), Int.neg_tdiv, Int.neg_neg]
    have h1 := Int.ediv_mul_le (-a) (Int.ne_of_gt hb)
    have h2 := Int.lt_ediv_add_one_mul_self (-a) hb
    generalize hm : (-a) / b = m at *
    rw [e]
    have e2 : -m * b = -(m * b) := Int.neg_mul ..
    rw [Int.add_mul, Int.one_mul] at h2
    refine ⟨fun h => div_uniq hb ?_ ?_, fun h => div_uniq hb ?_ ?_⟩
    · rw [Int.sub_mul, Int.one_mul]; omega
    · rw [show -m - 1 + 1 = -m by omega]; omega
    · omega
    · rw [Int.add_mul, Int.one_mul]; omega
theorem tdiv_abs {a b m : Int} (hb : 0 < b) (h : -m ≤ a ∧ a ≤ m) : -m ≤ a.tdiv b ∧ a.tdiv b ≤ m := by
  rcases Int.le_total 0 a with h0 | h0
  · rw [Int.tdiv_eq_ediv_of_nonneg h0]
    have := Int.ediv_le_self b h0
    have := Int.ediv_nonneg h0 (Int.le_of_lt hb)
    omega
  · have e : a.tdiv b = -((-a) / b) := by rw [← Int.tdiv_eq_ediv_of_nonneg (by omega), Int.neg_tdiv, Int.neg_neg]
    have := Int.ediv_le_self b (show 0 ≤ -a by omega)
    have := Int.ediv_nonneg (show 0 ≤ -a by omega) (Int.le_of_lt hb)
    rw [e]; omega
theorem ediv_abs {a b m : Int} (hb : 0 < b) (h : -m ≤ a ∧ a ≤ m) : -m - 1 ≤ a / b ∧ a / b ≤ m := by
  have := tdiv_abs hb h
  have k := down_eq (a := a) hb
  by_cases hh : a < a.tdiv b * b
  · rw [k.1 hh]; omega
  · rw [k.2 hh]; omega
def accV (t : List Kn) (p q : Int) (k : Nat) : Int × Int := hullA (hullS (atV t p) (atV t q)) (((t.take k).filter (kIn p q)).map Kn.val)
theorem accV_all {t : List Kn} {p q : Int} {k : Nat} (h : t.length ≤ k) : accV t p q k = valV t p q := by unfold accV valV; rw [List.take_of_length_le h]
theorem accV_yes {t : List Kn} {p q : Int} {k : Nat} {x : Kn} (h : t[k]? = some x) (h1 : p < x.x) (h2 : x.x < q) : accV t p q (k + 1) = hullS (accV t p q k) x.val := by
  unfold accV hullA
  rw [List.take_add_one, h, List.filter_append, List.map_append, List.foldl_append]
  simp [kIn, h1, h2]
theorem accV_no {t : List Kn} {p q : Int} {k : Nat} {x : Kn} (h : t[k]? = some x) (h1 : ¬ (p < x.x ∧ x.x < q)) : accV t p q (k + 1) = accV t p q k := by
  unfold accV hullA
  rw [List.take_add_one, h, List.filter_append, List.map_append, List.foldl_append]
  have : kIn p q x = false := by simp [kIn]; omega
  simp [this]
/-- What a pressure may be so many metres higher, in a temperature. -/
def riseV (p : Int × Int) (climb : Int) (t : Int × Int) : Int × Int :=
  (p.1 * (1000000 * t.1 - 341632 * climb) / (1000000 * t.1), (p.2 * (1000000 * t.2) + (1000000 * t.2) + 341632 * climb - 1) / (1000000 * t.2 + 341632 * climb))
/-- And so many lower. -/
def sinkV (p : Int × Int) (climb : Int) (t : Int × Int) : Int × Int :=
  (p.1 * (1000000 * t.2 + 341632 * climb) / (1000000 * t.2), (p.2 * (1000000 * t.1) + (1000000 * t.1) - 341632 * climb - 1) / (1000000 * t.1 - 341632 * climb))
/-- What climbs and temperatures there are. -/
structure GapOk (climb : Int) (t : Int × Int) : Prop where
  c0 : 0 ≤ climb
  c1 : climb ≤ 2000
  t0 : 1500 ≤ t.1
  t1 : t.1 ≤ t.2
  t2 : t.2 ≤ 3500
theorem ediv_mono {a b d : Int} (hd : 0 < d) (h : a ≤ b) : a / d ≤ b / d := Int.ediv_le_ediv hd h
def gapT (a b : Lv) : Int × Int := hullS a.temp b.temp
/-- What a level says of the next one, and the next one of it. -/
def upI (a b : Lv) : Int × Int := riseV a.press (b.h - a.h) (gapT a b)
def dnI (a b : Lv) : Int × Int := sinkV b.press (b.h - a.h) (gapT a b)
/-- The same levels, but tighter pressures. -/
inductive Tt : List Lv → List Lv → Prop
  | nil : Tt [] []
  | cons {y x : Lv} {m l : List Lv} (h : y.h = x.h ∧ y.tlo = x.tlo ∧ y.thi = x.thi ∧ SIn y.press x.press) (k : Tt m l) : Tt (y :: m) (x :: l)
theorem Tt.refl : ∀ (l : List Lv), Tt l l
  | [] => .nil
  | _ :: l => .cons ⟨rfl, rfl, rfl, .refl _⟩ (Tt.refl l)
theorem Tt.len {l m : List Lv} (h : Tt m l) : m.length = l.length := by
  induction h with
  | nil => rfl
  | cons _ _ ih => simp [ih]
theorem Tt.trans {l m n : List Lv} (h : Tt n m) (k : Tt m l) : Tt n l := by
  induction h generalizing l with
  | nil => exact k
  | cons h _ ih =>
    cases k with
    | cons h' k' => exact .cons ⟨h.1.trans h'.1, h.2.1.trans h'.2.1, h.2.2.1.trans h'.2.2.1, h.2.2.2.trans h'.2.2.2⟩ (ih k')
theorem Tt.antisymm {l m : List Lv} (h : Tt m l) (k : Tt l m) : m = l := by
  induction h with
  | nil => rfl
  | cons h _ ih =>
    cases k with
    | cons h' k' =>
      rw [ih k']
      rename_i y x m l _
      obtain ⟨a1, a2, a3, a4, a5⟩ := y
      obtain ⟨b1, b2, b3, b4, b5⟩ := x
      have e := h.2.2.2.antisymm h'.2.2.2
      simp only [Lv.press, Prod.mk.injEq] at e h
      obtain ⟨rfl, rfl, rfl, _⟩ := h
      obtain ⟨rfl, rfl⟩ := e
      rfl
theorem Tt.set {l m : List Lv} (h : Tt m l) {i : Nat} {y x : Lv} (hx : l[i]? = some x) (hy : y.h = x.h ∧ y.tlo = x.tlo ∧ y.thi = x.thi ∧ SIn y.press x.press) : Tt (m.set i y) l := by
  induction h generalizing i with
  | nil => simp at hx
  | cons h k ih =>
    cases i with
    | zero =>
      simp at hx
      subst hx
      exact .cons hy k
    | succ i => exact .cons h (ih (by simpa using hx))
/-- A valid list: what is between neighbours, and no pressure below 0. -/
inductive Ch : List Lv → Prop
  | nil : Ch []
  | one {a : Lv} (h : 0 ≤ a.plo ∧ 0 ≤ a.phi) : Ch [a]
  | cons {a b : Lv} {l : List Lv} (h : 0 ≤ a.plo ∧ 0 ≤ a.phi) (g : GapOk (b.h - a.h) (gapT a b)) (k : Ch (b :: l)) : Ch (a :: b :: l)
theorem Ch.head {a : Lv} {l : List Lv} (h : Ch (a :: l)) : 0 ≤ a.plo ∧ 0 ≤ a.phi := by cases h <;> assumption
/-- Neighbours have nothing new to say. -/
inductive Fix : List Lv → Prop
  | nil : Fix []
  | one (a : Lv) : Fix [a]
  | cons {a b : Lv} {l : List Lv} (h : SIn b.press (upI a b)) (h' : SIn a.press (dnI a b)) (k : Fix (b :: l)) : Fix (a :: b :: l)
inductive FixU : List Lv → Prop
  | nil : FixU []
  | one (a : Lv) : FixU [a]
  | cons {a b : Lv} {l : List Lv} (h : SIn b.press (upI a b)) (k : FixU (b :: l)) : FixU (a :: b :: l)
theorem upI_eq {a b a' b' : Lv} (h1 : a'.h = a.h) (h2 : a'.tlo = a.tlo) (h3 : a'.thi = a.thi) (k1 : b'.h = b.h) (k2 : b'.tlo = b.tlo) (k3 : b'.thi = b.thi) : gapT a' b' = gapT a b ∧ b'.h - a'.h = b.h - a.h := by
  unfold gapT Lv.temp
  rw [h1, h2, h3, k1, k2, k3]
  exact ⟨rfl, rfl⟩
theorem Ch.put {x x' : Lv} {l : List Lv} (h : Ch (x :: l)) (h1 : x'.h = x.h) (h2 : x'.tlo = x.tlo) (h3 : x'.thi = x.thi) (hp : 0 ≤ x'.plo ∧ 0 ≤ x'.phi) : Ch (x' :: l) := by
  cases h with
  | one _ => exact .one hp
  | cons h g k =>
    rename_i b l
    have e := upI_eq (b' := b) (b := b) h1 h2 h3 rfl rfl rfl
    exact .cons hp (by rw [e.1, e.2]; exact g) k
theorem Ch.pos {l : List Lv} (h : Ch l) {a : Lv} (ha : a ∈ l) : 0 ≤ a.plo ∧ 0 ≤ a.phi := by
  induction h with
  | nil => cases ha
  | one h =>
    obtain rfl : a = _ := by simpa using ha
    exact h
  | cons h _ _ ih =>
    rcases List.mem_cons.1 ha with rfl | ha
    · exact h
    · exact ih ha
end Go.Proofs.YtcjkndjjbjoehaaGreat
namespace Go.Proofs.YtcjkndjjbjoehaaGreat
open Go.RowKit
attribute [local irreducible] OQ OS OX Rd T TL GX GL AL AI RV wpG SAny Calls
/-- A search by halving: where a property begins. -/
theorem search_calls (f : Nat) (caps : List Value) (n r : Nat) (p : Nat → Bool) (hn : n ≤ 1000000000) (hr : r ≤ n) (h1 : ∀ j, j < r → p j = false) (h2 : ∀ j, r ≤ j → j < n → p j = true) (w : World) (hc : ∀ (a : Array Value) (w : World), (callFunc f a).run Tryz.prog w = .ok (.enter f a) w)
    (hf : ∀ j, j < n → ∀ w1, Ext w w1 → Calls Tryz.prog f ⟨.int .i64 (j : Int) :: caps⟩ w1 fun e w' => e = .returned (.bool (p j)) ∧ Ext w1 w') :
    Calls Tryz.prog 90 #[.int .i64 (n : Int), .func (.func f) #[] ⟨caps⟩] w fun e w' => e = .returned (.int .i64 (r : Int)) ∧ Ext w w' := by
  refine enterQ (c := cx w 26) Tryz.func90 rfl rfl rfl rfl ?_
  ((all_goals refine goF0 ?_); (all_goals constructor); (any_goals exact trivial); all_goals intros)
  apply t_loopK (ι := (Nat × Nat)) [1, 4, 25] (fun (i : Nat × Nat) => [(5, .int .i64 (i.1 : Int)), (6, .int .i64 (i.2 : Int))]) (fun _ => []) (fun i => i.1 ≤ r ∧ r ≤ i.2 ∧ i.2 ≤ n) (fun i => i.2 - i.1) ((0, n))
  (repeat (first | exact KeepF.nil | (apply KeepF.cons; exact rfl) | apply KeepF.skip))
  (repeat (first | exact FrSub.nil | (apply FrSub.cons; exact rfl)))
  (repeat (first | exact HpSub.refl _ | (apply HpSub.consE; (repeat (first | exact P0 | apply P1)); exact rfl) | exact HpSub.nil))
  · simp only; omega
  rintro ⟨i, j⟩ ⟨i0, i1, i2⟩
  simp only at i0 i1 i2
  dsimp only
  by_cases hij : i < j
  · have hm : (i + j) / 2 < n := by omega
    cases hp : p ((i + j) / 2) with
    | false =>
      have hf' := hf ((i + j) / 2) hm
      rw [hp] at hf'
      have hlt : (i + j) / 2 < r := by
        rcases Nat.lt_or_ge ((i + j) / 2) r with h | h
        · exact h
        · rw [h2 _ h hm] at hp; cases hp
      ((all_goals refine goF0 ?_); (all_goals constructor); (any_goals exact trivial); all_goals intros)
      refine ⟨((i + j) / 2 + 1, j), ⟨by simp only; omega, i1, i2⟩, by simp only; omega, ?_, ?_⟩ <;> (repeat' (first | exact FrSub.nil | (apply FrSub.cons; exact rfl) | exact HpSub.refl _))
    | true =>
      have hf' := hf ((i + j) / 2) hm
      rw [hp] at hf'
      have hge : r ≤ (i + j) / 2 := by
        rcases Nat.lt_or_ge ((i + j) / 2) r with h | h
        · rw [h1 _ h] at hp; cases hp
        · exact h
      ((all_goals refine goF0 ?_); (all_goals constructor); (any_goals exact trivial); all_goals intros)
      refine ⟨(i, (i + j) / 2), ⟨i0, hge, by simp only; omega⟩, by simp only; omega, ?_, ?_⟩ <;> (repeat' (first | exact FrSub.nil | (apply FrSub.cons; exact rfl) | exact HpSub.refl _))
  · obtain rfl : i = j := by omega
    obtain rfl : i = r := by omega
    ((all_goals refine goF0 ?_); (all_goals constructor); (any_goals exact trivial); all_goals intros)
    rfl
theorem at1_calls (A : Option Addr) (n c : Nat) (t : List Kn) (x : Int) (b2 b3 : Nat) (j : Nat) (hj : j < n) (k : Kn) (hk : t[j]? = some k) (w : World) (hr : RdS w 3 A n (t.map knCells)) (m0 : w.cell? ⟨b2, 0, none⟩ = some (.slice A n c)) (m1 : w.cell? ⟨b3, 0, none⟩ = some (.int .i64 x)) :
    Calls Tryz.prog 163 #[.int .i64 (j : Int), .pointer (some ⟨b2, 0, none⟩), .pointer (some ⟨b3, 0, none⟩)] w fun e w' => e = .returned (.bool (decide (x < k.x))) ∧ Ext w w' := by
  obtain ⟨b, o, k', rfl, _, hk', c0, c1, c2⟩ := kn_read hr hj
  obtain rfl : k = k' := by rw [hk] at hk'; exact Option.some.inj hk'
  refine enterQ (c := cx w 12) Tryz.func163 rfl rfl rfl rfl ?_
  ((all_goals refine goF0 ?_); (all_goals constructor); (any_goals exact trivial); all_goals intros)
  all_goals rfl
theorem down_calls (a b : Int) (hb : 0 < b) (hb1 : b ≤ 1000000) (ha : -1000000000000 ≤ a ∧ a ≤ 1000000000000) (w : World) : Calls Tryz.prog 164 #[.int .i64 a, .int .i64 b] w fun e w' => e = .returned (.int .i64 (a / b)) ∧ Ext w w' := by
  have hq := tdiv_abs hb ha
  have hm := mul_abs (x := a.tdiv b) (y := b) (a := 1000000000000) (b := 1000000) hq (by omega)
  have hd := down_eq (a := a) hb
  have r1 : InR (a.tdiv b) := ⟨by omega, by omega⟩
  have r2 : InR (a.tdiv b * b) := ⟨by omega, by omega⟩
  refine enterQ (c := cx w 17) Tryz.func164 rfl rfl rfl rfl ?_
  ((all_goals refine goF0 ?_); (all_goals constructor); (any_goals exact trivial); all_goals intros)
  · rw [hd.1 (by assumption)]; rfl
  · rw [hd.2 (by assumption)]; rfl
theorem srch_at {w : World} {D : List Nat} {H H1 H2 : Hp} {b2 b3 : Nat} {tg tg' : Tg} {A : Option Addr} {n c : Nat} {t : List Kn} (hr : RdS w 3 A n (t.map knCells)) (ht : TabOk t) (x : Int) (r : Nat) (hr1 : r ≤ n) (h1 : ∀ j k, j < r → t[j]? = some k → k.x ≤ x) (h2 : ∀ j k, r ≤ j → t[j]? = some k → x < k.x)
    (w1 : World) (hw : Has w ⟨[], D⟩ H w1) (p1 : Pick H b2 [.slice A n c] tg H1) (p2 : Pick H b3 [.int .i64 x] tg' H2) :
    Calls Tryz.prog 90 #[.int .i64 (n : Int), .func (.func 163) #[] ⟨[.pointer (some ⟨b2, 0, none⟩), .pointer (some ⟨b3, 0, none⟩)]⟩] w1 fun e w' => e = .returned (.int .i64 (r : Int)) ∧ Ext w1 w' := by
  have hl := hr.len
  simp only [List.length_map] at hl
  have h32 := ht.l32
  have m0 := hw.cellAt p1 (o := 0) rfl
  have m1 := hw.cellAt p2 (o := 0) rfl
  refine search_calls 163 _ n r (fun j => match t[j]? with | some k => decide (x < k.x) | none => true) (by omega) hr1 (fun j hj => ?_) (fun j hj hjn => ?_) w1 Tryz.call163 (fun j hj w2 hx => ?_)
  · have : t[j]? = some t[j] := List.getElem?_eq_getElem (by omega)
    have h := h1 j _ hj this
    simp only [this]
    simpa using h
  · have : t[j]? = some t[j] := List.getElem?_eq_getElem (by omega)
    have h := h2 j _ hj this
    simp only [this]
    simpa using h
  · have : t[j]? = some t[j] := List.getElem?_eq_getElem (by omega)
    simp only [this]
    exact at1_calls A n c t x b2 b3 j hj _ this w2 (hr.ext (hw.ext.ext.trans hx)) (hx.cell m0) (hx.cell m1)
theorem line_bounds {a b : Kn} (ha : -100000 ≤ a.x ∧ a.x ≤ 100000 ∧ -100000 ≤ a.lo ∧ a.lo ≤ a.hi ∧ a.hi ≤ 100000) (hb : -100000 ≤ b.x ∧ b.x ≤ 100000 ∧ -100000 ≤ b.lo ∧ b.lo ≤ b.hi ∧ b.hi ≤ 100000) (h : a.x < b.x) {x : Int} (hx : -100000 ≤ x ∧ x ≤ 100000) :
    (-1000000000000 ≤ (x - a.x) * (b.lo - a.lo) ∧ (x - a.x) * (b.lo - a.lo) ≤ 1000000000000) ∧ (-1000000000000 ≤ (x - a.x) * (a.hi - b.hi) ∧ (x - a.x) * (a.hi - b.hi) ≤ 1000000000000) ∧
    (-1000000000001 ≤ (x - a.x) * (b.lo - a.lo) / (b.x - a.x) ∧ (x - a.x) * (b.lo - a.lo) / (b.x - a.x) ≤ 1000000000000) ∧ (-1000000000001 ≤ (x - a.x) * (a.hi - b.hi) / (b.x - a.x) ∧ (x - a.x) * (a.hi - b.hi) / (b.x - a.x) ≤ 1000000000000) := by
  have m1 := mul_abs (x := x - a.x) (y := b.lo - a.lo) (a := 200000) (b := 200000) (by omega) (by omega)
  have m2 := mul_abs (x := x - a.x) (y := a.hi - b.hi) (a := 200000) (b := 200000) (by omega) (by omega)
  have d1 := ediv_abs (b := b.x - a.x) (m := 1000000000000) (by omega) (a := (x - a.x) * (b.lo - a.lo)) (by omega)
  have d2 := ediv_abs (b := b.x - a.x) (m := 1000000000000) (by omega) (a := (x - a.x) * (a.hi - b.hi)) (by omega)
  omega
theorem at_calls (A : Option Addr) (n c : Nat) (t : List Kn) (x : Int) (w : World) (hr : RdS w 3 A n (t.map knCells)) (ht : TabOk t) (hx : -100000 ≤ x ∧ x ≤ 100000) :
    Calls Tryz.prog 146 #[.slice A n c, .int .i64 x] w fun e w' => e = .returned (.agg #[.int .i64 (atV t x).1, .int .i64 (atV t x).2]) ∧ Ext w w' := by
  have hl := hr.len
  simp only [List.length_map] at hl
  have l2 := ht.l2
  have l32 := ht.l32
  obtain ⟨r, hrn, s1, s2⟩ := mono_cut (p := fun j => match t[j]? with | some k => decide (x < k.x) | none => true) n (fun i j hij hj => by
    have ei : t[i]? = some t[i] := List.getElem?_eq_getElem (by omega)
    have ej : t[j]? = some t[j] := List.getElem?_eq_getElem (by omega)
    simp only [ei, ej]
    intro h
    simp only [decide_eq_true_eq] at h ⊢
    rcases Nat.lt_or_eq_of_le hij with h1 | h1
    · have := ht.inc.at_ h1 ei ej; omega
    · subst h1; exact h)
  have h1 : ∀ j k, j < r → t[j]? = some k → k.x ≤ x := fun j k hj hk => by have := s1 j hj; simp only [hk] at this; simpa using this
  have h2 : ∀ j k, r ≤ j → t[j]? = some k → x < k.x := fun j k hj hk => by
    have := s2 j hj (by have := (List.getElem?_eq_some_iff.1 hk).1; omega)
    simp only [hk] at this; simpa using this
  obtain ⟨g, hg⟩ : ∃ g : Nat, g + 1 = min (max r 1) (n - 1) := ⟨min (max r 1) (n - 1) - 1, by omega⟩
  obtain ⟨ba, oa, a, rfl, hba, ha, c0, c1, c2⟩ := kn_read hr (show g < n by omega)
  obtain ⟨bb, ob, b, hA, _, hb, d0, d1, d2⟩ := kn_read hr (show g + 1 < n by omega)
  obtain ⟨rfl, rfl⟩ : bb = ba ∧ ob = oa := by simpa using hA.symm
  have oka := ht.at_ ha
  have okb := ht.at_ hb
  have hab := ht.inc.at_ (Nat.lt_succ_self g) ha hb
  have hval : atV t x = lineV a b x := by
    refine atV_seg ht.inc ha hb ?_ ?_
    · by_cases h0 : g = 0
      · exact .inl h0
      · exact .inr (h1 g a (by omega) ha)
    · by_cases h0 : g + 2 = t.length
      · exact .inl h0
      · exact .inr (by have := h2 (g + 1) b (by omega) hb; omega)
  obtain ⟨M1, M2, D1, D2⟩ := line_bounds oka okb hab hx
  have k1 : InR ((x - a.x) * (b.lo - a.lo)) := ⟨by omega, by omega⟩
  have k2 : InR ((x - a.x) * (a.hi - b.hi)) := ⟨by omega, by omega⟩
  rw [hval]
  clear hval s1 s2
  refine enterQ (c := cx w 69) Tryz.func146 rfl rfl rfl rfl ?_
  repeat' (first | ((with_reducible apply oq_id); first | ((with_reducible apply oq_min2E (k := ((g + 1 : Nat) : Int))); exact rfl; exact rfl; omega) | ((with_reducible apply oq_subE (k := (g : Int))); exact rfl; exact rfl; omega) | (focus ((with_reducible apply oq_indexAddrN); exact rfl; exact rfl; exact rfl; exact rfl; omega)) | (apply oq_fn; exact rfl; first | exact trivial | (refine ⟨?_, ?_⟩ <;> omega) | (refine ⟨?_, ?_, ?_⟩ <;> omega) | omega | skip) | ((with_reducible apply oq_load); exact rfl; exact rfl) | ((with_reducible apply oq_loadAgg); exact rfl; exact rfl) | ((with_reducible apply oq_call (k := 90) (hc := Tryz.call90)); exact rfl; exact rfl; exact fun D w1 hw1 => srch_at hr ht x r hrn h1 h2 w1 hw1 (by (repeat (first | exact P0 | apply P1))) (by (repeat (first | exact P0 | apply P1))))) | ((with_reducible apply tl_id); first | ((with_reducible apply tl_nil)) | ((with_reducible apply u_q); exact rfl; exact rfl; exact rfl; exact rfl) | ((with_reducible apply u_s); exact rfl; exact rfl; exact rfl)) | ((with_reducible apply gx_id); first | ((with_reducible apply v_nil)) | ((with_reducible apply v_q); exact rfl; exact rfl; exact rfl)) | ((with_reducible apply os_id); first | ((with_reducible apply os_x); exact rfl) | ((with_reducible apply os_storeAgg); exact rfl; exact rfl; exact rfl; exact rfl; exact rfl)) | ((with_reducible apply ox_id); first | ((with_reducible apply ox_alloc); exact rfl; intro _) | ((with_reducible apply ox_box); exact rfl; exact rfl; intro _)) | ((with_reducible apply ai_id); first | ((with_reducible apply ai_x); exact rfl; exact rfl; exact rfl; exact rfl; exact rfl) | ((with_reducible apply ai_n0); exact rfl; exact rfl; exact rfl)) | ((with_reducible apply al_keep); focus (repeat (first | exact HpSub.refl _ | (apply HpSub.cons; (repeat (first | exact P0 | apply P1))) | exact HpSub.nil))) | ((with_reducible apply rd_id); first | (apply Rd.own; (repeat (first | exact P0 | apply P1)); exact rfl; done) | (apply Rd.old; (first | (with_reducible assumption) | exact c0 | exact c1 | exact c2 | exact d0 | exact d1 | exact d2); first | exact List.not_mem_nil)) | ((with_reducible apply t_id); first | (with_reducible apply t_cutK (ι := (Nat × Nat)) (rid := 3) [2, 3, 4, 5] (fun i => [(6, .pointer (some ⟨i.1, 0, none⟩)), (7, .pointer (some ⟨i.2, 0, none⟩))]) (fun i => [(i.1, knCells a, some (212, 3, 1)), (i.2, knCells b, some (212, 3, 1))])); (repeat (first | exact KeepF.nil | (apply KeepF.cons; exact rfl) | apply KeepF.skip)) | ((with_reducible apply t_seq)) | (apply t_region; kernel_rfl)) | with_reducible apply q_thenN | exact P0 | ((with_reducible apply P1)) | exact Rdn.zero | apply Rdn.succ | ((with_reducible apply Norm.nil); exact rfl) | ((with_reducible apply Norm.cons); exact rfl) | ((with_reducible apply cut_in2) <;> (repeat' (first | exact FrSub.nil | (apply FrSub.cons; exact rfl) | exact HpSub.refl _ | (apply HpSub.consE; (repeat (first | exact P0 | apply P1)); exact rfl) | exact HpSub.nil))) | (apply t_mix (id := 3) [0, 1, 2, 3, 4, 5, 6, 7, 8] 4 #[false, false, false, false, false, false, false, false, false, false, false, false, false]; kernel_rfl; kernel_rfl; exact rfl) | ((with_reducible apply al_id); first | (apply al_done; decide +kernel) | (apply al_one 9; decide +kernel) | (apply al_one 10; decide +kernel) | (apply al_one 11; decide +kernel) | (apply al_one 12; decide +kernel) | (apply al_two 9 10; decide +kernel)) | exact Nat.le_of_ble_eq_true rfl)
  rintro ⟨b6, b7⟩
  try simp only [List.cons_append, List.nil_append]
  ((all_goals refine goF0 ?_); (all_goals constructor); (any_goals exact trivial); all_goals intros)
  all_goals rfl
theorem checkTable_ok (A : Option Addr) (n c : Nat) (t : List Kn) (w : World) (hr : RdS w 3 A n (t.map knCells)) (ht : TabOk t) :
    Calls Tryz.prog 145 #[.slice A n c] w fun e w' => e = .returned (.int .i64 0) ∧ Ext w w' := by
  have hl := hr.len
  simp only [List.length_map] at hl
  have l2 := ht.l2
  have l32 := ht.l32
  refine enterQ (c := cx w 61) Tryz.func145 rfl rfl rfl rfl ?_
  ((all_goals refine goF0 ?_); (all_goals constructor); (any_goals exact trivial); all_goals intros)
  apply t_loopK (ι := Nat) [0, 13, 14] (fun k => [(15, .int .i64 (k : Nat))]) (fun _ => []) (fun k => k ≤ n) (fun k => n - k) (0)
  (repeat (first | exact KeepF.nil | (apply KeepF.cons; exact rfl) | apply KeepF.skip))
  (repeat (first | exact FrSub.nil | (apply FrSub.cons; exact rfl)))
  (repeat (first | exact HpSub.refl _ | (apply HpSub.consE; (repeat (first | exact P0 | apply P1)); exact rfl) | exact HpSub.nil))
  · omega
  intro k hk
  try simp only [List.cons_append, List.nil_append]
  by_cases hlt : k < n
  · obtain ⟨b, o, y, rfl, _, hy, c0, c1, c2⟩ := kn_read hr hlt
    have oky := ht.at_ hy
    cases k with
    | zero =>
      ((all_goals refine goF0 ?_); (all_goals constructor); (any_goals exact trivial); all_goals intros)
      all_goals (refine ⟨1, by omega, by omega, ?_, ?_⟩ <;> (try simp only [List.cons_append, List.nil_append]) <;> (repeat' (first | exact FrSub.nil | (apply FrSub.cons; exact rfl) | exact HpSub.nil)))
    | succ j =>
      obtain ⟨b', o', x, hA, _, hx, d0, d1, d2⟩ := kn_read hr (show j < n by omega)
      obtain ⟨rfl, rfl⟩ : b' = b ∧ o' = o := by simpa using hA.symm
      have hxy := ht.inc.at_ (Nat.lt_succ_self j) hx hy
      ((all_goals refine goF0 ?_); (all_goals constructor); (any_goals exact trivial); all_goals intros)
      all_goals (refine ⟨j + 1 + 1, by omega, by omega, ?_, ?_⟩ <;> (try simp only [List.cons_append, List.nil_append]) <;> (repeat' (first | exact FrSub.nil | (apply FrSub.cons; exact rfl) | exact HpSub.nil)))
  · ((all_goals refine goF0 ?_); (all_goals constructor); (any_goals exact trivial); all_goals intros)
    all_goals rfl
theorem around2 {w0 : World} {M : Ms} {H H' : Hp} {w : World} {g : Nat} {a b c d : Int} {tg : Tg} (h : Has w0 M H w) (p : Pick H g [.int .i64 a, .int .i64 b, .int .i64 c, .int .i64 d] tg H') :
    Calls Tryz.prog 143 #[.slice (some ⟨g, 0, none⟩) 2 2] w fun e w' => e = .returned (.agg #[.int .i64 (min a c), .int .i64 (max b d)]) ∧ Ext w w' := by
  have := around_calls (some ⟨g, 0, none⟩) 2 2 (a, b) [(a, b), (c, d)] w (Blk.rows (k := 2) (rows := [(a, b), (c, d)].map spanCells) (h.blk _ p.mem).2 rfl (by simp [spanCells])) (by omega) rfl (by omega) (by omega)
  have e : hullA (a, b) [(a, b), (c, d)] = (min a c, max b d) := by simp only [hullA, hullS, List.foldl_cons, List.foldl_nil]; congr 1 <;> omega
  rw [e] at this
  exact this
theorem value_calls (A : Option Addr) (n c : Nat) (t : List Kn) (p q : Int) (w : World) (hr : RdS w 3 A n (t.map knCells)) (ht : TabOk t) (h0 : ∀ k, t[0]? = some k → k.x ≤ p) (hpq : p ≤ q) (hl : ∀ k, t[n - 1]? = some k → q ≤ k.x) :
    Calls Tryz.prog 124 #[.slice A n c, .agg #[.int .i64 p, .int .i64 q]] w fun e w' => e = .returned (.tuple #[.agg #[.int .i64 (valV t p q).1, .int .i64 (valV t p q).2], .int .i64 0]) ∧ Ext w w' := by
  have hlen := hr.len
  simp only [List.length_map] at hlen
  have l2 := ht.l2
  have l32 := ht.l32
  obtain ⟨m, rfl⟩ : ∃ m, n = m + 1 := ⟨n - 1, by omega⟩
  obtain ⟨b, o, k0, rfl, _, hk0, c0, c1, c2⟩ := kn_read hr (show 0 < m + 1 by omega)
  obtain ⟨b', o', km, hA, _, hkm, d0, d1, d2⟩ := kn_read hr (show m < m + 1 by omega)
  obtain ⟨rfl, rfl⟩ : b' = b ∧ o' = o := by simpa using hA.symm
  have hp0 := h0 k0 hk0
  have hq0 := hl km hkm
  have ok0 := ht.at_ hk0
  have okm := ht.at_ hkm
  have HC := fun w1 => check_calls p q w1
  rw [if_pos ((fineS_iff _).2 ⟨hpq, by simp only; omega, by simp only; omega⟩)] at HC
  have HP := fun w1 (hx : Ext w w1) => at_calls _ _ c t p w1 (hr.ext hx) ht (by omega)
  have HQ := fun w1 (hx : Ext w w1) => at_calls _ _ c t q w1 (hr.ext hx) ht (by omega)
  refine enterQ (c := cx w 78) Tryz.func124 rfl rfl rfl rfl ?_
  repeat' (first | ((with_reducible apply oq_id); first | ((with_reducible apply oq_subE (k := (m : Int))); exact rfl; exact rfl; omega) | (focus ((with_reducible apply oq_indexAddrN); exact rfl; exact rfl; exact rfl; exact rfl; omega)) | (apply oq_fn; exact rfl; first | exact trivial | (refine ⟨?_, ?_⟩ <;> omega) | (refine ⟨?_, ?_, ?_⟩ <;> omega) | omega | skip) | ((with_reducible apply oq_load); exact rfl; exact rfl) | ((with_reducible apply oq_loadAgg); exact rfl; exact rfl) | ((with_reducible apply oq_call (k := 145) (hc := Tryz.call145)); exact rfl; exact rfl; exact fun D w1 hw1 => checkTable_ok _ _ _ t w1 (hr.ext hw1.ext.ext) ht) | ((with_reducible apply oq_call (k := 89) (hc := Tryz.call89)); exact rfl; exact rfl; exact fun D w1 hw1 => HC w1) | ((with_reducible apply oq_call (k := 146) (hc := Tryz.call146)); exact rfl; exact rfl; exact fun D w1 hw1 => HP w1 hw1.ext.ext) | ((with_reducible apply oq_call (k := 146) (hc := Tryz.call146)); exact rfl; exact rfl; exact fun D w1 hw1 => HQ w1 hw1.ext.ext) | ((with_reducible apply oq_call (k := 143) (hc := Tryz.call143)); exact rfl; exact rfl; exact fun D w1 hw1 => around2 hw1 (by (repeat (first | exact P0 | apply P1))))) | ((with_reducible apply tl_id); first | ((with_reducible apply tl_nil)) | ((with_reducible apply u_q); exact rfl; exact rfl; exact rfl; exact rfl) | ((with_reducible apply u_s); exact rfl; exact rfl; exact rfl)) | ((with_reducible apply gx_id); first | ((with_reducible apply v_nil)) | ((with_reducible apply v_q); exact rfl; exact rfl; exact rfl) | ((with_reducible apply v_splitD); exact rfl; exact rfl; all_goals first | (intro hp; try (exfalso; omega)) | skip)) | ((with_reducible apply os_id); first | ((with_reducible apply os_x); exact rfl) | ((with_reducible apply os_storeAgg); exact rfl; exact rfl; exact rfl; exact rfl; exact rfl)) | ((with_reducible apply ox_id); first | ((with_reducible apply ox_alloc); exact rfl; intro _) | ((with_reducible apply ox_boxAgg); exact rfl; intro _) | ((with_reducible apply ox_buildSlice2); exact rfl; exact rfl; exact rfl; exact rfl; exact rfl; exact rfl; intro _)) | ((with_reducible apply ai_id); first | ((with_reducible apply ai_q); exact rfl; exact rfl; exact rfl; exact rfl; exact rfl) | ((with_reducible apply ai_x); exact rfl; exact rfl; exact rfl; exact rfl; exact rfl) | ((with_reducible apply ai_n0); exact rfl; exact rfl; exact rfl)) | ((with_reducible apply al_keep); focus (repeat (first | exact HpSub.refl _ | (apply HpSub.cons; (repeat (first | exact P0 | apply P1))) | exact HpSub.nil))) | ((with_reducible apply rd_id); first | (apply Rd.own; (repeat (first | exact P0 | apply P1)); exact rfl; done) | (apply Rd.old; (first | (with_reducible assumption) | exact c0 | exact c1 | exact c2 | exact d0 | exact d1 | exact d2); first | exact List.not_mem_nil)) | ((with_reducible apply t_id); first | (with_reducible apply t_cutK (ι := Nat) (rid := 9) [0, 3, 4, 5] (fun i => [(8, .pointer (some ⟨i, 0, none⟩))]) (fun i => [(i, [.int .i64 (accV t p q 0).1, .int .i64 (accV t p q 0).2], some (27, 2, 1))])); (repeat (first | exact KeepF.nil | (apply KeepF.cons; exact rfl) | apply KeepF.skip)) | ((with_reducible apply t_seq)) | (apply t_region; kernel_rfl) | (apply t_drawn; kernel_rfl; decide +kernel) | ((with_reducible apply t_condF); exact rfl) | ((with_reducible apply t_condD); exact rfl; all_goals first | (intro hp; try (exfalso; omega)) | skip) | ((with_reducible apply t_skip))) | with_reducible apply q_thenN | exact P0 | ((with_reducible apply P1)) | exact Rdn.zero | apply Rdn.succ | ((with_reducible apply Norm.nil); exact rfl) | ((with_reducible apply Norm.cons); exact rfl) | ((with_reducible apply cut_in1) <;> (repeat' (first | exact FrSub.nil | (apply FrSub.cons; exact rfl) | exact HpSub.refl _ | (apply HpSub.consE; (repeat (first | exact P0 | apply P1)); exact rfl) | exact HpSub.nil))) | (apply t_mix (id := 9) [0, 1, 2, 3, 4, 5, 6, 7] 4 #[false, false, false, false, false, false, false, false, false, false, false, false]; kernel_rfl; kernel_rfl; exact rfl) | ((with_reducible apply al_id); first | (apply al_done; decide +kernel) | (apply al_one 8; decide +kernel) | (apply al_one 9; decide +kernel) | (apply al_one 10; decide +kernel) | (apply al_one 11; decide +kernel) | (apply al_two 8 10; decide +kernel) | (apply al_two 9 10; decide +kernel)) | exact Nat.le_of_ble_eq_true rfl)
  intro b8
  try simp only [List.cons_append, List.nil_append]
  clear c0 c1 c2 d0 d1 d2 HP HQ HC
  ((all_goals refine goF0 ?_); (all_goals constructor); (any_goals exact trivial); all_goals intros)
  apply t_loopK (ι := Nat) [3, 4, 5, 8, 53, 54, 77] (fun k => [(55, .int .i64 (k : Nat))]) (fun k => [(b8, [.int .i64 (accV t p q k).1, .int .i64 (accV t p q k).2], some (27, 2, 1))]) (fun k => k ≤ m + 1) (fun k => m + 1 - k) (0)
  (repeat (first | exact KeepF.nil | (apply KeepF.cons; exact rfl) | apply KeepF.skip))
  (repeat (first | exact FrSub.nil | (apply FrSub.cons; exact rfl)))
  (repeat (first | exact HpSub.refl _ | (apply HpSub.consE; (repeat (first | exact P0 | apply P1)); exact rfl) | exact HpSub.nil))
  · omega
  intro k hk
  try simp only [List.cons_append, List.nil_append]
  by_cases hlt : k < m + 1
  · obtain ⟨b1, o1, y, hA, _, hy, c0, c1, c2⟩ := kn_read hr hlt
    obtain ⟨rfl, rfl⟩ : b1 = b' ∧ o1 = o' := by simpa using hA.symm
    by_cases h1 : p < y.x
    · by_cases h2 : y.x < q
      · have he := accV_yes hy h1 h2
        ((all_goals refine goF0 ?_); (all_goals constructor); (any_goals exact trivial); all_goals intros)
        all_goals (refine ⟨k + 1, by omega, by omega, ?_, ?_⟩ <;> (try simp only [List.cons_append, List.nil_append]) <;> (repeat' (first | exact FrSub.nil | (apply FrSub.cons; exact rfl) | (apply HpSub.consE; (repeat (first | exact P0 | apply P1)); first | exact rfl | (rw [he]; rfl)) | exact HpSub.nil)))
      · have he := accV_no (t := t) (p := p) (q := q) hy (by omega)
        ((all_goals refine goF0 ?_); (all_goals constructor); (any_goals exact trivial); all_goals intros)
        all_goals (refine ⟨k + 1, by omega, by omega, ?_, ?_⟩ <;> (try simp only [List.cons_append, List.nil_append]) <;> (repeat' (first | exact FrSub.nil | (apply FrSub.cons; exact rfl) | (apply HpSub.consE; (repeat (first | exact P0 | apply P1)); first | exact rfl | (rw [he])) | exact HpSub.nil)))
    · have he := accV_no (t := t) (p := p) (q := q) hy (by omega)
      ((all_goals refine goF0 ?_); (all_goals constructor); (any_goals exact trivial); all_goals intros)
      all_goals (refine ⟨k + 1, by omega, by omega, ?_, ?_⟩ <;> (try simp only [List.cons_append, List.nil_append]) <;> (repeat' (first | exact FrSub.nil | (apply FrSub.cons; exact rfl) | (apply HpSub.consE; (repeat (first | exact P0 | apply P1)); first | exact rfl | (rw [he])) | exact HpSub.nil)))
  · have he : accV t p q k = valV t p q := accV_all (by omega)
    ((all_goals refine goF0 ?_); (all_goals constructor); (any_goals exact trivial); all_goals intros)
    rw [he]
    all_goals rfl
theorem fromOne {w0 : World} {M : Ms} {H H' : Hp} {w : World} {g : Nat} {a lo hi : Int} {tg : Tg} {cp : Nat} {q : Bool} (hq : decide (lo ≤ a ∧ a ≤ hi) = q) (h : Has w0 M H w) (p : Pick H g [.int .i64 a] tg H') :
    Calls Tryz.prog 120 #[.int .i64 lo, .int .i64 hi, .slice (some ⟨g, 0, none⟩) 1 cp] w fun e w' => e = .returned (.bool q) ∧ Ext w w' := by
  have := from_calls lo hi (some ⟨g, 0, none⟩) 1 cp [a] w (Blk.rows (k := 1) (rows := [a].map fun z => [Value.int .i64 z]) (h.blk _ p.mem).2 rfl (by simp)) (by omega)
  have e : allFrom lo hi [a] = q := by rw [← hq]; unfold allFrom; rw [Bool.eq_iff_iff]; simp
  rw [e] at this
  exact this
theorem inside_at (x y lo hi : Int) {q : Bool} (hq : decide (x ≤ y ∧ lo ≤ x ∧ y ≤ hi) = q) (w : World) : Calls Tryz.prog 121 #[.agg #[.int .i64 x, .int .i64 y], .int .i64 lo, .int .i64 hi] w fun e w' => e = .returned (.bool q) ∧ Ext w w' := by
  have := inside_calls x y lo hi w
  have e : insideB x y lo hi = q := by rw [← hq]; unfold insideB; rw [Bool.eq_iff_iff]; try (simp; try omega)
  rw [e] at this
  exact this
/-- A valid sounding. -/
structure Snd (l : List Lv) : Prop where
  n2 : 2 ≤ l.length
  n16 : l.length ≤ 16
  ok : ∀ x ∈ l, -500 ≤ x.h ∧ x.h ≤ 9000 ∧ 1000 ≤ x.plo ∧ x.plo ≤ x.phi ∧ x.phi ≤ 12000 ∧ 1500 ≤ x.tlo ∧ x.tlo ≤ x.thi ∧ x.thi ≤ 3500
  rise : ∀ {i : Nat} {x y : Lv}, l[i]? = some x → l[i + 1]? = some y → 1 ≤ y.h - x.h ∧ y.h - x.h ≤ 2000
theorem checkWinds_calls (A : Option Addr) (n c : Nat) (l : List Gl) (w : World) (hr : RdS w 6 A n (l.map glCells)) (hn : n ≤ 1000000) :
    Calls Tryz.prog 88 #[.slice A n c] w fun e w' => e = .returned (.int .i64 (if windB l then 0 else 22)) ∧ Ext w w' := by
  have hl := hr.len
  simp only [List.length_map] at hl
  cases h0 : decide (1 ≤ (n : Int) ∧ (n : Int) ≤ 16) with
  | false =>
    refine enterQ (c := cx w 57) Tryz.func88 rfl rfl rfl rfl ?_
    ((all_goals refine goF0 ?_); (all_goals constructor); (any_goals exact trivial); all_goals intros)
    all_goals (rw [windB_short hl.symm.symm h0]; rfl)
  | true =>
  refine enterQ (c := cx w 57) Tryz.func88 rfl rfl rfl rfl ?_
  ((all_goals refine goF0 ?_); (all_goals constructor); (any_goals exact trivial); all_goals intros)
  apply t_loopK (ι := Nat) [0, 10, 11] (fun k => [(12, .int .i64 (k : Nat))]) (fun _ => []) (fun k => k ≤ n ∧ ∀ j, j < k → galeAt l j = true) (fun k => n - k) (0)
  (repeat (first | exact KeepF.nil | (apply KeepF.cons; exact rfl) | apply KeepF.skip))
  (repeat (first | exact FrSub.nil | (apply FrSub.cons; exact rfl)))
  (repeat (first | exact HpSub.refl _ | (apply HpSub.consE; (repeat (first | exact P0 | apply P1)); exact rfl) | exact HpSub.nil))
  · exact ⟨by omega, fun j hj => by omega⟩
  rintro k ⟨hk, hkp⟩
  try simp only [List.cons_append, List.nil_append]
  by_cases hlt : k < n
  · obtain ⟨b, o, x, rfl, _, hx, c0, c1, c2, c3, c4, c5⟩ := gl_read hr hlt
    have hG := galeAt_eq hx
    unfold galeOk at hG
    obtain ⟨q1, h1⟩ : ∃ q, decide (-500 ≤ x.h ∧ x.h ≤ 9000) = q := ⟨_, rfl⟩
    obtain ⟨q3, h3⟩ : ∃ q, decide (0 ≤ x.gust ∧ x.gust ≤ 500) = q := ⟨_, rfl⟩
    obtain ⟨q4, h4⟩ : ∃ q, decide (x.xlo ≤ x.xhi ∧ -1000 ≤ x.xlo ∧ x.xhi ≤ 1000) = q := ⟨_, rfl⟩
    obtain ⟨q5, h5⟩ : ∃ q, decide (x.ylo ≤ x.yhi ∧ -1000 ≤ x.ylo ∧ x.yhi ≤ 1000) = q := ⟨_, rfl⟩
    rw [h1, h3, h4, h5] at hG
    cases q1 with
    | false =>
      ((all_goals refine goF0 ?_); (all_goals constructor); (any_goals exact trivial); all_goals intros)
      all_goals (rw [windB_no hl.symm.symm (by omega) (by rw [hG]; rfl)]; rfl)
    | true =>
    cases k with
    | zero =>
      simp only [prevG, Bool.true_and] at hG
      ((all_goals refine goF0 ?_); (all_goals constructor); (any_goals exact trivial); all_goals intros)
      all_goals first
        | (rw [windB_no hl.symm.symm (by omega) (by rw [hG]; simp_all)]; rfl)
        | (refine ⟨1, ⟨by omega, fun i hi => (by obtain rfl : i = 0 := by omega
                                                 rw [hG]; simp_all)⟩, by omega, ?_, ?_⟩ <;> (try simp only [List.cons_append, List.nil_append]) <;> (repeat' (first | exact FrSub.nil | (apply FrSub.cons; exact rfl) | (apply HpSub.consE; (repeat (first | exact P0 | apply P1)); exact rfl) | exact HpSub.nil)))
    | succ j =>
      obtain ⟨b', o', y, hA, _, hy, d0, d1, d2, d3, d4, d5⟩ := gl_read hr (show j < n by omega)
      obtain ⟨rfl, rfl⟩ : b' = b ∧ o' = o := by simpa using hA.symm
      simp only [prevG, hy, Bool.true_and] at hG
      by_cases hyx : y.h < x.h
      · rw [decide_eq_true hyx, Bool.true_and] at hG
        ((all_goals refine goF0 ?_); (all_goals constructor); (any_goals exact trivial); all_goals intros)
        all_goals first
          | (rw [windB_no hl.symm.symm (by omega) (by rw [hG]; simp_all)]; rfl)
          | (refine ⟨j + 1 + 1, ⟨by omega, fun i hi => (by rcases Nat.lt_or_ge i (j + 1) with h | h; (exact hkp i h); (obtain rfl : i = j + 1 := by omega); rw [hG]; simp_all)⟩, by omega, ?_, ?_⟩ <;> (try simp only [List.cons_append, List.nil_append]) <;> (repeat' (first | exact FrSub.nil | (apply FrSub.cons; exact rfl) | (apply HpSub.consE; (repeat (first | exact P0 | apply P1)); exact rfl) | exact HpSub.nil)))
      · rw [decide_eq_false hyx, Bool.false_and] at hG
        ((all_goals refine goF0 ?_); (all_goals constructor); (any_goals exact trivial); all_goals intros)
        all_goals (rw [windB_no hl.symm.symm (by omega) (by rw [hG])]; rfl)
  · ((all_goals refine goF0 ?_); (all_goals constructor); (any_goals exact trivial); all_goals intros)
    all_goals (rw [windB_yes hl.symm.symm h0 (fun j hj => hkp j (by omega))]; rfl)
theorem winds_calls (A : Option Addr) (n c : Nat) (l : List Gl) (w : World) (hr : RdS w 6 A n (l.map glCells)) (hn : n ≤ 1000000) :
    Calls Tryz.prog 137 #[.slice A n c] w fun e w' => e = .returned (.bool (windB l)) ∧ Ext w w' := by
  have hl := hr.len
  simp only [List.length_map] at hl
  cases h0 : decide (1 ≤ (n : Int) ∧ (n : Int) ≤ 16) with
  | false =>
    refine enterQ (c := cx w 58) Tryz.func137 rfl rfl rfl rfl ?_
    ((all_goals refine goF0 ?_); (all_goals constructor); (any_goals exact trivial); all_goals intros)
    all_goals (rw [windB_short hl.symm.symm h0]; rfl)
  | true =>
  refine enterQ (c := cx w 58) Tryz.func137 rfl rfl rfl rfl ?_
  ((all_goals refine goF0 ?_); (all_goals constructor); (any_goals exact trivial); all_goals intros)
  apply t_loopK (ι := Nat) [0] (fun k => [(3, .int .i64 (k : Nat))]) (fun _ => []) (fun k => k ≤ n ∧ ∀ j, j < k → galeAt l j = true) (fun k => n - k) (0)
  (repeat (first | exact KeepF.nil | (apply KeepF.cons; exact rfl) | apply KeepF.skip))
  (repeat (first | exact FrSub.nil | (apply FrSub.cons; exact rfl)))
  (repeat (first | exact HpSub.refl _ | (apply HpSub.consE; (repeat (first | exact P0 | apply P1)); exact rfl) | exact HpSub.nil))
  · exact ⟨by omega, fun j hj => by omega⟩
  rintro k ⟨hk, hkp⟩
  try simp only [List.cons_append, List.nil_append]
  by_cases hlt : k < n
  · obtain ⟨b, o, x, rfl, _, hx, c0, c1, c2, c3, c4, c5⟩ := gl_read hr hlt
    have hG := galeAt_eq hx
    unfold galeOk at hG
    obtain ⟨q1, h1⟩ : ∃ q, decide (-500 ≤ x.h ∧ x.h ≤ 9000) = q := ⟨_, rfl⟩
    obtain ⟨q3, h3⟩ : ∃ q, decide (0 ≤ x.gust ∧ x.gust ≤ 500) = q := ⟨_, rfl⟩
    obtain ⟨q4, h4⟩ : ∃ q, decide (x.xlo ≤ x.xhi ∧ -1000 ≤ x.xlo ∧ x.xhi ≤ 1000) = q := ⟨_, rfl⟩
    obtain ⟨q5, h5⟩ : ∃ q, decide (x.ylo ≤ x.yhi ∧ -1000 ≤ x.ylo ∧ x.yhi ≤ 1000) = q := ⟨_, rfl⟩
    rw [h1, h3, h4, h5] at hG
    cases q1 with
    | false =>
      ((all_goals refine goF0 ?_); (all_goals constructor); (any_goals exact trivial); all_goals intros)
      all_goals (rw [windB_no hl.symm.symm (by omega) (by rw [hG]; rfl)]; rfl)
    | true =>
    cases k with
    | zero =>
      simp only [prevG, Bool.true_and] at hG
      ((all_goals refine goF0 ?_); (all_goals constructor); (any_goals exact trivial); all_goals intros)
      all_goals first
        | (rw [windB_no hl.symm.symm (by omega) (by rw [hG]; simp_all)]; rfl)
        | (refine ⟨1, ⟨by omega, fun i hi => (by obtain rfl : i = 0 := by omega
                                                 rw [hG]; simp_all)⟩, by omega, ?_, ?_⟩ <;> (try simp only [List.cons_append, List.nil_append]) <;> (repeat' (first | exact FrSub.nil | (apply FrSub.cons; exact rfl) | exact HpSub.nil)))
    | succ j =>
      obtain ⟨b', o', y, hA, _, hy, d0, d1, d2, d3, d4, d5⟩ := gl_read hr (show j < n by omega)
      obtain ⟨rfl, rfl⟩ : b' = b ∧ o' = o := by simpa using hA.symm
      simp only [prevG, hy, Bool.true_and] at hG
      by_cases hyx : y.h < x.h
      · rw [decide_eq_true hyx, Bool.true_and] at hG
        ((all_goals refine goF0 ?_); (all_goals constructor); (any_goals exact trivial); all_goals intros)
        all_goals first
          | (rw [windB_no hl.symm.symm (by omega) (by rw [hG]; simp_all)]; rfl)
          | (refine ⟨j + 1 + 1, ⟨by omega, fun i hi => (by rcases Nat.lt_or_ge i (j + 1) with h | h; (exact hkp i h); (obtain rfl : i = j + 1 := by omega); rw [hG]; simp_all)⟩, by omega, ?_, ?_⟩ <;> (try simp only [List.cons_append, List.nil_append]) <;> (repeat' (first | exact FrSub.nil | (apply FrSub.cons; exact rfl) | exact HpSub.nil)))
      · rw [decide_eq_false hyx, Bool.false_and] at hG
        ((all_goals refine goF0 ?_); (all_goals constructor); (any_goals exact trivial); all_goals intros)
        all_goals (rw [windB_no hl.symm.symm (by omega) (by rw [hG])]; rfl)
  · ((all_goals refine goF0 ?_); (all_goals constructor); (any_goals exact trivial); all_goals intros)
    all_goals (rw [windB_yes hl.symm.symm h0 (fun j hj => hkp j (by omega))]; rfl)
end Go.Proofs.YtcjkndjjbjoehaaGreat
namespace Go.Proofs.YtcjkndjjbjoehaaGreat
/-- Is another gale between gale i and the heights, above it? -/
def belowG (l : List Gl) (p : Int) (i : Nat) : Bool := match l[i]?, l[i + 1]? with | some x, some y => decide (x.h < p) && decide (y.h < p) | _, _ => false
def aboveG (l : List Gl) (q : Int) (i : Nat) : Bool := match l[i]?, prevG l i with | some x, some y => decide (q < x.h) && decide (q < y.h) | _, _ => false
def cntG (l : List Gl) (p q : Int) (i : Nat) : Bool := !belowG l p i && !aboveG l q i
def guAt (l : List Gl) (i : Nat) : Int := match l[i]? with | some x => x.gust | none => 0
def gustR (l : List Gl) (p q : Int) : Nat → Int | 0 => 0 | k + 1 => if cntG l p q k then max (gustR l p q k) (guAt l k) else gustR l p q k
/-- The gust between two heights. -/
def gustV (l : List Gl) (p q : Int) : Int := gustR l p q l.length
theorem gustR_yes {l : List Gl} {p q : Int} {k : Nat} {x : Gl} (hx : l[k]? = some x) (h : cntG l p q k = true) : gustR l p q (k + 1) = max (gustR l p q k) x.gust := by
  simp only [gustR, h, if_true, guAt, hx]
theorem gustR_no {l : List Gl} {p q : Int} {k : Nat} (h : cntG l p q k = false) : gustR l p q (k + 1) = gustR l p q k := by
  simp only [gustR, h, Bool.false_eq_true, if_false]
theorem below_last {l : List Gl} {p : Int} {i : Nat} (h : l[i + 1]? = none) : belowG l p i = false := by unfold belowG; rw [h]; cases l[i]? <;> rfl
theorem below_at {l : List Gl} {p : Int} {i : Nat} {x y : Gl} (hx : l[i]? = some x) (hy : l[i + 1]? = some y) : belowG l p i = (decide (x.h < p) && decide (y.h < p)) := by unfold belowG; rw [hx, hy]
theorem above_zero {l : List Gl} {q : Int} : aboveG l q 0 = false := by unfold aboveG prevG; cases l[0]? <;> rfl
theorem above_at {l : List Gl} {q : Int} {i : Nat} {x y : Gl} (hx : l[i + 1]? = some x) (hy : l[i]? = some y) : aboveG l q (i + 1) = (decide (q < x.h) && decide (q < y.h)) := by
  unfold aboveG
  rw [hx, show prevG l (i + 1) = some y from hy]
theorem gustR_bounds {l : List Gl} {p q : Int} (h : ∀ x ∈ l, 0 ≤ x.gust ∧ x.gust ≤ 500) : ∀ k, 0 ≤ gustR l p q k ∧ gustR l p q k ≤ 500
  | 0 => by simp [gustR]
  | k + 1 => by
    have ih := gustR_bounds h (p := p) (q := q) k
    simp only [gustR]
    split
    · unfold guAt
      cases hk : l[k]? with
      | none => simp only; omega
      | some x =>
        have := h x (List.mem_of_getElem? hk)
        simp only; omega
    · exact ih
theorem Wnd.mono {l : List Gl} (h : Wnd l) {i : Nat} {x : Gl} (hx : l[i]? = some x) : ∀ {j : Nat} {y : Gl}, l[j]? = some y → i ≤ j → x.h ≤ y.h ∧ (i < j → x.h < y.h)
  | 0, y, hy, hij => by
    obtain rfl : i = 0 := by omega
    rw [hx] at hy
    obtain rfl := Option.some.inj hy
    exact ⟨Int.le_refl _, fun h => absurd h (Nat.lt_irrefl _)⟩
  | j + 1, y, hy, hij => by
    rcases Nat.lt_or_ge i (j + 1) with k | k
    · have hj : j < l.length := by have := (List.getElem?_eq_some_iff.1 hy).1; omega
      have hz : l[j]? = some l[j] := List.getElem?_eq_getElem hj
      have h1 := (h.mono hx hz (by omega)).1
      have h2 := h.rise hz hy
      exact ⟨by omega, fun _ => by omega⟩
    · obtain rfl : i = j + 1 := by omega
      rw [hx] at hy
      obtain rfl := Option.some.inj hy
      exact ⟨Int.le_refl _, fun h => absurd h (Nat.lt_irrefl _)⟩
/-- How many gales are below a height. -/
theorem wnd_split {l : List Gl} (h : Wnd l) (f : Int → Bool) (hf : ∀ a b, a ≤ b → f a = true → f b = true) : ∃ r, r ≤ l.length ∧ (∀ j x, j < r → l[j]? = some x → f x.h = false) ∧ (∀ j x, r ≤ j → l[j]? = some x → f x.h = true) := by
  have key : ∀ n, n ≤ l.length → ∃ r, r ≤ n ∧ (∀ j x, j < r → l[j]? = some x → f x.h = false) ∧ (∀ j x, r ≤ j → j < n → l[j]? = some x → f x.h = true) := by
    intro n
    induction n with
    | zero => exact fun _ => ⟨0, Nat.le_refl _, fun j x hj => absurd hj (by omega), fun j x h1 h2 => by omega⟩
    | succ n ih =>
      intro hn
      obtain ⟨r, hr, h1, h2⟩ := ih (by omega)
      have hk : l[n]? = some l[n] := List.getElem?_eq_getElem (by omega)
      by_cases hrn : r = n
      · subst hrn
        cases hv : f l[r].h with
        | true =>
          refine ⟨r, by omega, h1, fun j x hj hj2 hx => ?_⟩
          obtain rfl : j = r := by omega
          rw [hk] at hx
          obtain rfl := Option.some.inj hx
          exact hv
        | false =>
          refine ⟨r + 1, by omega, fun j x hj hx => ?_, fun j x hj hj2 => by omega⟩
          rcases Nat.lt_or_ge j r with k | k
          · exact h1 j x k hx
          · obtain rfl : j = r := by omega
            rw [hk] at hx
            obtain rfl := Option.some.inj hx
            exact hv
      · refine ⟨r, by omega, h1, fun j x hj hj2 hx => ?_⟩
        rcases Nat.lt_or_ge j n with k | k
        · exact h2 j x hj k hx
        · obtain rfl : j = n := by omega
          have hr' : l[r]? = some l[r] := List.getElem?_eq_getElem (by omega)
          exact hf _ _ (h.mono hr' hx hj).1 (h2 r _ (Nat.le_refl _) (by omega) hr')
  obtain ⟨r, h0, h1, h2⟩ := key l.length (Nat.le_refl _)
  exact ⟨r, h0, h1, fun j x hj hx => h2 j x hj (List.getElem?_eq_some_iff.1 hx).1 hx⟩
theorem belowG_iff {l : List Gl} {p : Int} {a i : Nat} (h : Wnd l) (h1 : ∀ j x, j < a → l[j]? = some x → x.h < p) (h2 : ∀ j x, a ≤ j → l[j]? = some x → p ≤ x.h) (hi : i < l.length) : belowG l p i = decide (i + 1 < a ∧ i + 1 < l.length) := by
  have hx : l[i]? = some l[i] := List.getElem?_eq_getElem hi
  by_cases hn : i + 1 < l.length
  · have hy : l[i + 1]? = some l[i + 1] := List.getElem?_eq_getElem hn
    rw [below_at hx hy]
    by_cases ha : i + 1 < a
    · have k1 := h1 _ _ ha hy
      have k2 := h1 _ _ (by omega) hx
      simp [ha, hn, k1, k2]
    · have k1 := h2 _ _ (by omega) hy
      have : ¬ l[i + 1].h < p := by omega
      simp [ha, this]
  · rw [below_last (List.getElem?_eq_none (by omega))]
    simp [hn]
theorem aboveG_iff {l : List Gl} {q : Int} {b i : Nat} (h : Wnd l) (h1 : ∀ j x, j < b → l[j]? = some x → x.h ≤ q) (h2 : ∀ j x, b ≤ j → l[j]? = some x → q < x.h) (hi : i < l.length) : aboveG l q i = decide (b + 1 ≤ i) := by
  have hx : l[i]? = some l[i] := List.getElem?_eq_getElem hi
  cases i with
  | zero => rw [above_zero]; simp
  | succ j =>
    have hy : l[j]? = some l[j] := List.getElem?_eq_getElem (by omega)
    rw [above_at hx hy]
    by_cases hb : b ≤ j
    · have k1 := h2 _ _ hb hy
      have k2 := h2 _ _ (by omega) hx
      simp [hb, k1, k2]
    · have k1 := h1 _ _ (by omega) hy
      have : ¬ q < l[j].h := by omega
      simp [hb, this]
theorem cntG_iff {l : List Gl} {p q : Int} {a b i : Nat} (h : Wnd l) (h1 : ∀ j x, j < a → l[j]? = some x → x.h < p) (h2 : ∀ j x, a ≤ j → l[j]? = some x → p ≤ x.h)
    (h3 : ∀ j x, j < b → l[j]? = some x → x.h ≤ q) (h4 : ∀ j x, b ≤ j → l[j]? = some x → q < x.h) (ha : a ≤ l.length) (hi : i < l.length) : cntG l p q i = decide (a - 1 ≤ i ∧ i < b + 1) := by
  unfold cntG
  rw [belowG_iff h h1 h2 hi, aboveG_iff h h3 h4 hi, Bool.eq_iff_iff]
  simp only [Bool.and_eq_true, Bool.not_eq_true', decide_eq_false_iff_not, decide_eq_true_eq]
  omega
theorem gustR_from {l : List Gl} {p q : Int} {a : Nat} : ∀ k, k ≤ a → (∀ i, i < a → cntG l p q i = false) → gustR l p q k = 0
  | 0, _, _ => rfl
  | k + 1, hk, h => by rw [gustR_no (h k (by omega))]; exact gustR_from k (by omega) h
theorem gustR_to {l : List Gl} {p q : Int} {b : Nat} : ∀ k, b ≤ k → (∀ i, b ≤ i → i < k → cntG l p q i = false) → gustR l p q k = gustR l p q b
  | 0, hk, _ => by obtain rfl : b = 0 := by omega
                   rfl
  | k + 1, hk, h => by
    rcases Nat.lt_or_ge k b with h1 | h1
    · obtain rfl : b = k + 1 := by omega
      rfl
    · rw [gustR_no (h k h1 (by omega))]
      exact gustR_to k h1 fun i hi hik => h i hi (by omega)
end Go.Proofs.YtcjkndjjbjoehaaGreat
namespace Go.Proofs.YtcjkndjjbjoehaaGreat
open Go.RowKit
attribute [local irreducible] OQ OS OX Rd T TL GX GL AL AI RV wpG SAny Calls
theorem gust_calls (A : Option Addr) (n c : Nat) (l : List Gl) (p q : Int) (w : World) (hr : RdS w 6 A n (l.map glCells)) (hn : n ≤ 1000000) :
    Calls Tryz.prog 167 #[.slice A n c, .agg #[.int .i64 p, .int .i64 q]] w fun e w' => e = .returned (.int .i64 (gustV l p q)) ∧ Ext w w' := by
  have hl := hr.len
  simp only [List.length_map] at hl
  refine enterQ (c := cx w 78) Tryz.func167 rfl rfl rfl rfl ?_
  ((all_goals refine goF0 ?_); (all_goals constructor); (any_goals exact trivial); all_goals intros)
  apply t_loopK (ι := Nat) [0, 3, 4, 77] (fun k => [(5, .int .i64 (gustR l p q k)), (6, .int .i64 (k : Nat))]) (fun _ => []) (fun k => k ≤ n) (fun k => n - k) (0)
  (repeat (first | exact KeepF.nil | (apply KeepF.cons; exact rfl) | apply KeepF.skip))
  (repeat (first | exact FrSub.nil | (apply FrSub.cons; exact rfl)))
  (repeat (first | exact HpSub.refl _ | (apply HpSub.consE; (repeat (first | exact P0 | apply P1)); exact rfl) | exact HpSub.nil))
  · omega
  intro k hk
  try simp only [List.cons_append, List.nil_append]
  by_cases hlt : k < n
  · obtain ⟨b, o, x, rfl, _, hx, c0, c1, c2, c3, c4, c5⟩ := gl_read hr hlt
    by_cases hlt2 : k + 1 < n
    · obtain ⟨b', o', y, hA, _, hy, d0, d1, d2, d3, d4, d5⟩ := gl_read hr (show k + 1 < n by omega)
      obtain ⟨rfl, rfl⟩ : b = b' ∧ o = o' := by simpa using hA
      have HB := below_at (p := p) hx hy
      cases k with
      | zero =>
        have HA := above_zero (l := l) (q := q)
        ((all_goals refine goF0 ?_); (all_goals constructor); (any_goals exact trivial); all_goals intros)
        all_goals (refine ⟨0 + 1, by omega, by omega, ?_, ?_⟩ <;> (try simp only [List.cons_append, List.nil_append]) <;> (repeat' (first | exact FrSub.nil | (apply FrSub.cons; exact rfl) | (apply FrSub.consE; exact rfl; first | exact congrArg (Value.int .i64) (gustR_yes hx (by unfold cntG; rw [HB, HA]; simp_all)).symm | exact congrArg (Value.int .i64) (gustR_no (by unfold cntG; rw [HB, HA]; simp_all)).symm) | exact HpSub.refl _)))
      | succ j =>
        obtain ⟨b', o', z, hA, _, hz, e0, e1, e2, e3, e4, e5⟩ := gl_read hr (show j < n by omega)
        obtain ⟨rfl, rfl⟩ : b = b' ∧ o = o' := by simpa using hA
        have HA := above_at (q := q) hx hz
        ((all_goals refine goF0 ?_); (all_goals constructor); (any_goals exact trivial); all_goals intros)
        all_goals (refine ⟨j + 1 + 1, by omega, by omega, ?_, ?_⟩ <;> (try simp only [List.cons_append, List.nil_append]) <;> (repeat' (first | exact FrSub.nil | (apply FrSub.cons; exact rfl) | (apply FrSub.consE; exact rfl; first | exact congrArg (Value.int .i64) (gustR_yes hx (by unfold cntG; rw [HB, HA]; simp_all)).symm | exact congrArg (Value.int .i64) (gustR_no (by unfold cntG; rw [HB, HA]; simp_all)).symm) | exact HpSub.refl _)))
    · have HB := below_last (l := l) (p := p) (i := k) (List.getElem?_eq_none (by omega))
      cases k with
      | zero =>
        have HA := above_zero (l := l) (q := q)
        ((all_goals refine goF0 ?_); (all_goals constructor); (any_goals exact trivial); all_goals intros)
        all_goals (refine ⟨0 + 1, by omega, by omega, ?_, ?_⟩ <;> (try simp only [List.cons_append, List.nil_append]) <;> (repeat' (first | exact FrSub.nil | (apply FrSub.cons; exact rfl) | (apply FrSub.consE; exact rfl; first | exact congrArg (Value.int .i64) (gustR_yes hx (by unfold cntG; rw [HB, HA]; simp_all)).symm | exact congrArg (Value.int .i64) (gustR_no (by unfold cntG; rw [HB, HA]; simp_all)).symm) | exact HpSub.refl _)))
      | succ j =>
        obtain ⟨b', o', z, hA, _, hz, e0, e1, e2, e3, e4, e5⟩ := gl_read hr (show j < n by omega)
        obtain ⟨rfl, rfl⟩ : b = b' ∧ o = o' := by simpa using hA
        have HA := above_at (q := q) hx hz
        ((all_goals refine goF0 ?_); (all_goals constructor); (any_goals exact trivial); all_goals intros)
        all_goals (refine ⟨j + 1 + 1, by omega, by omega, ?_, ?_⟩ <;> (try simp only [List.cons_append, List.nil_append]) <;> (repeat' (first | exact FrSub.nil | (apply FrSub.cons; exact rfl) | (apply FrSub.consE; exact rfl; first | exact congrArg (Value.int .i64) (gustR_yes hx (by unfold cntG; rw [HB, HA]; simp_all)).symm | exact congrArg (Value.int .i64) (gustR_no (by unfold cntG; rw [HB, HA]; simp_all)).symm) | exact HpSub.refl _)))
  · obtain rfl : k = n := by omega
    unfold gustV
    rw [← hl]
    ((all_goals refine goF0 ?_); (all_goals constructor); (any_goals exact trivial); all_goals intros)
    all_goals rfl
theorem ge1_calls (A : Option Addr) (n c : Nat) (l : List Gl) (p q : Int) (b2 b3 j : Nat) (hj : j < n) (x : Gl) (hx : l[j]? = some x) (w : World) (hr : RdS w 6 A n (l.map glCells)) (m0 : w.cell? ⟨b2, 0, none⟩ = some (.slice A n c)) (m1 : w.cell? ⟨b3, 0, none⟩ = some (.int .i64 p)) (m2 : w.cell? ⟨b3, 0 + 1, none⟩ = some (.int .i64 q)) :
    Calls Tryz.prog 91 #[.int .i64 (j : Int), .pointer (some ⟨b2, 0, none⟩), .pointer (some ⟨b3, 0, none⟩)] w fun e w' => e = .returned (.bool (decide (p ≤ x.h))) ∧ Ext w w' := by
  obtain ⟨b, o, x', rfl, _, hx', c0, c1, c2, c3, c4, c5⟩ := gl_read hr hj
  obtain rfl : x' = x := by rw [hx'] at hx; exact Option.some.inj hx
  refine enterQ (c := cx w 13) Tryz.func91 rfl rfl rfl rfl ?_
  ((all_goals refine goF0 ?_); (all_goals constructor); (any_goals exact trivial); all_goals intros)
  all_goals rfl
theorem gt1_calls (A : Option Addr) (n c : Nat) (l : List Gl) (p q : Int) (b2 b3 j : Nat) (hj : j < n) (x : Gl) (hx : l[j]? = some x) (w : World) (hr : RdS w 6 A n (l.map glCells)) (m0 : w.cell? ⟨b2, 0, none⟩ = some (.slice A n c)) (m1 : w.cell? ⟨b3, 0, none⟩ = some (.int .i64 p)) (m2 : w.cell? ⟨b3, 0 + 1, none⟩ = some (.int .i64 q)) :
    Calls Tryz.prog 92 #[.int .i64 (j : Int), .pointer (some ⟨b2, 0, none⟩), .pointer (some ⟨b3, 0, none⟩)] w fun e w' => e = .returned (.bool (decide (q < x.h))) ∧ Ext w w' := by
  obtain ⟨b, o, x', rfl, _, hx', c0, c1, c2, c3, c4, c5⟩ := gl_read hr hj
  obtain rfl : x' = x := by rw [hx'] at hx; exact Option.some.inj hx
  refine enterQ (c := cx w 13) Tryz.func92 rfl rfl rfl rfl ?_
  ((all_goals refine goF0 ?_); (all_goals constructor); (any_goals exact trivial); all_goals intros)
  all_goals rfl
theorem srchGe {w : World} {D : List Nat} {H H1 H2 : Hp} {b2 b3 : Nat} {tg tg' : Tg} {A : Option Addr} {n c : Nat} {l : List Gl} (hr : RdS w 6 A n (l.map glCells)) (hn : n ≤ 1000000) (p q : Int) (r : Nat) (hr1 : r ≤ n) (h1 : ∀ j x, j < r → l[j]? = some x → x.h < p) (h2 : ∀ j x, r ≤ j → l[j]? = some x → p ≤ x.h)
    (w1 : World) (hw : Has w ⟨[], D⟩ H w1) (p1 : Pick H b2 [.slice A n c] tg H1) (p2 : Pick H b3 [.int .i64 p, .int .i64 q] tg' H2) :
    Calls Tryz.prog 90 #[.int .i64 (n : Int), .func (.func 91) #[] ⟨[.pointer (some ⟨b2, 0, none⟩), .pointer (some ⟨b3, 0, none⟩)]⟩] w1 fun e w' => e = .returned (.int .i64 (r : Int)) ∧ Ext w1 w' := by
  have hl := hr.len
  simp only [List.length_map] at hl
  have m0 := hw.cellAt p1 (o := 0) rfl
  have m1 := hw.cellAt p2 (o := 0) rfl
  have m2 := hw.cellAt p2 (o := 1) rfl
  refine search_calls 91 _ n r (fun j => match l[j]? with | some x => decide (p ≤ x.h) | none => true) (by omega) hr1 (fun j hj => ?_) (fun j hj hjn => ?_) w1 Tryz.call91 (fun j hj w2 hx => ?_)
  · have : l[j]? = some l[j] := List.getElem?_eq_getElem (by omega)
    have h := h1 j _ hj this
    simp only [this]
    simpa using h
  · have : l[j]? = some l[j] := List.getElem?_eq_getElem (by omega)
    have h := h2 j _ hj this
    simp only [this]
    simpa using h
  · have : l[j]? = some l[j] := List.getElem?_eq_getElem (by omega)
    simp only [this]
    exact ge1_calls A n c l p q b2 b3 j hj _ this w2 (hr.ext (hw.ext.ext.trans hx)) (hx.cell m0) (hx.cell m1) (hx.cell m2)
theorem srchGt {w : World} {D : List Nat} {H H1 H2 : Hp} {b2 b3 : Nat} {tg tg' : Tg} {A : Option Addr} {n c : Nat} {l : List Gl} (hr : RdS w 6 A n (l.map glCells)) (hn : n ≤ 1000000) (p q : Int) (r : Nat) (hr1 : r ≤ n) (h1 : ∀ j x, j < r → l[j]? = some x → x.h ≤ q) (h2 : ∀ j x, r ≤ j → l[j]? = some x → q < x.h)
    (w1 : World) (hw : Has w ⟨[], D⟩ H w1) (p1 : Pick H b2 [.slice A n c] tg H1) (p2 : Pick H b3 [.int .i64 p, .int .i64 q] tg' H2) :
    Calls Tryz.prog 90 #[.int .i64 (n : Int), .func (.func 92) #[] ⟨[.pointer (some ⟨b2, 0, none⟩), .pointer (some ⟨b3, 0, none⟩)]⟩] w1 fun e w' => e = .returned (.int .i64 (r : Int)) ∧ Ext w1 w' := by
  have hl := hr.len
  simp only [List.length_map] at hl
  have m0 := hw.cellAt p1 (o := 0) rfl
  have m1 := hw.cellAt p2 (o := 0) rfl
  have m2 := hw.cellAt p2 (o := 1) rfl
  refine search_calls 92 _ n r (fun j => match l[j]? with | some x => decide (q < x.h) | none => true) (by omega) hr1 (fun j hj => ?_) (fun j hj hjn => ?_) w1 Tryz.call92 (fun j hj w2 hx => ?_)
  · have : l[j]? = some l[j] := List.getElem?_eq_getElem (by omega)
    have h := h1 j _ hj this
    simp only [this]
    simpa using h
  · have : l[j]? = some l[j] := List.getElem?_eq_getElem (by omega)
    have h := h2 j _ hj this
    simp only [this]
    simpa using h
  · have : l[j]? = some l[j] := List.getElem?_eq_getElem (by omega)
    simp only [this]
    exact gt1_calls A n c l p q b2 b3 j hj _ this w2 (hr.ext (hw.ext.ext.trans hx)) (hx.cell m0) (hx.cell m1) (hx.cell m2)
/-- The part of a gale's wind to the east, or to the north. -/
def partG (e : Bool) (x : Gl) : Int × Int := match e with | true => (x.xlo, x.xhi) | false => (x.ylo, x.yhi)
def knG (e : Bool) (x : Gl) : Kn := ⟨x.h, (partG e x).1, (partG e x).2⟩
def tabG (e : Bool) (l : List Gl) : List Kn := l.map (knG e)
def hAt (l : List Gl) (i : Nat) : Int := match l[i]? with | some x => x.h | none => 0
def clampG (l : List Gl) (h : Int) : Int := min (max h (hAt l 0)) (hAt l (l.length - 1))
/-- The steady winds between two heights. -/
def steadyV (e : Bool) (l : List Gl) (p q : Int) : Int × Int :=
  if l.length = 1 then (match l[0]? with | some x => partG e x | none => (0, 0)) else valV (tabG e l) (clampG l p) (clampG l q)
theorem tabG_at {e : Bool} {l : List Gl} {i : Nat} {k : Kn} (h : (tabG e l)[i]? = some k) : ∃ x, l[i]? = some x ∧ k = knG e x := by
  unfold tabG at h
  rw [List.getElem?_map, Option.map_eq_some_iff] at h
  obtain ⟨x, h1, h2⟩ := h
  exact ⟨x, h1, h2.symm⟩
theorem tabG_fst {e : Bool} {l : List Gl} {m : Nat} {x : Gl} {p : Int} (hx : l[m]? = some x) (h : x.h ≤ p) (k : Kn) (hk : (tabG e l)[m]? = some k) : k.x ≤ p := by
  obtain ⟨z, hz, rfl⟩ := tabG_at hk
  rw [hx] at hz
  obtain rfl := Option.some.inj hz
  exact h
theorem tabG_lst {e : Bool} {l : List Gl} {m : Nat} {y : Gl} {q : Int} (hy : l[m]? = some y) (h : q ≤ y.h) (k : Kn) (hk : (tabG e l)[m]? = some k) : q ≤ k.x := by
  obtain ⟨z, hz, rfl⟩ := tabG_at hk
  rw [hy] at hz
  obtain rfl := Option.some.inj hz
  exact h
theorem incr_ofG : ∀ {t : List Kn}, (∀ {i : Nat} {a b : Kn}, t[i]? = some a → t[i + 1]? = some b → a.x < b.x) → Incr t
  | [], _ => .nil
  | [a], _ => .one a
  | a :: b :: r, h => .cons (h (i := 0) rfl rfl) (incr_ofG (fun {i x y} hx hy => h (i := i + 1) (by simpa using hx) (by simpa using hy)))
theorem Wnd.tab {e : Bool} {l : List Gl} (h : Wnd l) (h2 : 2 ≤ l.length) : TabOk (tabG e l) := by
  have h16 := h.n16
  refine ⟨by simpa [tabG] using h2, by simp [tabG]; omega, incr_ofG (fun {i a b} ha hb => ?_), fun k hk => ?_⟩
  · obtain ⟨x, hx, rfl⟩ := tabG_at ha
    obtain ⟨y, hy, rfl⟩ := tabG_at hb
    exact h.rise hx hy
  · obtain ⟨x, hx, rfl⟩ := List.mem_map.1 hk
    have := h.ok x hx
    cases e
    · show -100000 ≤ x.h ∧ x.h ≤ 100000 ∧ -100000 ≤ x.ylo ∧ x.ylo ≤ x.yhi ∧ x.yhi ≤ 100000
      omega
    · show -100000 ≤ x.h ∧ x.h ≤ 100000 ∧ -100000 ≤ x.xlo ∧ x.xlo ≤ x.xhi ∧ x.xhi ≤ 100000
      omega
theorem flatG (t : List Kn) : (t.map knCells).flatten.length = t.length * 3 := by
  induction t with
  | nil => rfl
  | cons x t ih => simp [knCells] at ih ⊢; omega
theorem tabG_snoc {e : Bool} {l : List Gl} {k : Nat} {x : Gl} (h : l[k]? = some x) : ((tabG e (l.take (k + 1))).map knCells).flatten = ((tabG e (l.take k)).map knCells).flatten ++ [.int .i64 x.h, .int .i64 (partG e x).1, .int .i64 (partG e x).2] := by
  rw [List.take_add_one, h]
  simp [tabG, knG, knCells]
theorem tabG_len {e : Bool} {l : List Gl} {k n : Nat} (hl : l.length = n) (hk : k ≤ n) : ((tabG e (l.take k)).map knCells).flatten.length = k * 3 := by
  rw [flatG]; unfold tabG; rw [List.length_map, List.length_take]; omega
theorem tabG_rows {e : Bool} {l : List Gl} {n g : Nat} {tg : Tg} {w0 : World} {M : Ms} {H H' : Hp} {w : World} (hl : l.length = n) (h : Has w0 M H w) (p : Pick H g ((tabG e l).map knCells).flatten tg H') : RdS w 3 (some ⟨g, 0, none⟩) n ((tabG e l).map knCells) :=
  (h.blk _ p.mem).2.rows (k := 3) (by simp [tabG, hl]) (by simp only [List.mem_map]; rintro r ⟨z, _, rfl⟩; rfl)
theorem tabG_cell {e : Bool} {l : List Gl} {i : Nat} {x : Gl} (h : l[i]? = some x) : ((tabG e l).map knCells).flatten[0 + i * 3]? = some (.int .i64 x.h) ∧ ((tabG e l).map knCells).flatten[0 + i * 3 + 1]? = some (.int .i64 (partG e x).1) ∧ ((tabG e l).map knCells).flatten[0 + i * 3 + 2]? = some (.int .i64 (partG e x).2) := by
  induction l generalizing i with
  | nil => simp at h
  | cons y l ih =>
    cases i with
    | zero =>
      obtain rfl : y = x := by simpa using h
      exact ⟨rfl, rfl, rfl⟩
    | succ i =>
      have := ih (i := i) (by simpa using h)
      have e3 : 0 + (i + 1) * 3 = 0 + i * 3 + 1 + 1 + 1 := by omega
      rw [e3]
      exact this
theorem eq_kn {w : World} {d : Nat} {a0 a1 a2 b0 b1 b2 : Int} : (Op.equalIn (d + 3) 212 (.agg ⟨[.int .i64 a0, .int .i64 a1, .int .i64 a2]⟩) (.agg ⟨[.int .i64 b0, .int .i64 b1, .int .i64 b2]⟩)).run Tryz.prog w = .ok (decide (a0 = b0 ∧ a1 = b1 ∧ a2 = b2)) w := by
  rw [run_equalIn_struct w (d + 2) 212 _ _ (by kernel_rfl) (by kernel_rfl)]
  simp only [Program.fieldsOf, Tryz.underlying212]
  refine Eq.trans (eqF_int rfl rfl rfl rfl rfl (eqF_span rfl rfl rfl rfl rfl eqF_nil)) ?_
  congr 1
  rw [Bool.eq_iff_iff]
  simp [and_assoc]
section
variable {w : World} {N : Nat} {F : Fr} {H : Hp} {M : List Nat} {d : Option Tmp} {ty t' : TypeId} {pos : String} {af : Array Edge} {g : Option (Nat × Bool)} {x y : Operand} {a0 a1 a2 b0 b1 b2 : Int}
theorem oq_eq212 (hx : ev F x = some (.agg ⟨[.int .i64 a0, .int .i64 a1, .int .i64 a2]⟩)) (hy : ev F y = some (.agg ⟨[.int .i64 b0, .int .i64 b1, .int .i64 b2]⟩)) :
    OQ (cxM M w N) ⟨d, .binOp .eql 212 x y t', ty, pos, af, g⟩ F H (.bool (decide (a0 = b0 ∧ a1 = b1 ∧ a2 = b2))) := oq_eqS (by kernel_rfl) (fun w => eq_kn (d := 9997)) hx hy
end
theorem eastG_calls (a b c d : Int) (w : World) : Calls Tryz.prog 95 #[.agg #[.int .i64 a, .int .i64 b, .int .i64 c, .int .i64 d]] w fun e w' => e = .returned (.agg #[.int .i64 a, .int .i64 b]) ∧ Ext w w' := by
  refine enterQ (c := cx w 5) Tryz.func95 rfl rfl rfl rfl ?_
  ((all_goals refine goG0 ?_); (all_goals constructor); (any_goals exact trivial); all_goals intros)
  all_goals rfl
theorem northG_calls (a b c d : Int) (w : World) : Calls Tryz.prog 96 #[.agg #[.int .i64 a, .int .i64 b, .int .i64 c, .int .i64 d]] w fun e w' => e = .returned (.agg #[.int .i64 c, .int .i64 d]) ∧ Ext w w' := by
  refine enterQ (c := cx w 5) Tryz.func96 rfl rfl rfl rfl ?_
  ((all_goals refine goG0 ?_); (all_goals constructor); (any_goals exact trivial); all_goals intros)
  all_goals rfl
theorem clamp0_calls (b1 b2 : Nat) (f l h : Int) (w : World) (m0 : w.cell? ⟨b1, 0, none⟩ = some (.int .i64 f)) (m1 : w.cell? ⟨b2, 0, none⟩ = some (.int .i64 l)) :
    Calls Tryz.prog 123 #[.int .i64 h, .pointer (some ⟨b1, 0, none⟩), .pointer (some ⟨b2, 0, none⟩)] w fun e w' => e = .returned (.int .i64 (min (max h f) l)) ∧ Ext w w' := by
  refine enterQ (c := cx w 12) Tryz.func123 rfl rfl rfl rfl ?_
  ((all_goals refine goG0 ?_); (all_goals constructor); (any_goals exact trivial); all_goals intros)
  all_goals rfl
theorem clamp1 {w0 : World} {M : Ms} {H H1 H2 : Hp} {w1 : World} {b1 b2 : Nat} {f f1 f2 l l1 l2 h : Int} {tg tg' : Tg} (hw : Has w0 M H w1) (p1 : Pick H b1 [.int .i64 f, .int .i64 f1, .int .i64 f2] tg H1) (p2 : Pick H b2 [.int .i64 l, .int .i64 l1, .int .i64 l2] tg' H2) :
    Calls Tryz.prog 123 #[.int .i64 h, .pointer (some ⟨b1, 0, none⟩), .pointer (some ⟨b2, 0, none⟩)] w1 fun e w' => e = .returned (.int .i64 (min (max h f) l)) ∧ Ext w1 w' :=
  clamp0_calls b1 b2 f l h w1 (hw.cellAt p1 rfl) (hw.cellAt p2 rfl)
def GFr (a b : Nat) : Nat × Option (Nat × Nat) → Fr
  | (k, none) => [(a, .slice none 0 0), (b, .int .i64 (k : Int))]
  | (k, some (g, cap)) => [(a, .slice (some ⟨g, 0, none⟩) k cap), (b, .int .i64 (k : Int))]
def GHp (e : Bool) (l : List Gl) : Nat × Option (Nat × Nat) → Hp
  | (_, none) => []
  | (k, some (g, cap)) => [(g, ((tabG e (l.take k)).map knCells).flatten, some (212, 3, cap))]
def GPi (n : Nat) : Nat × Option (Nat × Nat) → Prop
  | (k, none) => k = 0
  | (k, some _) => 0 < k ∧ k ≤ n
theorem layers_calls (f : Nat) (e : Bool) (A : Option Addr) (n c : Nat) (l : List Gl) (p q : Int) (w : World) (hr : RdS w 6 A n (l.map glCells)) (hW : Wnd l) (hpq : p ≤ q) (hc : ∀ (a : Array Value) (w : World), (callFunc f a).run Tryz.prog w = .ok (.enter f a) w)
    (hf : ∀ (x : Gl) w1, Calls Tryz.prog f #[.agg #[.int .i64 x.xlo, .int .i64 x.xhi, .int .i64 x.ylo, .int .i64 x.yhi]] w1 fun u w' => u = .returned (.agg #[.int .i64 (partG e x).1, .int .i64 (partG e x).2]) ∧ Ext w1 w') :
    Calls Tryz.prog 94 #[.slice A n c, .agg #[.int .i64 p, .int .i64 q], .func (.func f) #[] #[]] w fun u w' => u = .returned (.agg #[.int .i64 (steadyV e l p q).1, .int .i64 (steadyV e l p q).2]) ∧ Ext w w' := by
  have hl := hr.len
  simp only [List.length_map] at hl
  have hn0 : 0 < n := by have := hW.n1; omega
  have hn16 : n ≤ 16 := by have := hW.n16; omega
  have hfx0 := hf
  refine enterQ (c := cx w 62) Tryz.func94 rfl rfl rfl rfl ?_
  ((all_goals refine goG0 ?_); (all_goals constructor); (any_goals exact trivial); all_goals intros)
  apply t_loopK (ι := (Nat × Option (Nat × Nat))) [2, 4, 6, 10, 11, 12, 13, 15, 16, 32, 33, 34, 35, 36, 37, 38, 39, 40, 41, 42, 43, 44, 45, 46, 47, 48, 49, 50, 51, 52, 53, 54, 55, 56, 57, 58, 59, 60, 61] (GFr 7 17) (GHp e l) (GPi n) (fun i => n - i.1) ((0, none))
  (repeat (first | exact KeepF.nil | (apply KeepF.cons; exact rfl) | apply KeepF.skip))
  (repeat (first | exact FrSub.nil | (apply FrSub.cons; exact rfl)))
  (repeat (first | exact HpSub.refl _ | (apply HpSub.consE; (repeat (first | exact P0 | apply P1)); exact rfl) | exact HpSub.nil))
  · exact rfl
  rintro ⟨k, i⟩ hi
  dsimp only
  rcases i with _ | ⟨g, cap⟩
  · obtain rfl : k = 0 := hi
    simp only [GFr, GHp, List.cons_append, List.nil_append]
    obtain ⟨b, o, x, rfl, _, hx, c0, c1, c2, c3, c4, c5⟩ := gl_read hr hn0
    ((all_goals refine goG0 ?_); (all_goals constructor); (any_goals exact trivial); all_goals intros)
    rename_i bs bg cg
    refine ⟨(1, some (bg, cg)), ⟨by omega, by omega⟩, by simp only; omega, ?_, ?_⟩
    · simp only [GFr, List.cons_append, List.nil_append]
      (repeat (first | exact FrSub.nil | (apply FrSub.cons; exact rfl)))
    · simp only [GHp, List.cons_append, List.nil_append]
      (repeat (first | exact HpSub.refl _ | (apply HpSub.consE; (repeat (first | exact P0 | apply P1)); first | exact rfl | ((rw [tabG_snoc hx]; rfl))) | exact HpSub.nil))
  · obtain ⟨h0, hk⟩ : 0 < k ∧ k ≤ n := hi
    simp only [GFr, GHp, List.cons_append, List.nil_append]
    by_cases hlt : k < n
    · obtain ⟨b, o, x, rfl, _, hx, c0, c1, c2, c3, c4, c5⟩ := gl_read hr hlt
      have hC := tabG_len (e := e) hl (Nat.le_of_lt hlt)
      ((all_goals refine goG0 ?_); (all_goals constructor); (any_goals exact trivial); all_goals intros)
      rename_i bs bg cg
      refine ⟨(k + 1, some (bg, cg)), ⟨by omega, by omega⟩, by simp only; omega, ?_, ?_⟩
      · simp only [GFr, List.cons_append, List.nil_append]
        (repeat (first | exact FrSub.nil | (apply FrSub.cons; exact rfl)))
      · simp only [GHp, List.cons_append, List.nil_append]
        (repeat (first | exact HpSub.refl _ | (apply HpSub.consE; (repeat (first | exact P0 | apply P1)); first | exact rfl | ((rw [tabG_snoc hx]))) | exact HpSub.nil))
    · obtain rfl : k = n := by omega
      have ht : l.take k = l := List.take_of_length_le (by omega)
      rw [ht]
      have hx : l[0]? = some l[0] := List.getElem?_eq_getElem (by omega)
      have hy : l[k - 1]? = some l[k - 1] := List.getElem?_eq_getElem (by omega)
      generalize l[0] = x at hx
      generalize l[k - 1] = y at hy
      have hxy := hW.mono hx hy (by omega)
      obtain ⟨t0, t1, t2⟩ := tabG_cell (e := e) hx
      obtain ⟨u0, u1, u2⟩ := tabG_cell (e := e) hy
      have ef : hAt l 0 = x.h := by unfold hAt; rw [hx]
      have el : hAt l (l.length - 1) = y.h := by unfold hAt; rw [hl, hy]
      have r85 := tabG_len (e := e) hl (Nat.le_refl k)
      rw [ht] at r85
      by_cases h1 : k = 1
      · subst h1
        obtain rfl : x = y := by rw [hx] at hy; exact Option.some.inj hy
        have hv : steadyV e l p q = partG e x := by unfold steadyV; rw [if_pos hl, hx]
        rw [hv]
        ((all_goals refine goG0 ?_); (all_goals constructor); (any_goals exact trivial); all_goals intros)
        all_goals first | rfl | simp_all
      · have hv : steadyV e l p q = valV (tabG e l) (min (max p x.h) y.h) (min (max q x.h) y.h) := by unfold steadyV clampG; rw [if_neg (by omega), ef, el]
        have hlt2 := hxy.2 (by omega)
        rw [hv]
        ((all_goals refine goG0 ?_); (all_goals constructor); (any_goals exact trivial); all_goals intros)
        all_goals first | rfl | simp_all
end Go.Proofs.YtcjkndjjbjoehaaGreat

