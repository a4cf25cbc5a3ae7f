/- A part of the proof: rules for walks, and contracts of functions (9). -/
import Derived.Test.YtmlmgipngbndgaaX16H
import Derived.Test.YtmlmgipngbndgaaX16B
import Derived.Laws.IdiomCopy
import Derived.ProofKit
import Derived.Lib.SmallJoins
import Derived.Test.YtmlmgipngbndgaaX16D
import Derived.Test.YtmlmgipngbndgaaX16C
import Derived.Test.YtmlmgipngbndgaaX16F
import Derived.Test.YtmlmgipngbndgaaX16E
set_option linter.unusedVariables false
set_option linter.unusedSimpArgs false
set_option maxRecDepth 100000
set_option maxHeartbeats 2000000
namespace Go.Proofs.Ytmlmgipngbndgaa
def shR (x : Tr) (r : List Int) : List Sh := r.map fun p => ⟨p, x.fr, x.to⟩
def addF : List Tr → List (List Int) → List Sh
  | x :: ts, r :: rs => shR x r ++ addF ts rs
  | _, _ => []
/-- A row of people that may be. -/
def rwOk (mem : Nat) (r : List Int) : Prop := r.Pairwise (· < ·) ∧ ∀ p ∈ r, 0 ≤ p ∧ p < mem
/-- Trips that are manned. -/
def Mand (d : Du) (mem : Nat) : List Tr → List Int → List Sh → List (List Int) → Prop
  | [], _, l, [] => okB d l = true
  | x :: ts, cur, l, r :: rs => ∃ e, r = cur ++ e ∧ (r.length : Int) = x.crew ∧ rwOk mem r ∧ Mand d mem ts [] (l ++ shR x e) rs
  | _, _, _, _ => False
theorem tryF_mand {d : Du} {mem : Nat} : ∀ {f : Nat} {ts : List Tr} {cur : List Int} {who : Nat} {l : List Sh} {R : List (List Int)}, tryF d mem f ts cur who l = some R → rwOk mem cur → (∀ p ∈ cur, p < who) → Mand d mem ts cur l R
  | 0, ts, cur, who, l, R, h, _, _ => by unfold tryF at h; cases h
  | f + 1, ts, cur, who, l, R, h, hc, hw => by
    cases ho : okB d l with
    | false => rw [tryF_bad ho] at h; cases h
    | true =>
      cases ts with
      | nil => rw [tryF_end ho] at h; cases h; exact ho
      | cons x ts =>
        by_cases hx : (cur.length : Int) = x.crew
        · rw [tryF_full ho hx] at h
          obtain ⟨R', h1, rfl⟩ := Option.map_eq_some_iff.1 h
          have := tryF_mand h1 ⟨List.Pairwise.nil, fun p hp => by cases hp⟩ (fun p hp => by cases hp)
          exact ⟨[], by simp, hx, hc, by simpa [shR] using this⟩
        · rw [tryF_loop ho hx] at h
          obtain ⟨k, hk, h1⟩ := List.exists_of_findSome?_eq_some h
          have hk' := List.mem_range'_1.1 hk
          have := tryF_mand h1 ⟨List.pairwise_append.2 ⟨hc.1, List.pairwise_singleton .., fun a ha b hb => by
              have := hw a ha
              simp only [List.mem_singleton] at hb
              omega⟩, fun p hp => by
            rcases List.mem_append.1 hp with hp | hp
            · exact hc.2 p hp
            · simp only [List.mem_singleton] at hp; omega⟩ (fun p hp => by
            rcases List.mem_append.1 hp with hp | hp
            · have := hw p hp; omega
            · simp only [List.mem_singleton] at hp; omega)
          cases R with
          | nil => exact this.elim
          | cons r R =>
            obtain ⟨e, he, h2, h3, h4⟩ := this
            refine ⟨(k : Int) :: e, by rw [he]; simp, h2, h3, ?_⟩
            have hs : l ++ shR x ((k : Int) :: e) = l ++ [⟨(k : Int), x.fr, x.to⟩] ++ shR x e := by simp [shR]
            rw [hs]; exact h4
theorem Mand.at {d : Du} {mem : Nat} : ∀ {ts : List Tr} {l : List Sh} {R : List (List Int)}, Mand d mem ts [] l R → R.length = ts.length ∧ (∀ (i : Nat) x r, ts[i]? = some x → R[i]? = some r → (r.length : Int) = x.crew ∧ rwOk mem r) ∧ okB d (l ++ addF ts R) = true
  | [], l, [], h => ⟨rfl, fun i x r hx => by simp at hx, by have h' : okB d l = true := h; simpa [addF] using h'⟩
  | x :: ts, l, r :: R, ⟨e, he, h1, h2, h3⟩ => by
    obtain ⟨k1, k2, k3⟩ := h3.at
    simp only [List.nil_append] at he
    subst he
    refine ⟨by simp [k1], fun i y q hy hq => ?_, by simpa [addF] using k3⟩
    cases i with
    | zero => simp only [List.getElem?_cons_zero, Option.some.injEq] at hy hq; subst hy; subst hq; exact ⟨h1, h2⟩
    | succ i => simp only [List.getElem?_cons_succ] at hy hq; exact k2 i y q hy hq
  | [], l, r :: R, h => h.elim
  | x :: ts, l, [], h => h.elim
def ltL (m r : List Int) : Prop := ∃ k a b, m.take k = r.take k ∧ m[k]? = some a ∧ r[k]? = some b ∧ a < b
/-- One answer is no later than another. -/
def lexR : List (List Int) → List (List Int) → Prop
  | [], [] => True
  | m :: M, r :: R => m.length = r.length ∧ (ltL m r ∨ (m = r ∧ lexR M R))
  | _, _ => False
theorem some_first {β : Type} {F : Nat → Option β} : ∀ {n who k : Nat} {r : β}, who ≤ k → k < who + n → F k = some r → ∃ k' r', who ≤ k' ∧ k' ≤ k ∧ F k' = some r' ∧ (List.range' who n).findSome? F = some r'
  | 0, who, k, r, h1, h2, _ => by omega
  | n + 1, who, k, r, h1, h2, h3 => by
    rw [List.range'_succ, List.findSome?_cons]
    cases hF : F who with
    | some q => exact ⟨who, q, Nat.le_refl _, h1, hF, rfl⟩
    | none =>
      have : who ≠ k := fun h => by subst h; rw [h3] at hF; cases hF
      obtain ⟨k', r', a1, a2, a3, a4⟩ := some_first (n := n) (who := who + 1) (by omega) (by omega) h3
      exact ⟨k', r', by omega, a2, a3, a4⟩
theorem tryF_pre {d : Du} {mem : Nat} : ∀ {f : Nat} {x : Tr} {ts : List Tr} {cur : List Int} {who : Nat} {l : List Sh} {R : List (List Int)}, tryF d mem f (x :: ts) cur who l = some R → ∃ e R', R = (cur ++ e) :: R' ∧ ((cur ++ e).length : Int) = x.crew
  | 0, x, ts, cur, who, l, R, h => by unfold tryF at h; cases h
  | f + 1, x, ts, cur, who, l, R, h => by
    cases ho : okB d l with
    | false => rw [tryF_bad ho] at h; cases h
    | true =>
      by_cases hx : (cur.length : Int) = x.crew
      · rw [tryF_full ho hx] at h
        obtain ⟨R', h1, rfl⟩ := Option.map_eq_some_iff.1 h
        exact ⟨[], R', by simp, by simpa using hx⟩
      · rw [tryF_loop ho hx] at h
        obtain ⟨k, hk, h1⟩ := List.exists_of_findSome?_eq_some h
        obtain ⟨e, R', rfl, h2⟩ := tryF_pre h1
        exact ⟨(k : Int) :: e, R', by simp, by simpa using h2⟩
theorem tryF_more {d : Du} {mem : Nat} : ∀ {f : Nat} {ts : List Tr} {cur : List Int} {who : Nat} {l : List Sh} {R : List (List Int)}, tryF d mem f ts cur who l = some R → ∃ M, tryF d (mem + 1) f ts cur who l = some M ∧ lexR M R
  | 0, ts, cur, who, l, R, h => by unfold tryF at h; cases h
  | f + 1, ts, cur, who, l, R, h => by
    cases ho : okB d l with
    | false => rw [tryF_bad ho] at h; cases h
    | true =>
      cases ts with
      | nil => rw [tryF_end ho] at h; cases h; exact ⟨[], tryF_end ho, trivial⟩
      | cons x ts =>
        by_cases hx : (cur.length : Int) = x.crew
        · rw [tryF_full ho hx] at h
          obtain ⟨R', h1, rfl⟩ := Option.map_eq_some_iff.1 h
          obtain ⟨M, h2, h3⟩ := tryF_more h1
          exact ⟨cur :: M, by rw [tryF_full ho hx, h2]; rfl, rfl, .inr ⟨rfl, h3⟩⟩
        · rw [tryF_loop ho hx] at h
          obtain ⟨k, hk, h1⟩ := List.exists_of_findSome?_eq_some h
          have hk' := List.mem_range'_1.1 hk
          obtain ⟨M, h2, h3⟩ := tryF_more h1
          obtain ⟨k', M', a1, a2, a3, a4⟩ := some_first (F := fun k : Nat => tryF d (mem + 1) f (x :: ts) (cur ++ [(k : Int)]) (k + 1) (l ++ [⟨(k : Int), x.fr, x.to⟩])) (n := mem + 1 - who) (who := who) hk'.1 (by omega) h2
          refine ⟨M', by rw [tryF_loop ho hx]; exact a4, ?_⟩
          by_cases hkk : k' = k
          · subst hkk
            have : M' = M := (Option.some.inj (h2.symm.trans a3)).symm
            rw [this]; exact h3
          · obtain ⟨e1, R1, rfl, l1⟩ := tryF_pre h1
            obtain ⟨e2, R2, rfl, l2⟩ := tryF_pre a3
            refine ⟨by omega, .inl ⟨cur.length, (k' : Int), (k : Int), by simp [List.append_assoc], by simp [List.append_assoc], by simp [List.append_assoc], by omega⟩⟩
/-- Where they first differ. -/
theorem lexR.at : ∀ {M R : List (List Int)}, lexR M R → ∀ {i j : Nat} {m r : List Int} {b : Int}, M.take i = R.take i → M[i]? = some m → R[i]? = some r → m.take j = r.take j → r[j]? = some b → ∃ a, m[j]? = some a ∧ a ≤ b
  | [], [], _, i, j, m, r, b, _, hm, _, _, _ => by simp at hm
  | m0 :: M, r0 :: R, ⟨h1, h2⟩, 0, j, m, r, b, _, hm, hr, ht, hb => by
    simp only [List.getElem?_cons_zero, Option.some.injEq] at hm hr
    subst hm; subst hr
    rcases h2 with ⟨k, a, c, k1, k2, k3, k4⟩ | ⟨rfl, _⟩
    · have hj := (List.getElem?_eq_some_iff.1 hb).1
      have hjm : j < m0.length := by omega
      refine ⟨m0[j], List.getElem?_eq_getElem hjm, ?_⟩
      by_cases hjk : j < k
      · have e1 : (m0.take k)[j]? = (r0.take k)[j]? := by rw [k1]
        rw [List.getElem?_take_of_lt hjk, List.getElem?_take_of_lt hjk, hb, List.getElem?_eq_getElem hjm] at e1
        have := Option.some.inj e1; omega
      · by_cases hjk2 : j = k
        · subst hjk2
          rw [k3] at hb; rw [List.getElem?_eq_getElem hjm] at k2
          have := Option.some.inj k2; have := Option.some.inj hb; omega
        · have e1 : (m0.take j)[k]? = (r0.take j)[k]? := by rw [ht]
          rw [List.getElem?_take_of_lt (by omega), List.getElem?_take_of_lt (by omega), k2, k3] at e1
          have := Option.some.inj e1; omega
    · exact ⟨b, hb, Int.le_refl _⟩
  | m0 :: M, r0 :: R, ⟨h1, h2⟩, i + 1, j, m, r, b, hM, hm, hr, ht, hb => by
    simp only [List.take_succ_cons, List.cons.injEq] at hM
    simp only [List.getElem?_cons_succ] at hm hr
    rcases h2 with ⟨k, a, c, k1, k2, k3, k4⟩ | ⟨_, h3⟩
    · rw [hM.1] at k2
      rw [k2] at k3; have := Option.some.inj k3; omega
    · exact lexR.at h3 hM.2 hm hr ht hb
  | [], r0 :: R, h, _, _, _, _, _, _, _, _, _, _ => h.elim
  | m0 :: M, [], h, _, _, _, _, _, _, _, _, _, _ => h.elim
theorem asgE_ok {d : Du} {l : List Sh} {mem : Int} {ts : List Tr} (h : asgE d l mem ts = 0) : tiE d l = 0 ∧ (0 ≤ mem ∧ mem ≤ 6) ∧ ts.length ≤ 4 ∧ (∀ x ∈ ts, trOk x) ∧ asgN d l mem ts = some (asgL d l mem ts) := by
  have h' := h
  unfold asgE at h
  by_cases h0 : tiE d l = 0
  · rw [if_pos h0] at h
    by_cases h1 : 0 ≤ mem ∧ mem ≤ 6
    · rw [if_pos h1] at h
      by_cases h2 : 4 < ts.length
      · rw [if_pos h2] at h; omega
      · rw [if_neg h2] at h
        by_cases h3 : 0 ≤ oddI ts
        · rw [if_pos h3] at h; omega
        · rw [if_neg h3] at h
          cases hN : asgN d l mem ts with
          | none => rw [hN] at h; simp at h
          | some N => exact ⟨h0, h1, by omega, oddI_neg.1 (by omega), by unfold asgL; rw [if_pos h', hN]; rfl⟩
    · rw [if_neg h1] at h; omega
  · rw [if_neg h0] at h; exact absurd h h0
theorem rst_err {d : Du} {l : List Sh} {mem : Int} {ts : List Tr} (h : asgE d l mem ts ≠ 0) : asgE d l mem ts = 6 ∨ tiE d l = asgE d l mem ts ∨ tiE d l = 0 := by
  unfold asgE
  by_cases h0 : tiE d l = 0
  · exact .inr (.inr h0)
  · rw [if_neg h0]; exact .inr (.inl rfl)
theorem shR_len (x : Tr) (r : List Int) : (shR x r).length = r.length := by unfold shR; simp
theorem addF_len {k : Nat} : ∀ {ts : List Tr} {R : List (List Int)}, (∀ (i : Nat) x r, ts[i]? = some x → R[i]? = some r → r.length ≤ k) → (addF ts R).length ≤ k * ts.length
  | [], _, _ => by simp [addF]
  | x :: ts, [], _ => by simp [addF]
  | x :: ts, r :: R, h => by
    have h1 := h 0 x r rfl rfl
    have h2 := addF_len (ts := ts) (R := R) fun i y q hy hq => h (i + 1) y q (by simpa using hy) (by simpa using hq)
    simp only [addF, List.length_append, shR_len, List.length_cons]
    rw [Nat.mul_succ]; omega
theorem addF_snoc : ∀ {ts : List Tr} {R : List (List Int)} {i : Nat} {x : Tr} {r : List Int}, ts[i]? = some x → R[i]? = some r → addF (ts.take (i + 1)) (R.take (i + 1)) = addF (ts.take i) (R.take i) ++ shR x r
  | y :: ts, q :: R, 0, x, r, h1, h2 => by
    simp only [List.getElem?_cons_zero, Option.some.injEq] at h1 h2
    subst h1; subst h2
    simp [addF]
  | y :: ts, q :: R, i + 1, x, r, h1, h2 => by
    simp only [List.getElem?_cons_succ] at h1 h2
    have := addF_snoc h1 h2
    rw [List.take_succ_cons, List.take_succ_cons, List.take_succ_cons, List.take_succ_cons, addF, addF, this, List.append_assoc]
  | [], _, i, x, r, h1, h2 => by simp at h1
  | _ :: _, [], i, x, r, h1, h2 => by simp at h2
theorem rst_law {d : Du} {l : List Sh} {mem : Int} {ts : List Tr} (hl : l.length ≤ 30) (h : asgE d l mem ts = 0) : tiL d l = [] ∧ (asgL d l mem ts).length = ts.length ∧ (∀ (i : Nat) x r, ts[i]? = some x → (asgL d l mem ts)[i]? = some r → (r.length : Int) = x.crew ∧ rwOk mem.toNat r) ∧ tiE d (l ++ addF ts (asgL d l mem ts)) = 0 ∧ tiL d (l ++ addF ts (asgL d l mem ts)) = [] ∧ (addF ts (asgL d l mem ts)).length ≤ 8 := by
  obtain ⟨h0, h1, h2, h3, h4⟩ := asgE_ok h
  unfold asgN at h4
  obtain ⟨a1, a2, a3⟩ := (tryF_mand h4 ⟨List.Pairwise.nil, fun p hp => by cases hp⟩ (fun p hp => by cases hp)).at
  have b1 : okB d l = true := by
    cases hb : okB d l with
    | true => rfl
    | false => rw [tryF_bad hb] at h4; cases h4
  have c1 : (addF ts (asgL d l mem ts)).length ≤ 8 := by
    have := addF_len (k := 2) (ts := ts) (R := asgL d l mem ts) fun i x r hx hr => by
      have e1 := (a2 i x r hx hr).1
      have e2 := h3 x (List.mem_of_getElem? hx)
      unfold trOk at e2; omega
    omega
  have c2 : tiE d (l ++ addF ts (asgL d l mem ts)) = 0 := by
    have hd := tiE_ok h0
    unfold okB at a3
    simp only [Bool.and_eq_true, decide_eq_true_eq] at a3
    unfold tiE at h0 ⊢
    by_cases hz : duE d = 0
    · rw [if_pos hz]
      unfold rosE
      rw [if_neg (by simp only [List.length_append]; omega), if_pos a3.1]
    · rw [if_neg hz] at h0; exact absurd h0 hz
  refine ⟨?_, a1, a2, c2, ?_, c1⟩
  · unfold tiL
    rw [if_pos h0]
    unfold okB at b1
    simpa using (Bool.and_eq_true_iff.1 b1).2
  · unfold tiL
    rw [if_pos c2]
    unfold okB at a3
    simpa using (Bool.and_eq_true_iff.1 a3).2
theorem rst_six {d : Du} {l : List Sh} {mem : Int} {ts : List Tr} (h : asgE d l mem ts = 0) (h6 : mem = 6) : asgE d l (mem + 1) ts = 2 := by
  obtain ⟨h0, h1, _⟩ := asgE_ok h
  unfold asgE
  rw [if_pos h0, if_neg (by omega)]
theorem rst_more {d : Du} {l : List Sh} {mem : Int} {ts : List Tr} (h : asgE d l mem ts = 0) (h6 : mem ≠ 6) : asgE d l (mem + 1) ts = 0 ∧ lexR (asgL d l (mem + 1) ts) (asgL d l mem ts) := by
  obtain ⟨h0, h1, h2, h3, h4⟩ := asgE_ok h
  have h5 := h4
  unfold asgN at h5
  obtain ⟨M, k1, k2⟩ := tryF_more h5
  have hN : asgN d l (mem + 1) ts = some M := by unfold asgN; rw [show (mem + 1).toNat = mem.toNat + 1 by omega]; exact k1
  have hE : asgE d l (mem + 1) ts = 0 := by
    unfold asgE
    rw [if_pos h0, if_pos (by omega), if_neg (by omega), if_neg (by have := oddI_neg.2 h3; omega), hN]
    rfl
  refine ⟨hE, ?_⟩
  have : asgL d l (mem + 1) ts = M := by unfold asgL; rw [if_pos hE, hN]; rfl
  rw [this]; exact k2
open Go.RowKit
theorem mem_rows : ∀ {R : List Row} {i : Nat} {r : Row} {x : Nat × List Value × Tg}, R[i]? = some r → x ∈ rowH r → x ∈ rwsH R
  | q :: R, 0, r, x, h, hx => by
    simp only [List.getElem?_cons_zero, Option.some.injEq] at h
    subst h
    exact List.mem_append_left _ hx
  | q :: R, i + 1, r, x, h, hx => by
    simp only [List.getElem?_cons_succ] at h
    exact List.mem_append_right _ (mem_rows h hx)
  | [], i, r, x, h, _ => by simp at h
theorem rd_out {c : Cx} {H : Hp} {g m i : Nat} {R : List Row} {xs : List Int} {o : Option (Nat × Nat)} (h : R[i]? = some (xs, o)) (hs : HpSub H (outH g m R)) : Rd c H ⟨g, 0 + i * 1, none⟩ (.slice (clA o) xs.length (clC o)) := fun D w hw =>
  ((hw.sub hs).blk _ (List.mem_cons_self ..)).2.cell (by rw [Nat.zero_add, Nat.mul_one, List.getElem?_map, h]; rfl)
theorem rd_row {c : Cx} {H : Hp} {g m i j g' c' : Nat} {R : List Row} {xs : List Int} {z : Int} (h : R[i]? = some (xs, some (g', c'))) (hx : xs[j]? = some z) (hs : HpSub H (outH g m R)) : Rd c H ⟨g', 0 + j * 1, none⟩ (.int .i64 z) := fun D w hw =>
  ((hw.sub hs).blk (g', xs.map iv, some (3, 1, c')) (List.mem_cons_of_mem _ (mem_rows h (List.mem_singleton.2 rfl)))).2.cell (by rw [Nat.zero_add, Nat.mul_one, List.getElem?_map, hx]; rfl)
theorem row_of {R : List Row} {L : List (List Int)} (h : R.map Prod.fst = L) {i : Nat} {xs : List Int} (hx : L[i]? = some xs) : ∃ o, R[i]? = some (xs, o) := by
  rw [← h, List.getElem?_map, Option.map_eq_some_iff] at hx
  obtain ⟨r, h1, rfl⟩ := hx
  exact ⟨r.2, h1⟩
theorem row_nn {R : List Row} (h : ∀ r ∈ R, LrOk r) {i : Nat} {xs : List Int} {o : Option (Nat × Nat)} (hx : R[i]? = some (xs, o)) (hn : 0 < xs.length) : ∃ g c, o = some (g, c) := by
  cases o with
  | some p => exact ⟨p.1, p.2, rfl⟩
  | none =>
    have := (h _ (List.mem_of_getElem? hx)).1 rfl
    simp only at this
    omega
theorem hp_leftX : ∀ (G R : Hp), HpSub (G ++ R) G
  | [], R => HpSub.nil
  | x :: G, R => HpSub.front (hp_leftX G R)
end Go.Proofs.Ytmlmgipngbndgaa
namespace Go.Proofs.Ytmlmgipngbndgaa
open Go.RowKit
section
variable {c : Cx} {F : Fr} {H H' : Hp} {K : Value → Hp → Prop} {d : Option Tmp} {ty : TypeId} {pos : String} {af : Array Edge} {gd : Option (Nat × Bool)} {t t' : TypeId} {x y : Operand} {a0 a1 : Bool} {s0 s1 : Nat} {z0 z1 : List Value} {k1 : TyK} {g : Nat} {tg : Tg} {C : List Value}
theorem os_copy {e od dLen dCap b2 o2 sLen sCap : Nat} {vs : List Value} (ht : tyAt c.tys t = some ⟨a0, s0, z0, .slice e⟩) (he : tyAt c.tys e = some ⟨a1, 1, z1, k1⟩) (hx : ev F x = some (.slice (some ⟨g, od, none⟩) dLen dCap)) (hy : ev F y = some (.slice (some ⟨b2, o2, none⟩) sLen sCap))
    (hp : Pick H g C tg H') (hr : Rds c H b2 o2 vs) (hn : vs.length = Nat.min sLen dLen) (ho : od + vs.length ≤ C.length) (h1 : ∀ v ∈ vs, v.oneCell' = true) (kk : K (.int .i64 (vs.length : Nat)) ((g, setL C od vs, tg) :: H')) : OS c ⟨d, .call ⟨.builtin .copy, #[x, y], #[t, t']⟩, ty, pos, af, gd⟩ F H K := by
  intro D a w ha hw
  have hw' := hw.perm hp.perm
  have hb := (hw'.blk _ (List.mem_cons_self ..)).2
  obtain ⟨w', h2, h3, h4⟩ := run_storeCells c.P g od vs 0 w C tg hb (by omega) h1
  have hk := (c.ty ht).kind w
  have hs := (c.ty he).size w
  have hl := run_loadCells_eq c.P w b2 o2 vs (fun j v hj => Rds.at_ hw vs o2 hr j v hj)
  have hl2 : (loadCells ⟨b2, o2, none⟩ (Nat.min sLen dLen)).run c.P w = .ok vs.toArray w := by rw [← hn]; exact hl
  have : (execOp a.eval ⟨d, .call ⟨.builtin .copy, #[x, y], #[t, t']⟩, ty, pos, af, gd⟩).run c.P w = .ok (.value (.int .i64 (vs.length : Nat))) w' := by
    simp [execOp, resolve, invoke, builtin, ha.ev hx, ha.ev hy, Builtin.copy_, Builtin.lenOf, Builtin.firstCells, Sem.run_bind, Sem.run_pure, Result.andThen, hk, hs, hl2, h2, goInt, hn]
  rw [this]
  exact ⟨_, by simpa using kk, hw'.wrote h4 h3⟩
theorem oq_sliceH {e b o len cap h : Nat} {k : IntKind} {hi : Int} (ht : tyAt c.tys t = some ⟨a0, s0, z0, .slice e⟩) (he : tyAt c.tys e = some ⟨a1, s1, z1, k1⟩)
    (hx : ev F x = some (.slice (some ⟨b, o, none⟩) len cap)) (hy : ev F y = some (.int k hi)) (hl : hi = h) (h1 : h ≤ cap) :
    OQ c ⟨d, .slice t x none (some y) none, ty, pos, af, gd⟩ F H (.slice (some ⟨b, o, none⟩) h cap) := .of fun D a w ha _ => by
  subst hl
  have hk := (c.ty ht).kind w
  have hs := (c.ty he).size w
  simp only [execOp, Option.map, ha.ev hx, ha.ev hy]
  by_cases h2 : cap = 0
  · subst h2
    simp [Instr.sliceAt, Instr.slice, Instr.sliceBounds, Instr.sliceBound, asIntOf, Sem.run_bind, hk, hs, h1, Result.andThen, go_sem, add_eq]
  · simp [Instr.sliceAt, Instr.slice, Instr.sliceBounds, Instr.sliceBound, asIntOf, Sem.run_bind, hk, hs, h1, h2, Result.andThen, go_sem, add_eq]
/-- k times x, then zeros. -/
def fillX (x : Int) (n k : Nat) : List Value := List.replicate k (Value.int .i64 x) ++ List.replicate (n - k) (Value.int .i64 0)
theorem fillX_len {x : Int} {n k : Nat} (h : k ≤ n) : (fillX x n k).length = n := by unfold fillX; simp; omega
theorem fillX_zero {x : Int} {n : Nat} : List.replicate n (Value.int .i64 0) = fillX x n 0 := by unfold fillX; simp
theorem fillX_done {x : Int} {n : Nat} : fillX x n n = (List.replicate n x).map iv := by unfold fillX; simp [iv]
theorem fillX_set {x : Int} {n : Nat} : ∀ (m k : Nat), k + m ≤ n → setL (fillX x n k) k (List.replicate m (Value.int .i64 x)) = fillX x n (k + m)
  | 0, k, _ => rfl
  | m + 1, k, h => by
    rw [List.replicate_succ]
    simp only [setL]
    have e : (fillX x n k).set k (Value.int .i64 x) = fillX x n (k + 1) := by
      unfold fillX
      rw [List.set_append_right _ _ (by simp), show n - k = (n - (k + 1)) + 1 by omega, List.replicate_succ]
      simp [List.replicate_succ']
    rw [e, fillX_set m (k + 1) (by omega), show k + 1 + m = k + (m + 1) by omega]
theorem Rds.own {b : Nat} (hp : Pick H b C tg H') : ∀ (vs : List Value) (o : Nat), (∀ j v, vs[j]? = some v → C[o + j]? = some v) → Rds c H b o vs
  | [], _, _ => trivial
  | v :: vs, o, h => ⟨Rd.own hp (h 0 v rfl), Rds.own hp vs (o + 1) fun j u hj => by have := h (j + 1) u (by simpa using hj); rw [← this]; congr 1; omega⟩
theorem fillX_at {x : Int} {n k m : Nat} (hm : m ≤ k) (j : Nat) (v : Value) (h : (List.replicate m (Value.int .i64 x))[j]? = some v) : (fillX x n k)[0 + j]? = some v := by
  have hj := (List.getElem?_eq_some_iff.1 h).1
  simp only [List.length_replicate] at hj
  unfold fillX
  rw [Nat.zero_add, List.getElem?_append_left (by simp; omega)]
  rw [List.getElem?_replicate] at h ⊢
  rw [if_pos hj] at h
  rw [if_pos (by omega)]
  exact h
/-- A list's front is copied onto what is behind it. -/
theorem os_copyX {e n k cap cap2 : Nat} {z : Int} (h1 : k ≤ n) (ht : tyAt c.tys t = some ⟨a0, s0, z0, .slice e⟩) (he : tyAt c.tys e = some ⟨a1, 1, z1, k1⟩) (hx : ev F x = some (.slice (some ⟨g, 0 + k * 1, none⟩) (n - k) cap)) (hy : ev F y = some (.slice (some ⟨g, 0, none⟩) k cap2))
    (hp : Pick H g (fillX z n k) tg H') (kk : K (.int .i64 (min k (n - k) : Nat)) ((g, fillX z n (k + min k (n - k)), tg) :: H')) : OS c ⟨d, .call ⟨.builtin .copy, #[x, y], #[t, t']⟩, ty, pos, af, gd⟩ F H K := by
  rw [Nat.zero_add, Nat.mul_one] at hx
  refine os_copy (vs := List.replicate (min k (n - k)) (Value.int .i64 z)) ht he hx hy hp (Rds.own hp _ _ fun j v hj => fillX_at (by omega) j v hj) (by simp) (by rw [fillX_len h1]; simp; omega) (by intro v hv; obtain rfl := (List.mem_replicate.1 hv).2; rfl) ?_
  rw [fillX_set _ _ (by omega)]
  simpa using kk
theorem os_copy1 {e n b2 o2 cap cap2 : Nat} {z : Int} (h1 : 1 ≤ n) (ht : tyAt c.tys t = some ⟨a0, s0, z0, .slice e⟩) (he : tyAt c.tys e = some ⟨a1, 1, z1, k1⟩) (hx : ev F x = some (.slice (some ⟨g, 0, none⟩) n cap)) (hy : ev F y = some (.slice (some ⟨b2, o2, none⟩) 1 cap2))
    (hp : Pick H g (List.replicate n (Value.int .i64 0)) tg H') (hr : Rd c H ⟨b2, o2, none⟩ (.int .i64 z)) (kk : K (.int .i64 (1 : Nat)) ((g, fillX z n 1, tg) :: H')) : OS c ⟨d, .call ⟨.builtin .copy, #[x, y], #[t, t']⟩, ty, pos, af, gd⟩ F H K := by
  refine os_copy (vs := [Value.int .i64 z]) ht he hx hy hp ⟨hr, trivial⟩ (by show 1 = min 1 n; omega) (by simp; omega) (by intro v hv; simp only [List.mem_singleton] at hv; rw [hv]; rfl) ?_
  have := fillX_set (x := z) (n := n) 1 0 (by omega)
  rw [fillX_zero (x := z)]
  rw [show ([Value.int .i64 z] : List Value) = List.replicate 1 (Value.int .i64 z) from rfl, this]
  exact kk
end
end Go.Proofs.Ytmlmgipngbndgaa
namespace Go.Proofs.Ytmlmgipngbndgaa
def never : Int := 1099511627776
/-- What has to be left before a flight, after the inspection, if there is one; r: what is needed behind it. -/
def befV (gr f r : Int) : Int := max (f - gr) (r + f)
/-- What has to be left at least, with k inspections from there on. -/
def ndL (ev gr : Int) : List Int → Nat → Int
  | [], k => if k = 0 then -never else never
  | f :: t, 0 => befV gr f (ndL ev gr t 0)
  | f :: t, k + 1 => if befV gr f (ndL ev gr t k) ≤ ev then min (befV gr f (ndL ev gr t (k + 1))) (befV gr f (ndL ev gr t k) - ev) else befV gr f (ndL ev gr t (k + 1))
theorem nd_zero (ev gr f : Int) (t : List Int) : ndL ev gr (f :: t) 0 = befV gr f (ndL ev gr t 0) := rfl
theorem nd_succ (ev gr f : Int) (t : List Int) (k : Nat) : ndL ev gr (f :: t) (k + 1) = if befV gr f (ndL ev gr t k) ≤ ev then min (befV gr f (ndL ev gr t (k + 1))) (befV gr f (ndL ev gr t k) - ev) else befV gr f (ndL ev gr t (k + 1)) := rfl
theorem nd_nil (ev gr : Int) (k : Nat) : ndL ev gr [] k = if k = 0 then -never else never := rfl
def FsOk (fs : List Int) : Prop := ∀ f ∈ fs, 1 ≤ f ∧ f ≤ 10000
theorem nd_in {ev gr : Int} (he : 1 ≤ ev ∧ ev ≤ 100000) (hg : 0 ≤ gr ∧ gr ≤ 100000) : ∀ {fs : List Int}, FsOk fs → ∀ k, -never ≤ ndL ev gr fs k ∧ ndL ev gr fs k ≤ never + 10000 * (fs.length : Int)
  | [], _, k => by rw [nd_nil]; unfold never; split <;> simp
  | f :: t, h, k => by
    have hf := h f (List.mem_cons_self ..)
    have ih := fun k => nd_in he hg (fs := t) (fun x hx => h x (List.mem_cons_of_mem _ hx)) k
    have hn : never = 1099511627776 := rfl
    rw [List.length_cons]
    cases k with
    | zero =>
      have i0 := ih 0
      rw [nd_zero]
      unfold befV
      omega
    | succ k =>
      have i0 := ih k
      have i1 := ih (k + 1)
      rw [nd_succ]
      unfold befV
      split <;> omega
theorem nd_iff {ev gr f L : Int} {t : List Int} {k : Nat} : ndL ev gr (f :: t) k ≤ L ↔ befV gr f (ndL ev gr t k) ≤ L ∨ ∃ j, k = j + 1 ∧ befV gr f (ndL ev gr t j) ≤ min L 0 + ev := by
  cases k with
  | zero =>
    rw [nd_zero]
    refine ⟨.inl, ?_⟩
    rintro (h | ⟨j, h, _⟩)
    · exact h
    · omega
  | succ k =>
    rw [nd_succ]
    obtain ⟨p, hp⟩ : ∃ p, befV gr f (ndL ev gr t k) = p := ⟨_, rfl⟩
    obtain ⟨q, hq⟩ : ∃ q, befV gr f (ndL ev gr t (k + 1)) = q := ⟨_, rfl⟩
    rw [hp, hq]
    constructor
    · intro h
      by_cases h2 : q ≤ L
      · exact .inl h2
      · refine .inr ⟨k, rfl, ?_⟩
        rw [hp]
        split at h <;> omega
    · rintro (h | ⟨j, hj, h⟩)
      · split <;> omega
      · obtain rfl : k = j := by omega
        rw [hp] at h
        rw [if_pos (by omega)]
        omega
/-! From the front -/
/-! The plan -/
/-- The fewest inspections; below zero: there is no plan. -/
def fewV (ev gr du : Int) (fs : List Int) : Int := idxV (fun x => decide (x ≤ du)) ((List.range (fs.length + 1)).map (ndL ev gr fs))
def insG (ev gr : Int) : List Int → Nat → Nat → Int → List Int
  | [], _, _, _ => []
  | f :: t, i, k, L => if befV gr f (ndL ev gr t k) ≤ L then insG ev gr t (i + 1) k (L - f) else (i : Int) :: insG ev gr t (i + 1) (k - 1) (min L 0 + ev - f)
/-- What Inspect returns: the plan, and the error. -/
def insE (ev gr du : Int) (fs : List Int) : Int := if caredE ev gr du fs = 0 then (if fewV ev gr du fs < 0 then 6 else 0) else caredE ev gr du fs
def insV (ev gr du : Int) (fs : List Int) : List Int := insG ev gr fs 0 (fewV ev gr du fs).toNat du
end Go.Proofs.Ytmlmgipngbndgaa
namespace Go.Proofs.Ytmlmgipngbndgaa
open Go.RowKit
attribute [local irreducible] OQ OS OX Rd T TL GX GL AL AI RV wpG SAny Calls
theorem info3 : (Try.prog.info? 3).map (fun i => i.zero) = some (some (.int .i64 0)) := by kernel_rfl
/-- A list that is filled, from the front. -/
def fillV (nx : Nat → Int) (m k : Nat) : List Value := ((List.range k).map nx).map iv ++ List.replicate (m - k) (Value.int .i64 0)
theorem fill_open {nx : Nat → Int} {m k : Nat} (h : k < m) : fillV nx m k = ((List.range k).map nx).map iv ++ Value.int .i64 0 :: List.replicate (m - (k + 1)) (Value.int .i64 0) := by
  unfold fillV
  rw [show m - k = (m - (k + 1)) + 1 by omega, List.replicate_succ]
theorem fill_close {nx : Nat → Int} {m k : Nat} {v : Int} (h : nx k = v) : ((List.range k).map nx).map iv ++ Value.int .i64 v :: List.replicate (m - (k + 1)) (Value.int .i64 0) = fillV nx m (k + 1) := by
  unfold fillV
  rw [List.range_succ]
  simp [h, iv]
theorem fill_done {nx : Nat → Int} {m : Nat} : fillV nx m m = ((List.range m).map nx).map iv := by unfold fillV; simp
theorem mul64_calls (x y : Int) (h0 : 0 ≤ x) (h1 : x < 4294967296) (h2 : 0 ≤ y) (h3 : y < 4294967296) (w : World) : Calls Try.prog 122 #[.int .u64 x, .int .u64 y] w fun e w' => e = .returned (.tuple #[.int .u64 0, .int .u64 (x * y)]) ∧ Ext w w' := by
  have hp : 0 ≤ x * y ∧ x * y ≤ 4294967295 * 4294967295 := ⟨Int.mul_nonneg h0 h2, Int.mul_le_mul (by omega) (by omega) h2 (by omega)⟩
  have hxy : InU (x * y) := ⟨by omega, by omega⟩
  refine enterQ (c := cx w 51) Try.func122 rfl rfl rfl rfl ?_
  repeat' (first | ((with_reducible apply oq_id); first | (apply oq_fn; exact rfl; try first | exact trivial | (and_intros <;> omega)) | (focus ((with_reducible apply oq_shrLow); exact rfl; exact rfl; (refine ⟨?_, ?_⟩ <;> omega))) | (focus ((with_reducible apply oq_andLow); exact rfl; exact rfl; (refine ⟨?_, ?_⟩ <;> omega))) | (focus ((with_reducible apply oq_shr32); exact rfl; exact rfl; omega)) | (focus ((with_reducible apply oq_addU); exact rfl; exact rfl; (first | exact hxy | (refine ⟨?_, ?_⟩ <;> omega)))) | (focus ((with_reducible apply oq_mulU); exact rfl; exact rfl; (first | exact hxy | (refine ⟨?_, ?_⟩ <;> omega))))) | ((with_reducible apply tl_id); first | (with_reducible apply tl_nil) | ((with_reducible apply u_q); (iterate 4 exact rfl))) | ((with_reducible apply t_id); first | (with_reducible apply t_seq) | (apply t_region; kernel_rfl) | (with_reducible apply t_ret)) | with_reducible apply q_thenN | (with_reducible apply end_ret) | exact rvs_nil | (with_reducible apply rvs_cons) | ((with_reducible apply rv_tmp); exact rfl))
  all_goals rfl
theorem mul_calls (y : Int) (h2 : 0 ≤ y) (h3 : y < 4294967296) (w : World) : Calls Try.prog 103 #[.int .u64 1, .int .u64 y] w fun e w' => e = .returned (.tuple #[.int .u64 0, .int .u64 y]) ∧ Ext w w' := by
  have HM := fun w1 => mul64_calls 1 y (by omega) (by omega) h2 h3 w1
  rw [Int.one_mul] at HM
  refine enterQ (c := cx w 30) Try.func103 rfl rfl rfl rfl ?_
  repeat' (first | ((with_reducible apply oq_id); first | (apply oq_fn; exact rfl; try first | exact trivial | (and_intros <;> omega)) | ((with_reducible apply oq_call (k := 122) (hc := Try.call122)); exact rfl; exact rfl; exact fun D w1 hw1 => HM w1)) | ((with_reducible apply tl_id); first | (with_reducible apply tl_nil) | ((with_reducible apply u_q); (iterate 4 exact rfl))) | ((with_reducible apply t_id); first | (with_reducible apply t_seq) | (apply t_region; kernel_rfl) | ((with_reducible apply t_condF); exact rfl) | (with_reducible apply t_ret) | (with_reducible apply t_skip)) | with_reducible apply q_thenN | (with_reducible apply end_ret) | exact rvs_nil | (with_reducible apply rvs_cons) | ((with_reducible apply rv_tmp); exact rfl))
  all_goals rfl
def RepV (x : Int) (n : Nat) (V : Value) (H : Hp) : Prop := ∃ g, V = .slice (some ⟨g, 0, none⟩) n n ∧ H = [(g, (List.replicate n x).map iv, some (3, 1, n))]
theorem repeat_T (x : Int) (A : Option Addr) (n c : Nat) (w : World) (hr : RdS w 1 A 1 ([x].map inCells)) (hn0 : 1 ≤ n) (hn : n ≤ 1000) :
    Calls Try.prog 74 #[.slice A 1 c, .int .i64 (n : Int)] w fun e w' => ∃ V H', e = .returned V ∧ RepV x n V H' ∧ Has w ⟨[], []⟩ H' w' := by
  have HM := fun w1 => mul_calls (n : Int) (by omega) (by omega) w1
  obtain ⟨b1, o1, x', rfl, _, hx, c0⟩ := in_read hr (show 0 < 1 by omega)
  obtain rfl : x = x' := by simpa using hx
  refine enterF (c := cx w 48) Try.func74 rfl rfl rfl rfl ?_
  repeat' (first | ((with_reducible apply oq_id); first | (apply oq_fn; exact rfl; try first | exact trivial | (and_intros <;> omega)) | (focus ((with_reducible apply oq_convU); (iterate 3 exact rfl); (refine ⟨?_, ?_⟩ <;> omega))) | ((with_reducible apply oq_call (k := 103) (hc := Try.call103)); exact rfl; exact rfl; exact fun D w1 hw1 => HM w1)) | ((with_reducible apply tl_id); first | (with_reducible apply tl_nil) | ((with_reducible apply u_s); (iterate 3 exact rfl); ((with_reducible apply os_copy1); omega; (iterate 4 exact rfl); (repeat (first | exact P0 | apply P1)))) | ((with_reducible apply u_q); (iterate 4 exact rfl)) | ((with_reducible apply u_s); (iterate 3 exact rfl))) | ((with_reducible apply rd_id); first | (apply Rd.old; (first | (with_reducible assumption) | exact c0 | exact c1 | exact c2 | exact c3 | exact c4 | exact c5 | exact c6 | exact c7 | exact c8 | exact d0 | exact d1 | exact d2 | exact d3 | exact d4 | exact d5); first | exact List.not_mem_nil | exact m0 | exact m1 | exact m2 | exact m3 | exact m4 | exact m5 | exact m6 | exact m7 | exact m8 | exact m9)) | ((with_reducible apply t_id); first | (with_reducible apply t_seq) | (apply t_region; kernel_rfl) | ((with_reducible apply t_condF); exact rfl) | ((with_reducible apply t_condD); exact rfl; all_goals first | (intro hp; try (exfalso; omega)) | skip) | (with_reducible apply t_skip) | (with_reducible apply t_block)) | with_reducible apply q_thenN | ((with_reducible apply os_makeI (hk := app_ok41) (hz := info3)); exact rfl; exact rfl; omega; (unfold maxLen; omega); intro _))
  rename_i gN
  apply t_loopK (ι := Nat) [4, 7, 47] (fun k => [(8, .int .i64 (k : Nat))]) (fun k => [(gN, fillX x n k, some (3, 1, n))]) (fun k => 1 ≤ k ∧ k ≤ n) (fun k => n - k) (1)
  (repeat (first | exact KeepF.nil | (apply KeepF.cons; exact rfl) | apply KeepF.skip))
  (repeat (first | exact FrSub.nil | (apply FrSub.cons; exact rfl)))
  (repeat (first | exact HpSub.refl _ | (apply HpSub.consE; (repeat (first | exact P0 | apply P1)); exact rfl) | exact HpSub.nil))
  · exact ⟨by omega, hn0⟩
  rintro k ⟨hk0, hk⟩
  try simp only [List.cons_append, List.nil_append]
  by_cases hlt : k < n
  · have hm : k + min k (n - k) ≤ n := by omega
    repeat' (first | ((with_reducible apply oq_id); first | (focus ((with_reducible apply oq_sliceH (h := k)); (iterate 5 exact rfl); omega)) | (focus ((with_reducible apply oq_sliceL (l := k)); (iterate 5 exact rfl); omega; omega)) | ((with_reducible apply oq_addE (k := ((k + min k (n - k) : Nat) : Int))); exact rfl; exact rfl; omega) | (apply oq_fn; exact rfl; try first | exact trivial | (and_intros <;> omega))) | ((with_reducible apply tl_id); first | (with_reducible apply tl_nil) | ((with_reducible apply u_q); (iterate 4 exact rfl))) | ((with_reducible apply gx_id); first | (with_reducible apply v_nil) | ((with_reducible apply v_q); (iterate 3 exact rfl))) | ((with_reducible apply ai_id); first | ((with_reducible apply ai_s); (iterate 5 exact rfl); ((with_reducible apply os_copyX (n := n) (k := k)); omega; (iterate 4 exact rfl); (repeat (first | exact P0 | apply P1)))) | ((with_reducible apply ai_q); (iterate 5 exact rfl))) | ((with_reducible apply t_id); first | (apply t_mix (id := 9) [1, 2, 3, 4, 5, 6] 4 #[false, false, false, false, false, false, false, true, false, false]; kernel_rfl; kernel_rfl; exact rfl) | (with_reducible apply t_seq) | (apply t_region; kernel_rfl) | ((with_reducible apply t_condD); exact rfl; all_goals first | (intro hp; try (exfalso; omega)) | skip) | (with_reducible apply t_skip) | (with_reducible apply t_block)) | with_reducible apply q_thenN | with_reducible apply q_blockN | ((with_reducible apply al_id); first | (apply al_done; decide +kernel) | (apply al_one 0; decide +kernel) | (apply al_one 7; decide +kernel) | (apply al_one 8; decide +kernel) | (apply al_one 9; decide +kernel) | (apply al_two 0 7; decide +kernel)))
    all_goals (refine ⟨k + min k (n - k), ⟨by omega, hm⟩, by omega, ?_, ?_⟩)
    all_goals ((try simp only [List.cons_append, List.nil_append]); (repeat' (first | exact FrSub.nil | (apply FrSub.cons; exact rfl) | exact HpSub.refl _)))
  · obtain rfl : k = n := by omega
    repeat' (first | ((with_reducible apply oq_id); first | (apply oq_fn; exact rfl; try first | exact trivial | (and_intros <;> omega))) | ((with_reducible apply tl_id); first | (with_reducible apply tl_nil) | ((with_reducible apply u_q); (iterate 4 exact rfl))) | ((with_reducible apply t_id); first | (with_reducible apply t_seq) | (apply t_region; kernel_rfl) | ((with_reducible apply t_condD); exact rfl; all_goals first | (intro hp; try (exfalso; omega)) | skip) | (with_reducible apply t_ret) | (with_reducible apply t_exit)) | with_reducible apply q_thenN | with_reducible apply q_thenE | ((with_reducible apply q_blockE); exact rfl) | (with_reducible apply end_ret) | exact rvs_nil | (with_reducible apply rvs_cons) | ((with_reducible apply rv_tmp); exact rfl))
    all_goals exact ⟨_, ⟨gN, rfl, by rw [← fillX_done]⟩, by (repeat (first | exact HpSub.refl _ | (apply HpSub.consE; (repeat (first | exact P0 | apply P1)); exact rfl) | exact HpSub.nil))⟩
end Go.Proofs.Ytmlmgipngbndgaa
namespace Go.Proofs.Ytmlmgipngbndgaa
theorem FsOk.drop {fs : List Int} (h : FsOk fs) (i : Nat) : FsOk (fs.drop i) := fun x hx => h x (List.mem_of_mem_drop hx)
theorem insG_skip {ev gr x : Int} {t : List Int} {i k : Nat} {L : Int} (h : befV gr x (ndL ev gr t k) ≤ L) : insG ev gr (x :: t) i k L = insG ev gr t (i + 1) k (L - x) := by
  rw [insG, if_pos h]
theorem insG_ins {ev gr x : Int} {t : List Int} {i k : Nat} {L : Int} (h : ¬ befV gr x (ndL ev gr t k) ≤ L) : insG ev gr (x :: t) i k L = (i : Int) :: insG ev gr t (i + 1) (k - 1) (min L 0 + ev - x) := by
  rw [insG, if_neg h]
/-- What is needed behind a flight, where there is an inspection before it or not. -/
theorem nd_skip {ev gr x : Int} {t : List Int} {k : Nat} {L : Int} (h : befV gr x (ndL ev gr t k) ≤ L) : ndL ev gr t k ≤ L - x := by unfold befV at h; omega
theorem nd_ins {ev gr x : Int} {t : List Int} {k : Nat} {L : Int} (h0 : ndL ev gr (x :: t) k ≤ L) (h : ¬ befV gr x (ndL ev gr t k) ≤ L) : 1 ≤ k ∧ ndL ev gr t (k - 1) ≤ min L 0 + ev - x ∧ x - gr ≤ min L 0 + ev := by
  rcases nd_iff.1 h0 with h1 | ⟨j, rfl, h1⟩
  · exact absurd h1 h
  · unfold befV at h1
    rw [Nat.add_sub_cancel]
    exact ⟨by omega, by omega, by omega⟩
end Go.Proofs.Ytmlmgipngbndgaa
namespace Go.Proofs.Ytmlmgipngbndgaa
open Go.RowKit
attribute [local irreducible] OQ OS OX Rd T TL GX GL AL AI RV wpG SAny Calls
section
variable {c : Cx} {F : Fr} {H : Hp} {d : Option Tmp} {ty t : TypeId} {pos : String} {af : Array Edge} {g : Option (Nat × Bool)} {x y : Operand}
end
/-- A list that is nil, or a block of the call's own. -/
def planS (pre : List Int) : Option (Nat × Nat) → Value
  | none => .slice none 0 0
  | some (g, cap) => .slice (some ⟨g, 0, none⟩) pre.length cap
def planH (pre : List Int) : Option (Nat × Nat) → Hp
  | none => []
  | some (g, cap) => [(g, pre.map iv, some (3, 1, cap))]
theorem planS_none (pre : List Int) : planS pre none = .slice none 0 0 := rfl
theorem planS_some (pre : List Int) (g cap : Nat) : planS pre (some (g, cap)) = .slice (some ⟨g, 0, none⟩) pre.length cap := rfl
theorem planH_none (pre : List Int) : planH pre none = [] := rfl
theorem planH_some (pre : List Int) (g cap : Nat) : planH pre (some (g, cap)) = [(g, pre.map iv, some (3, 1, cap))] := rfl
/-- What Inspect returns. -/
def InsO (E : Int) (pl : List Int) (V : Value) (H : Hp) : Prop :=
  (E ≠ 0 ∧ V = .tuple #[.slice none 0 0, .int .i64 E] ∧ H = []) ∨ (E = 0 ∧ ∃ o, (o = none → pl = []) ∧ V = .tuple #[planS pl o, .int .i64 0] ∧ H = planH pl o)
/-- What 'before' tells. -/
theorem bef_calls (b3 b2 b8 bN gR i k n : Nat) (A : Option Addr) (c cN cR : Nat) (fs : List Int) (gr x r : Int) (w : World) (hr : RdS w 1 A n (fs.map inCells)) (hx : fs[i]? = some x) (k0 : w.cell? ⟨b3, 0, none⟩ = some (.slice A n c)) (k1 : w.cell? ⟨b2, 0 + 1, none⟩ = some (.int .i64 gr)) (k2 : w.cell? ⟨b8, 0, none⟩ = some (.slice (some ⟨bN, 0, none⟩) (n + 1) cN))
    (k3 : w.cell? ⟨bN, 0 + (i + 1) * 1, none⟩ = some (.slice (some ⟨gR, 0, none⟩) (n + 1) cR)) (k4 : w.cell? ⟨gR, 0 + k * 1, none⟩ = some (.int .i64 r)) (hk : k ≤ n) (hn : n ≤ 1000) (hxx : 1 ≤ x ∧ x ≤ 10000) (hg : 0 ≤ gr ∧ gr ≤ 100000) (hrr : -1099511627776 ≤ r ∧ r ≤ 2199023255552) :
    Calls Try.prog 75 #[.int .i64 (i : Int), .int .i64 (k : Int), .pointer (some ⟨b3, 0, none⟩), .pointer (some ⟨b2, 0, none⟩), .pointer (some ⟨b8, 0, none⟩)] w fun e w' => e = .returned (.int .i64 (befV gr x r)) ∧ Ext w w' := by
  have hl := hr.len
  simp only [List.length_map] at hl
  have hi := (List.getElem?_eq_some_iff.1 hx).1
  obtain ⟨b1, o1, x', rfl, _, hx', c0⟩ := in_read hr (show i < n by omega)
  obtain rfl : x = x' := by rw [hx] at hx'; exact Option.some.inj hx'
  refine enterQ (c := cx w 29) Try.func75 rfl rfl rfl rfl ?_
  repeat' (first | ((with_reducible apply oq_id); first | (focus ((with_reducible apply oq_indexAddrN); (iterate 4 exact rfl); omega)) | ((with_reducible apply oq_addE (k := ((i + 1 : Nat) : Int))); exact rfl; exact rfl; omega) | (apply oq_fn; exact rfl; try first | exact trivial | (and_intros <;> omega)) | ((with_reducible apply oq_load); exact rfl; exact rfl)) | ((with_reducible apply tl_id); first | (with_reducible apply tl_nil) | ((with_reducible apply u_q); (iterate 4 exact rfl))) | ((with_reducible apply gx_id); first | (with_reducible apply v_nil) | ((with_reducible apply v_q); (iterate 3 exact rfl))) | ((with_reducible apply rd_id); first | (apply Rd.old; (first | exact k0 | exact k1 | exact k2 | exact k3 | exact k4); exact List.not_mem_nil) | (apply Rd.old; (first | (with_reducible assumption) | exact c0 | exact c1 | exact c2 | exact c3 | exact c4 | exact c5 | exact c6 | exact c7 | exact c8 | exact d0 | exact d1 | exact d2 | exact d3 | exact d4 | exact d5); first | exact List.not_mem_nil | exact m0 | exact m1 | exact m2 | exact m3 | exact m4 | exact m5 | exact m6 | exact m7 | exact m8 | exact m9)) | ((with_reducible apply t_id); first | (with_reducible apply t_seq) | (apply t_region; kernel_rfl) | (apply t_drawn; kernel_rfl; decide +kernel; try simp only [List.append_eq, List.cons_append, List.nil_append]) | (with_reducible apply t_ret)) | with_reducible apply q_thenN | (with_reducible apply end_ret) | exact rvs_nil | (with_reducible apply rvs_cons) | ((with_reducible apply rv_tmp); exact rfl))
  all_goals rfl
theorem most_calls (b2 : Nat) (du z : Int) (w : World) (c0 : w.cell? ⟨b2, 0 + 2, none⟩ = some (.int .i64 du)) : Calls Try.prog 77 #[.int .i64 z, .pointer (some ⟨b2, 0, none⟩)] w fun e w' => e = .returned (.bool (decide (z ≤ du))) ∧ Ext w w' := by
  refine enterQ (c := cx w 8) Try.func77 rfl rfl rfl rfl ?_
  repeat' (first | ((with_reducible apply oq_id); first | (apply oq_fn; exact rfl; try first | exact trivial | (and_intros <;> omega)) | ((with_reducible apply oq_load); exact rfl; exact rfl)) | ((with_reducible apply tl_id); first | (with_reducible apply tl_nil) | ((with_reducible apply u_q); (iterate 4 exact rfl))) | ((with_reducible apply rd_id); first | (apply Rd.old; (first | (with_reducible assumption) | exact c0 | exact c1 | exact c2 | exact c3 | exact c4 | exact c5 | exact c6 | exact c7 | exact c8 | exact d0 | exact d1 | exact d2 | exact d3 | exact d4 | exact d5); first | exact List.not_mem_nil | exact m0 | exact m1 | exact m2 | exact m3 | exact m4 | exact m5 | exact m6 | exact m7 | exact m8 | exact m9)) | ((with_reducible apply t_id); first | (with_reducible apply t_seq) | (apply t_region; kernel_rfl) | (with_reducible apply t_ret)) | with_reducible apply q_thenN | (with_reducible apply end_ret) | exact rvs_nil | (with_reducible apply rvs_cons) | ((with_reducible apply rv_tmp); exact rfl))
  all_goals rfl
theorem HpSub.skip {x : Nat × List Value × Tg} {H G : Hp} (h : HpSub H G) : HpSub (x :: H) G := by
  induction h with
  | nil => exact .nil
  | cons p _ ih => exact .cons (.tail p) ih
/-- The rows that are there, by the number of flights behind them: the table's tail, and the blocks. -/
def tailV (n : Nat) (gs : Nat → Nat) : Nat → List Value
  | 0 => []
  | m + 1 => .slice (some ⟨gs m, 0, none⟩) (n + 1) (n + 1) :: tailV n gs m
def rowV (ev gr : Int) (fs : List Int) (m : Nat) : List Value := ((List.range (fs.length + 1)).map (ndL ev gr (fs.drop (fs.length - m)))).map iv
def rowsH (n : Nat) (ev gr : Int) (fs : List Int) (gs : Nat → Nat) : Nat → Hp
  | 0 => []
  | m + 1 => (gs m, rowV ev gr fs m, some (3, 1, n + 1)) :: rowsH n ev gr fs gs m
theorem tailV_congr {n : Nat} {gs gs' : Nat → Nat} : ∀ {m : Nat}, (∀ j, j < m → gs j = gs' j) → tailV n gs m = tailV n gs' m
  | 0, _ => rfl
  | m + 1, h => by
    unfold tailV
    rw [h m (by omega), tailV_congr fun j hj => h j (by omega)]
theorem rowsH_congr {n : Nat} {ev gr : Int} {fs : List Int} {gs gs' : Nat → Nat} : ∀ {m : Nat}, (∀ j, j < m → gs j = gs' j) → rowsH n ev gr fs gs m = rowsH n ev gr fs gs' m
  | 0, _ => rfl
  | m + 1, h => by
    unfold rowsH
    rw [h m (by omega), rowsH_congr fun j hj => h j (by omega)]
theorem tailV_at {n : Nat} {gs : Nat → Nat} : ∀ {m j : Nat}, j < m → (tailV n gs m)[m - 1 - j]? = some (.slice (some ⟨gs j, 0, none⟩) (n + 1) (n + 1))
  | 0, _, h => by omega
  | m + 1, j, h => by
    unfold tailV
    rcases (by omega : j = m ∨ j < m) with rfl | hlt
    · rw [show j + 1 - 1 - j = 0 by omega]; rfl
    · rw [show m + 1 - 1 - j = (m - 1 - j) + 1 by omega, List.getElem?_cons_succ]
      exact tailV_at hlt
theorem rowsH_mem {n : Nat} {ev gr : Int} {fs : List Int} {gs : Nat → Nat} : ∀ {m j : Nat}, j < m → (gs j, rowV ev gr fs j, some (3, 1, n + 1)) ∈ rowsH n ev gr fs gs m
  | 0, _, h => by omega
  | m + 1, j, h => by
    unfold rowsH
    rcases (by omega : j = m ∨ j < m) with rfl | hlt
    · exact List.mem_cons_self ..
    · exact List.mem_cons_of_mem _ (rowsH_mem hlt)
theorem rowV_at {ev gr : Int} {fs : List Int} {m k : Nat} (hk : k ≤ fs.length) : (rowV ev gr fs m)[0 + k * 1]? = some (.int .i64 (ndL ev gr (fs.drop (fs.length - m)) k)) := by
  unfold rowV
  rw [Nat.zero_add, Nat.mul_one, List.getElem?_map, List.getElem?_map, List.getElem?_range (by omega)]
  rfl
section
variable {c : Cx} {F : Fr} {H H' : Hp} {K : Value → Hp → Prop} {d : Option Tmp} {ty : TypeId} {pos : String} {af : Array Edge} {gd : Option (Nat × Bool)} {t : TypeId} {x y : Operand} {a0 : Bool} {z0 : List Value} {k0 : TyK} {g k : Nat} {tg : Tg} {A B : List Value} {z u : Value}
theorem rdG (h : A.length = k) (p : Pick H g (A ++ z :: B) tg H') : Rd c H ⟨g, 0 + k * 1, none⟩ z := Rd.own p (by rw [Nat.zero_add, Nat.mul_one, ← h]; simp)
theorem os_storeG (h : A.length = k) (ht : tyAt c.tys t = some ⟨a0, 1, z0, k0⟩) (hx : ev F x = some (.pointer (some ⟨g, 0 + k * 1, none⟩))) (hy : ev F y = some u) (hu : u.oneCell' = true) (hp : Pick H g (A ++ z :: B) tg H')
    (kk : K undef ((g, A ++ u :: B, tg) :: H')) : OS c ⟨d, .store t x y, ty, pos, af, gd⟩ F H K :=
  store_gen (vs := [u]) ht hx hy (by cases u <;> first | rfl | (simp [Value.oneCell'] at hu)) rfl (by simpa using hu) hp (by simp; omega) (by
    have e : setL (A ++ z :: B) (0 + k * 1) [u] = A ++ u :: B := by
      simp only [setL]
      rw [Nat.zero_add, Nat.mul_one, ← h, List.set_append_right _ _ (by simp)]
      simp
    rw [e]; exact kk)
end
theorem info41 : (Try.prog.info? 41).map (fun i => i.zero) = some (some (.slice none 0 0)) := by kernel_rfl
theorem os_makeS {w : World} {N n : Nat} {F : Fr} {H : Hp} {M : List Nat} {K : Value → Hp → Prop} {d : Option Tmp} {ty : TypeId} {pos : String} {af : Array Edge} {gd : Option (Nat × Bool)} {x y : Operand}
    (hx : ev F x = some (.int .i64 ((n + 1 : Nat) : Int))) (hy : ev F y = some (.int .i64 ((n + 1 : Nat) : Int))) (hn : n ≤ 1000) (k : ∀ b, K (.slice (some ⟨b, 0, none⟩) (n + 1) (n + 1)) ((b, List.replicate n (Value.slice none 0 0) ++ Value.slice none 0 0 :: [], some (41, 1, n + 1)) :: H)) : OS (cxM M w N) ⟨d, .makeSlice 90 x y, ty, pos, af, gd⟩ F H K := by
  refine .ofX (ox_make (zs := [.slice none 0 0]) app_ok90 info41 rfl rfl hx hy (by omega) (by unfold maxLen; omega) fun b => ?_)
  have e : (List.replicate (n + 1) [Value.slice none 0 0]).flatten = List.replicate n (Value.slice none 0 0) ++ Value.slice none 0 0 :: [] := by
    rw [show (List.replicate n (Value.slice none 0 0) ++ Value.slice none 0 0 :: []) = List.replicate (n + 1) (Value.slice none 0 0) from List.replicate_succ'.symm]
    simp
  rw [e]
  exact k b
theorem row0_eq {ev gr : Int} {fs : List Int} {n : Nat} (hl : fs.length = n) : ((List.replicate (n + 1) (1099511627776 : Int)).set 0 (-1099511627776)).map iv = rowV ev gr fs 0 := by
  unfold rowV
  rw [hl, List.drop_of_length_le (by omega)]
  congr 1
  refine List.ext_getElem (by simp) fun i h1 h2 => ?_
  simp only [List.length_set, List.length_replicate] at h1
  simp only [List.getElem_set, List.getElem_replicate, List.getElem_map, List.getElem_range, nd_nil]
  unfold never
  by_cases hi : i = 0
  · subst hi; simp
  · rw [if_neg (fun h => hi h.symm), if_neg hi]
theorem few_spec {ev gr du : Int} {fs : List Int} {k : Nat} (h : fewV ev gr du fs = (k : Int)) : k ≤ fs.length ∧ ndL ev gr fs k ≤ du := by
  unfold fewV idxV at h
  cases hq : ((List.range (fs.length + 1)).map (ndL ev gr fs)).findIdx? (fun x => decide (x ≤ du)) with
  | none => rw [hq] at h; simp only at h; omega
  | some i =>
    rw [hq] at h
    simp only at h
    obtain rfl : i = k := by omega
    obtain ⟨hi, hp, _⟩ := List.findIdx?_eq_some_iff_getElem.1 hq
    simp only [List.length_map, List.length_range] at hi
    simp only [List.getElem_map, List.getElem_range, decide_eq_true_eq] at hp
    exact ⟨by omega, hp⟩
theorem row_top {w0 : World} {M : Ms} {H H' : Hp} {w : World} {g n : Nat} {ev gr : Int} {fs : List Int} {tg : Tg} (hl : fs.length = n) (h : Has w0 M H w) (q : Pick H g (rowV ev gr fs n) tg H') : RdS w 1 (some ⟨g, 0, none⟩) (n + 1) (((List.range (n + 1)).map (ndL ev gr fs)).map inCells) := by
  have e : rowV ev gr fs n = ((List.range (n + 1)).map (ndL ev gr fs)).map iv := by unfold rowV; rw [hl, Nat.sub_self, List.drop_zero]
  rw [e] at q
  exact int_rows (by simp) h q
theorem few_calls (ev gr du : Int) (fs : List Int) (n g b2 : Nat) (w1 : World) (hl : fs.length = n) (hn : n ≤ 1000) (hr : RdS w1 1 (some ⟨g, 0, none⟩) (n + 1) (((List.range (n + 1)).map (ndL ev gr fs)).map inCells)) (c0 : w1.cell? ⟨b2, 0 + 2, none⟩ = some (.int .i64 du)) :
    Calls Try.prog 76 #[.slice (some ⟨g, 0, none⟩) (n + 1) (n + 1), .func (.func 77) #[] ⟨[.pointer (some ⟨b2, 0, none⟩)]⟩] w1 fun e w' => e = .returned (.int .i64 (fewV ev gr du fs)) ∧ Ext w1 w' := by
  have := indexInt_calls 77 [.pointer (some ⟨b2, 0, none⟩)] (fun z => decide (z ≤ du)) (some ⟨g, 0, none⟩) (n + 1) (n + 1) ((List.range (n + 1)).map (ndL ev gr fs)) w1 hr (by omega) Try.call77 (fun z _ w2 h2 => most_calls b2 du z w2 (h2.cell c0))
  unfold fewV
  rw [hl]
  exact this
theorem bef_row {w0 : World} {M : Ms} {w1 : World} {bN b8 b2 b3 n c i k : Nat} {gs : Nat → Nat} {A : Option Addr} {ev gr du x : Int} {fs : List Int} (hl : fs.length = n)
    (h : Has w0 M ((bN, tailV n gs (n + 1), some (41, 1, n + 1)) :: (b8, [.slice (some ⟨bN, 0, none⟩) (n + 1) (n + 1)], some (90, 1, 1)) :: (b2, [.int .i64 ev, .int .i64 gr, .int .i64 du], some (40, 3, 1)) :: (b3, [.slice A n c], some (41, 1, 1)) :: rowsH n ev gr fs gs (n + 1)) w1)
    (hr : RdS w1 1 A n (fs.map inCells)) (hx : fs[i]? = some x) (hi : i < n) (hk : k ≤ n) (hn : n ≤ 60) (he : 1 ≤ ev ∧ ev ≤ 100000) (hg : 0 ≤ gr ∧ gr ≤ 100000) (hf : FsOk fs) :
    Calls Try.prog 75 #[.int .i64 (i : Int), .int .i64 (k : Int), .pointer (some ⟨b3, 0, none⟩), .pointer (some ⟨b2, 0, none⟩), .pointer (some ⟨b8, 0, none⟩)] w1 fun e w' => e = .returned (.int .i64 (befV gr x (ndL ev gr (fs.drop (i + 1)) k))) ∧ Ext w1 w' := by
  have hm := rowsH_mem (n := n) (ev := ev) (gr := gr) (fs := fs) (gs := gs) (show n - (i + 1) < n + 1 by omega)
  have hb := (h.blk _ (List.mem_cons_of_mem _ (List.mem_cons_of_mem _ (List.mem_cons_of_mem _ (List.mem_cons_of_mem _ hm))))).2
  have k4 := hb.cell (rowV_at (ev := ev) (gr := gr) (m := n - (i + 1)) (k := k) (show k ≤ fs.length by omega))
  rw [show fs.length - (n - (i + 1)) = i + 1 by omega] at k4
  have k3 := (h.blk _ (List.mem_cons_self ..)).2.cell (o := 0 + (i + 1) * 1) (v := .slice (some ⟨gs (n - (i + 1)), 0, none⟩) (n + 1) (n + 1)) (by
    have := tailV_at (n := n) (gs := gs) (show n - (i + 1) < n + 1 by omega)
    rw [← this]
    congr 1
    omega)
  have hnd := nd_in he hg (hf.drop (i + 1)) k
  have h2 : (fs.drop (i + 1)).length ≤ 60 := by rw [List.length_drop]; omega
  have hnv : never = 1099511627776 := rfl
  exact bef_calls b3 b2 b8 bN _ i k n A c (n + 1) (n + 1) fs gr x _ w1 hr hx
    ((h.blk _ (List.mem_cons_of_mem _ (List.mem_cons_of_mem _ (List.mem_cons_of_mem _ (List.mem_cons_self ..))))).2.cell rfl)
    ((h.blk _ (List.mem_cons_of_mem _ (List.mem_cons_of_mem _ (List.mem_cons_self ..)))).2.cell rfl)
    ((h.blk _ (List.mem_cons_of_mem _ (List.mem_cons_self ..))).2.cell rfl) k3 k4 hk (by omega) (hf x (List.mem_of_getElem? hx)) hg (by omega)
theorem need_nx {q : Nat} {a b : Value} {T : List Value} : (List.replicate q (Value.slice none 0 0) ++ a :: b :: T)[0 + (q + 1) * 1]? = some b := by
  rw [Nat.zero_add, Nat.mul_one, List.getElem?_append_right (by simp)]
  simp
theorem rep_open {q : Nat} {T : List Value} : List.replicate (q + 1) (Value.slice none 0 0) ++ T = List.replicate q (Value.slice none 0 0) ++ Value.slice none 0 0 :: T := by
  rw [List.replicate_succ']
  simp
theorem inspect_T (ev gr du : Int) (A : Option Addr) (n c : Nat) (fs : List Int) (w : World) (hr : RdS w 1 A n (fs.map inCells)) (hn : n ≤ 1000) :
    Calls Try.prog 28 #[.agg #[.int .i64 ev, .int .i64 gr, .int .i64 du], .slice A n c] w fun e w' => ∃ V H', e = .returned V ∧ InsO (insE ev gr du fs) (insV ev gr du fs) V H' ∧ Has w ⟨[], []⟩ H' w' := by
  have hl := hr.len
  simp only [List.length_map] at hl
  have HC := fun w1 (hx : Ext w w1) => checkFlights_calls ev gr du A n c fs w1 (hr.ext hx) (by omega)
  by_cases hce : caredE ev gr du fs = 0
  · rw [hce] at HC
    have hE : insE ev gr du fs = if fewV ev gr du fs < 0 then 6 else 0 := by unfold insE; rw [if_pos hce]
    obtain ⟨e1, e2, g1, g2, d1, d2, hn60, hfs⟩ := cared_ok hce
    have he : 1 ≤ ev ∧ ev ≤ 100000 := ⟨e1, e2⟩
    have hg : 0 ≤ gr ∧ gr ≤ 100000 := ⟨g1, g2⟩
    have hf : FsOk fs := hfs
    have hnv : never = 1099511627776 := rfl
    have hA : (List.replicate n (Value.slice none 0 0)).length = n := by simp
    refine enterF (c := cx w 144) Try.func28 rfl rfl rfl rfl ?_
    repeat' (first | ((with_reducible apply oq_id); first | (focus ((with_reducible apply oq_indexAddrN); (iterate 4 exact rfl); omega)) | (focus ((with_reducible apply oq_indexAddrN (i := 0)); (iterate 4 exact rfl); omega)) | ((with_reducible apply oq_addE (k := ((n + 1 : Nat) : Int))); exact rfl; exact rfl; omega) | (apply oq_fn; exact rfl; try first | exact trivial | (and_intros <;> omega)) | ((with_reducible apply oq_load); exact rfl; exact rfl) | ((with_reducible apply oq_loadAgg); exact rfl; exact rfl) | ((with_reducible apply oq_call (k := 71) (hc := Try.call71)); exact rfl; exact rfl; exact fun D w1 hw1 => HC w1 hw1.ext.ext)) | ((with_reducible apply tl_id); first | (with_reducible apply tl_nil) | ((with_reducible apply u_q); (iterate 4 exact rfl)) | ((with_reducible apply u_s0); exact rfl; exact rfl) | ((with_reducible apply u_s); (iterate 3 exact rfl))) | ((with_reducible apply gx_id); first | (with_reducible apply v_nil) | ((with_reducible apply v_q); (iterate 3 exact rfl))) | ((with_reducible apply os_id); first | ((with_reducible apply os_storeG hA); (iterate 4 exact rfl); (repeat (first | exact P0 | apply P1))) | ((with_reducible apply os_storeI (k := 0) (row := List.replicate (n + 1) (1099511627776 : Int))); (focus (simp only [List.length_replicate]; omega)); (iterate 3 exact rfl); (repeat (first | exact P0 | apply P1))) | ((with_reducible apply os_x); exact rfl) | ((with_reducible apply os_store); (iterate 4 exact rfl))) | ((with_reducible apply ox_id); first | ((with_reducible apply ox_alloc); exact rfl; intro _) | ((with_reducible apply ox_box); exact rfl; exact rfl; intro _) | ((with_reducible apply ox_boxAgg); exact rfl; intro _) | ((with_reducible apply ox_buildSlice1); (iterate 6 exact rfl); intro _)) | ((with_reducible apply ai_id); first | ((with_reducible apply ai_n); (iterate 4 exact rfl); (with_reducible apply os_callF (PV := (fun V H' => RepV 1099511627776 (n + 1) V H')) (k := 74) (hc := Try.call74)); exact rfl; exact rfl; exact fun D w1 hw1 => repeat_T 1099511627776 _ (n + 1) _ w1 (one_rows hw1 (by (repeat (first | exact P0 | apply P1)))) (by omega) (by omega); rintro V' H' ⟨g, rfl, rfl⟩; simp only [List.cons_append, List.nil_append]) | ((with_reducible apply ai_q); (iterate 5 exact rfl)) | ((with_reducible apply ai_x); (iterate 5 exact rfl)) | ((with_reducible apply ai_s0); (iterate 4 exact rfl))) | ((with_reducible apply al_keep); focus (repeat (first | exact HpSub.refl _ | (apply HpSub.cons; (repeat (first | exact P0 | apply P1))) | apply HpSub.skip | exact HpSub.nil))) | ((with_reducible apply rd_id); first | (apply rdG hA; (repeat (first | exact P0 | apply P1)); done) | (apply Rd.own; (repeat (first | exact P0 | apply P1)); exact rfl; done)) | ((with_reducible apply t_id); first | (apply t_mix (id := 6) [0, 1, 3, 4] 4 #[false, false, false, false, false, false, false, true]; kernel_rfl; kernel_rfl; exact rfl) | (with_reducible apply t_seq) | (apply t_region; kernel_rfl) | ((with_reducible apply t_condF); exact rfl) | (with_reducible apply t_skip) | (with_reducible apply t_block)) | with_reducible apply q_thenN | exact P0 | exact Rdn.zero | apply Rdn.succ | ((with_reducible apply Norm.nil); exact rfl) | ((with_reducible apply Norm.cons); exact rfl) | ((with_reducible apply al_id); first | (apply al_done; decide +kernel) | (apply al_one 2; decide +kernel) | (apply al_one 5; decide +kernel) | (apply al_one 6; decide +kernel) | (apply al_one 7; decide +kernel)) | ((with_reducible apply os_makeS (n := n)); exact rfl; exact rfl; omega; intro _) | exact Nat.le_of_ble_eq_true rfl)
    rename_i b2 b3 bN b8 bS
    apply t_loopK (GH := []) (ι := Nat × (Nat → Nat)) [2, 3, 4, 5, 7, 8, 9, 12, 13, 14, 15, 16, 106, 107, 108, 109, 110, 111, 112, 113, 114, 115, 116, 117, 118, 119, 120, 121, 122, 123, 124, 125, 126, 127, 128, 129, 130, 131, 132, 133, 134, 135, 136, 137, 138, 139, 140, 141, 142, 143] (fun i => [(10, .int .i64 ((n : Int) - ((i.1 : Nat) + 1 : Int)))]) (fun i => [(bN, List.replicate (n - i.1) (Value.slice none 0 0) ++ .slice (some ⟨i.2 i.1, 0, none⟩) (n + 1) (n + 1) :: tailV n i.2 i.1, some (41, 1, n + 1)), (b8, [.slice (some ⟨bN, 0, none⟩) (n + 1) (n + 1)], some (90, 1, 1)), (b2, [.int .i64 ev, .int .i64 gr, .int .i64 du], some (40, 3, 1)), (b3, [.slice A n c], some (41, 1, 1))] ++ rowsH n ev gr fs i.2 (i.1 + 1)) (fun i => i.1 ≤ n) (fun i => n - i.1) ((0, fun _ => g))
    (repeat (first | exact KeepF.nil | (apply KeepF.cons; exact rfl) | apply KeepF.skip))
    (repeat (first | exact FrSub.nil | (apply FrSub.cons; exact rfl)))
    (repeat (first | exact HpSub.refl _ | (apply HpSub.consE; (repeat (first | exact P0 | apply P1)); first | exact rfl | (exact row0_eq hl)) | exact HpSub.nil))
    · exact Nat.zero_le _
    rintro ⟨j, gs⟩ hj
    simp only at hj
    try simp only [List.cons_append, List.nil_append]
    by_cases hlt : j < n
    · obtain ⟨q, hq⟩ : ∃ q, n - j = q + 1 := ⟨n - j - 1, by omega⟩
      have hA : (List.replicate q (Value.slice none 0 0)).length = q := by simp
      obtain ⟨b1, o1, x, hA1, _, hx, c0⟩ := in_read hr (show q < n by omega)
      have hfx := hf x (List.mem_of_getElem? hx)
      have hdrop : fs.drop (fs.length - (j + 1)) = x :: fs.drop (fs.length - j) := by
        have hil := List.getElem?_eq_some_iff.1 hx
        rw [show fs.length - (j + 1) = q by omega, show fs.length - j = q + 1 by omega, List.drop_eq_getElem_cons hil.1, hil.2]
      have hnd : ∀ k, -1099511627776 ≤ ndL ev gr (fs.drop (fs.length - j)) k ∧ ndL ev gr (fs.drop (fs.length - j)) k ≤ 2199023255552 := fun k => by
        have := nd_in he hg (hf.drop (fs.length - j)) k
        have h2 : (fs.drop (fs.length - j)).length ≤ 60 := by rw [List.length_drop]; omega
        omega
      have hbv : ∀ k, -1099511727776 ≤ befV gr x (ndL ev gr (fs.drop (fs.length - j)) k) ∧ befV gr x (ndL ev gr (fs.drop (fs.length - j)) k) ≤ 2199023355552 := fun k => by
        have := hnd k
        unfold befV
        omega
      rw [hq, show (n : Int) - ((j : Int) + 1) = (q : Int) by omega, rep_open]
      repeat' (first | ((with_reducible apply oq_id); first | (focus ((with_reducible apply oq_indexAddrN); (iterate 4 exact rfl); omega)) | ((with_reducible apply oq_addE (k := ((n + 1 : Nat) : Int))); exact rfl; exact rfl; omega) | (apply oq_fn; exact rfl; try first | exact trivial | (and_intros <;> omega)) | ((with_reducible apply oq_load); exact rfl; exact rfl)) | ((with_reducible apply tl_id); first | (with_reducible apply tl_nil) | ((with_reducible apply u_q); (iterate 4 exact rfl))) | ((with_reducible apply gx_id); first | (with_reducible apply v_nil) | ((with_reducible apply v_q); (iterate 3 exact rfl))) | ((with_reducible apply os_storeG hA); (iterate 4 exact rfl); (repeat (first | exact P0 | apply P1))) | ((with_reducible apply ai_id); first | ((with_reducible apply ai_q); (iterate 5 exact rfl)) | ((with_reducible apply ai_s0); (iterate 4 exact rfl)) | ((with_reducible apply ai_n); (iterate 4 exact rfl))) | ((with_reducible apply al_keep); focus (repeat (first | exact HpSub.refl _ | (apply HpSub.cons; (repeat (first | exact P0 | apply P1))) | apply HpSub.skip | exact HpSub.nil))) | ((with_reducible apply rd_id); first | (apply rdG hA; (repeat (first | exact P0 | apply P1)); done) | (apply Rd.own; (repeat (first | exact P0 | apply P1)); exact rfl; done)) | ((with_reducible apply t_id); first | (apply t_mix (id := 12) [0, 1, 2, 3] 3 #[false, false, false, false, false, false, true]; kernel_rfl; kernel_rfl; exact rfl) | (with_reducible apply t_seq) | (apply t_region; kernel_rfl) | ((with_reducible apply t_condT); exact rfl) | (with_reducible apply t_skip) | (with_reducible apply t_block)) | with_reducible apply q_thenN | ((with_reducible apply al_id); first | (apply al_done; decide +kernel) | (apply al_one 4; decide +kernel) | (apply al_one 5; decide +kernel) | (apply al_one 6; decide +kernel)) | ((with_reducible apply os_makeI (hk := app_ok41) (hz := info3)); exact rfl; exact rfl; omega; (unfold maxLen; omega); intro _))
      rename_i gN
      apply t_loopK (ι := Nat) [2, 3, 4, 5, 7, 8, 9, 10, 12, 13, 14, 15, 16, 43, 44, 45, 46, 47, 48, 49, 50, 51, 52, 53, 54, 55, 56, 57, 106, 107, 108, 109, 110, 111, 112, 113, 114, 115, 116, 117, 118, 119, 120, 121, 122, 123, 124, 125, 126, 127, 128, 129, 130, 131, 132, 133, 134, 135, 136, 137, 138, 139, 140, 141, 142, 143] (fun k => [(58, .int .i64 (k : Nat))]) (fun k => [(gN, fillV (ndL ev gr (x :: fs.drop (fs.length - j))) (n + 1) k, some (3, 1, n + 1))]) (fun k => k ≤ n + 1) (fun k => n + 1 - k) (0)
      (repeat (first | exact KeepF.nil | (apply KeepF.cons; exact rfl) | apply KeepF.skip))
      (repeat (first | exact FrSub.nil | (apply FrSub.cons; exact rfl)))
      (repeat (first | exact HpSub.refl _ | (apply HpSub.consE; (repeat (first | exact P0 | apply P1)); exact rfl) | exact HpSub.nil))
      · exact Nat.zero_le _
      rintro k hk
      try simp only [List.cons_append, List.nil_append]
      by_cases hlt2 : k < n + 1
      · rw [fill_open hlt2]
        have hA2 : ((List.range k).map (ndL ev gr (x :: fs.drop (fs.length - j)))).length = k := by simp
        cases k with
        | zero =>
          have hnx : (ndL ev gr (x :: fs.drop (fs.length - j))) 0 = befV gr x (ndL ev gr (fs.drop (fs.length - j)) 0) := nd_zero ..
          repeat' (first | ((with_reducible apply oq_id); first | (focus ((with_reducible apply oq_indexAddrN); (iterate 4 exact rfl); omega)) | (apply oq_fn; exact rfl; try first | exact trivial | (and_intros <;> omega)) | ((with_reducible apply oq_load); exact rfl; exact rfl) | ((with_reducible apply oq_call (k := 75) (hc := Try.call75)); exact rfl; exact rfl; exact fun D w1 hw1 => bef_calls _ _ _ _ _ q 0 n A c _ _ fs gr x (ndL ev gr (fs.drop (fs.length - j)) 0) w1 (hr.ext hw1.ext.ext) hx (hw1.cellAt (by (repeat (first | exact P0 | apply P1))) rfl) (hw1.cellAt (by (repeat (first | exact P0 | apply P1))) rfl) (hw1.cellAt (by (repeat (first | exact P0 | apply P1))) rfl) (hw1.cellAt (by (repeat (first | exact P0 | apply P1))) need_nx) (hw1.cellAt (by (repeat (first | exact P0 | apply P1))) (rowV_at (by omega))) (by omega) (by omega) hfx hg (hnd 0))) | ((with_reducible apply tl_id); first | (with_reducible apply tl_nil) | ((with_reducible apply u_q); (iterate 4 exact rfl))) | ((with_reducible apply gx_id); first | (with_reducible apply v_nil) | ((with_reducible apply v_q); (iterate 3 exact rfl)) | ((with_reducible apply v_skip); (iterate 3 exact rfl))) | ((with_reducible apply os_storeM hA2); (iterate 3 exact rfl); (repeat (first | exact P0 | apply P1))) | ((with_reducible apply ai_s0); (iterate 4 exact rfl)) | ((with_reducible apply rd_id); first | (apply rdG hA; (repeat (first | exact P0 | apply P1)); done) | (apply Rd.own; (repeat (first | exact P0 | apply P1)); exact rfl; done)) | ((with_reducible apply t_id); first | (apply t_mix (id := 16) [0, 1, 2, 3, 4, 5, 6, 7, 8, 9] 1 #[false, false, false, false, false, false, false, false, false, false, true]; kernel_rfl; kernel_rfl; exact rfl) | (with_reducible apply t_seq) | (apply t_region; kernel_rfl) | (apply t_drawn; kernel_rfl; decide +kernel; try simp only [List.append_eq, List.cons_append, List.nil_append]) | ((with_reducible apply t_condF); exact rfl) | ((with_reducible apply t_condD); exact rfl; all_goals first | (intro hp; try (exfalso; omega)) | skip) | (with_reducible apply t_skip) | (with_reducible apply t_block)) | with_reducible apply q_thenN | with_reducible apply q_blockN | ((with_reducible apply al_id); first | (apply al_done; decide +kernel) | (apply al_one 10; decide +kernel)))
          all_goals (refine ⟨0 + 1, by omega, by omega, ?_, ?_⟩)
          all_goals ((try simp only [List.cons_append, List.nil_append]); (repeat' (first | exact FrSub.nil | (apply FrSub.cons; exact rfl) | exact HpSub.refl _)))
        | succ k =>
          have hB1 := hbv k
          have hB2 := hbv (k + 1)
          by_cases hb : befV gr x (ndL ev gr (fs.drop (fs.length - j)) k) ≤ ev
          · have hnx : (ndL ev gr (x :: fs.drop (fs.length - j))) (k + 1) = min (befV gr x (ndL ev gr (fs.drop (fs.length - j)) (k + 1))) (befV gr x (ndL ev gr (fs.drop (fs.length - j)) k) - ev) := by rw [nd_succ, if_pos hb]
            repeat' (first | ((with_reducible apply oq_id); first | (focus ((with_reducible apply oq_indexAddrN); (iterate 4 exact rfl); omega)) | ((with_reducible apply oq_subE (k := (k : Int))); exact rfl; exact rfl; omega) | (apply oq_fn; exact rfl; try first | exact trivial | (and_intros <;> omega)) | ((with_reducible apply oq_load); exact rfl; exact rfl) | ((with_reducible apply oq_call (k := 75) (hc := Try.call75)); exact rfl; exact rfl; exact fun D w1 hw1 => bef_calls _ _ _ _ _ q (k + 1) n A c _ _ fs gr x (ndL ev gr (fs.drop (fs.length - j)) (k + 1)) w1 (hr.ext hw1.ext.ext) hx (hw1.cellAt (by (repeat (first | exact P0 | apply P1))) rfl) (hw1.cellAt (by (repeat (first | exact P0 | apply P1))) rfl) (hw1.cellAt (by (repeat (first | exact P0 | apply P1))) rfl) (hw1.cellAt (by (repeat (first | exact P0 | apply P1))) need_nx) (hw1.cellAt (by (repeat (first | exact P0 | apply P1))) (rowV_at (by omega))) (by omega) (by omega) hfx hg (hnd (k + 1))) | ((with_reducible apply oq_call (k := 75) (hc := Try.call75)); exact rfl; exact rfl; exact fun D w1 hw1 => bef_calls _ _ _ _ _ q k n A c _ _ fs gr x (ndL ev gr (fs.drop (fs.length - j)) k) w1 (hr.ext hw1.ext.ext) hx (hw1.cellAt (by (repeat (first | exact P0 | apply P1))) rfl) (hw1.cellAt (by (repeat (first | exact P0 | apply P1))) rfl) (hw1.cellAt (by (repeat (first | exact P0 | apply P1))) rfl) (hw1.cellAt (by (repeat (first | exact P0 | apply P1))) need_nx) (hw1.cellAt (by (repeat (first | exact P0 | apply P1))) (rowV_at (by omega))) (by omega) (by omega) hfx hg (hnd k))) | ((with_reducible apply tl_id); first | (with_reducible apply tl_nil) | ((with_reducible apply u_q); (iterate 4 exact rfl))) | ((with_reducible apply gx_id); first | (with_reducible apply v_nil) | ((with_reducible apply v_q); (iterate 3 exact rfl)) | ((with_reducible apply v_splitD); exact rfl; exact rfl; all_goals first | (intro hp; try (exfalso; omega)) | skip)) | ((with_reducible apply os_storeM hA2); (iterate 3 exact rfl); (repeat (first | exact P0 | apply P1))) | ((with_reducible apply ai_s0); (iterate 4 exact rfl)) | ((with_reducible apply rd_id); first | (apply rdG hA; (repeat (first | exact P0 | apply P1)); done) | (apply rdM hA2; (repeat (first | exact P0 | apply P1)); done) | (apply Rd.own; (repeat (first | exact P0 | apply P1)); exact rfl; done)) | ((with_reducible apply t_id); first | (apply t_mix (id := 16) [0, 1, 2, 3, 4, 5, 6, 7, 8, 9] 1 #[false, false, false, false, false, false, false, false, false, false, true]; kernel_rfl; kernel_rfl; exact rfl) | (apply t_mix (id := 18) [0, 1, 2, 3, 4, 5, 6, 7, 8, 9, 10, 11, 12, 13, 14, 15, 16, 17, 18, 19, 20, 21] 1 #[false, false, false, false, false, false, false, false, false, false, false, false, false, false, false, false, false, false, false, false, false, false, true]; kernel_rfl; kernel_rfl; exact rfl) | (with_reducible apply t_seq) | (apply t_region; kernel_rfl) | (apply t_drawn; kernel_rfl; decide +kernel; try simp only [List.append_eq, List.cons_append, List.nil_append]) | ((with_reducible apply t_condD); exact rfl; all_goals first | (intro hp; try (exfalso; omega)) | skip) | (with_reducible apply t_skip) | (with_reducible apply t_block)) | with_reducible apply q_thenN | with_reducible apply q_blockN | ((with_reducible apply al_id); first | (apply al_done; decide +kernel) | (apply al_one 10; decide +kernel)) | ((with_reducible apply al_id); first | (apply al_one 22; decide +kernel)))
            all_goals (refine ⟨(k + 1) + 1, by omega, by omega, ?_, ?_⟩)
            all_goals ((try simp only [List.cons_append, List.nil_append]); (repeat' (first | exact FrSub.nil | (apply FrSub.cons; exact rfl) | exact HpSub.refl _ | (apply HpSub.consE; (repeat (first | exact P0 | apply P1)); first | exact rfl | (exact fill_close hnx)))))
          · have hnx : (ndL ev gr (x :: fs.drop (fs.length - j))) (k + 1) = befV gr x (ndL ev gr (fs.drop (fs.length - j)) (k + 1)) := by rw [nd_succ, if_neg hb]
            repeat' (first | ((with_reducible apply oq_id); first | (focus ((with_reducible apply oq_indexAddrN); (iterate 4 exact rfl); omega)) | ((with_reducible apply oq_subE (k := (k : Int))); exact rfl; exact rfl; omega) | (apply oq_fn; exact rfl; try first | exact trivial | (and_intros <;> omega)) | ((with_reducible apply oq_load); exact rfl; exact rfl) | ((with_reducible apply oq_call (k := 75) (hc := Try.call75)); exact rfl; exact rfl; exact fun D w1 hw1 => bef_calls _ _ _ _ _ q (k + 1) n A c _ _ fs gr x (ndL ev gr (fs.drop (fs.length - j)) (k + 1)) w1 (hr.ext hw1.ext.ext) hx (hw1.cellAt (by (repeat (first | exact P0 | apply P1))) rfl) (hw1.cellAt (by (repeat (first | exact P0 | apply P1))) rfl) (hw1.cellAt (by (repeat (first | exact P0 | apply P1))) rfl) (hw1.cellAt (by (repeat (first | exact P0 | apply P1))) need_nx) (hw1.cellAt (by (repeat (first | exact P0 | apply P1))) (rowV_at (by omega))) (by omega) (by omega) hfx hg (hnd (k + 1))) | ((with_reducible apply oq_call (k := 75) (hc := Try.call75)); exact rfl; exact rfl; exact fun D w1 hw1 => bef_calls _ _ _ _ _ q k n A c _ _ fs gr x (ndL ev gr (fs.drop (fs.length - j)) k) w1 (hr.ext hw1.ext.ext) hx (hw1.cellAt (by (repeat (first | exact P0 | apply P1))) rfl) (hw1.cellAt (by (repeat (first | exact P0 | apply P1))) rfl) (hw1.cellAt (by (repeat (first | exact P0 | apply P1))) rfl) (hw1.cellAt (by (repeat (first | exact P0 | apply P1))) need_nx) (hw1.cellAt (by (repeat (first | exact P0 | apply P1))) (rowV_at (by omega))) (by omega) (by omega) hfx hg (hnd k))) | ((with_reducible apply tl_id); first | (with_reducible apply tl_nil) | ((with_reducible apply u_q); (iterate 4 exact rfl))) | ((with_reducible apply gx_id); first | (with_reducible apply v_nil) | ((with_reducible apply v_q); (iterate 3 exact rfl)) | ((with_reducible apply v_splitD); exact rfl; exact rfl; all_goals first | (intro hp; try (exfalso; omega)) | skip)) | ((with_reducible apply os_storeM hA2); (iterate 3 exact rfl); (repeat (first | exact P0 | apply P1))) | ((with_reducible apply ai_s0); (iterate 4 exact rfl)) | ((with_reducible apply rd_id); first | (apply rdG hA; (repeat (first | exact P0 | apply P1)); done) | (apply Rd.own; (repeat (first | exact P0 | apply P1)); exact rfl; done)) | ((with_reducible apply t_id); first | (apply t_mix (id := 16) [0, 1, 2, 3, 4, 5, 6, 7, 8, 9] 1 #[false, false, false, false, false, false, false, false, false, false, true]; kernel_rfl; kernel_rfl; exact rfl) | (with_reducible apply t_seq) | (apply t_region; kernel_rfl) | (apply t_drawn; kernel_rfl; decide +kernel; try simp only [List.append_eq, List.cons_append, List.nil_append]) | ((with_reducible apply t_condD); exact rfl; all_goals first | (intro hp; try (exfalso; omega)) | skip) | (with_reducible apply t_skip) | (with_reducible apply t_block)) | with_reducible apply q_thenN | with_reducible apply q_blockN | ((with_reducible apply al_id); first | (apply al_done; decide +kernel) | (apply al_one 10; decide +kernel)))
            all_goals (refine ⟨(k + 1) + 1, by omega, by omega, ?_, ?_⟩)
            all_goals ((try simp only [List.cons_append, List.nil_append]); (repeat' (first | exact FrSub.nil | (apply FrSub.cons; exact rfl) | exact HpSub.refl _ | (apply HpSub.consE; (repeat (first | exact P0 | apply P1)); first | exact rfl | (exact fill_close hnx)))))
      · obtain rfl : k = n + 1 := by omega
        have hrow : ((List.range (n + 1)).map (ndL ev gr (x :: fs.drop (fs.length - j)))).map iv = rowV ev gr fs (j + 1) := by unfold rowV; rw [hdrop, hl]
        rw [fill_done, hrow]
        repeat' (first | ((with_reducible apply oq_id); first | (apply oq_fn; exact rfl; try first | exact trivial | (and_intros <;> omega))) | ((with_reducible apply tl_id); first | (with_reducible apply tl_nil) | ((with_reducible apply u_q); (iterate 4 exact rfl))) | ((with_reducible apply t_id); first | (with_reducible apply t_seq) | (apply t_region; kernel_rfl) | ((with_reducible apply t_condD); exact rfl; all_goals first | (intro hp; try (exfalso; omega)) | skip) | (with_reducible apply t_exit)) | with_reducible apply q_thenN | with_reducible apply q_blockN | with_reducible apply q_thenE | ((with_reducible apply q_blockE); exact rfl))
        all_goals (refine ⟨(j + 1, fun m => if m = j + 1 then gN else gs m), by simp only; omega, by simp only; omega, ?_, ?_⟩)
        · try simp only [List.cons_append, List.nil_append]
          (repeat (first | exact FrSub.nil | (apply FrSub.cons; exact rfl) | (apply FrSub.consE; exact rfl; (congr 1; omega))))
        · have t1 : tailV n (fun m => if m = j + 1 then gN else gs m) (j + 1) = tailV n gs (j + 1) := tailV_congr fun i hi => if_neg (by omega)
          have t2 : rowsH n ev gr fs (fun m => if m = j + 1 then gN else gs m) (j + 1) = rowsH n ev gr fs gs (j + 1) := rowsH_congr fun i hi => if_neg (by omega)
          simp only [show rowsH n ev gr fs (fun m => if m = j + 1 then gN else gs m) (j + 1 + 1) = (gN, rowV ev gr fs (j + 1), some (3, 1, n + 1)) :: rowsH n ev gr fs gs (j + 1) by rw [← t2]; simp [rowsH], t1, if_true, show n - (j + 1) = q by omega]
          (repeat (first | exact HpSub.refl _ | (apply HpSub.consE; (repeat (first | exact P0 | apply P1)); exact rfl) | apply HpSub.skip | exact HpSub.nil))
    · obtain rfl : n = j := by omega
      have hneed : List.replicate (n - n) (Value.slice none 0 0) ++ Value.slice (some ⟨gs n, 0, none⟩) (n + 1) (n + 1) :: tailV n gs n = tailV n gs (n + 1) := by rw [Nat.sub_self]; rfl
      rw [hneed]
      simp only [List.append_nil]
      have HF := fun w1 => few_calls ev gr du fs n (gs n) b2 w1 hl hn
      by_cases hneg : fewV ev gr du fs < 0
      · rw [if_pos hneg] at hE
        rw [hE]
        obtain ⟨fv, hfv⟩ : ∃ fv, fewV ev gr du fs = fv := ⟨_, rfl⟩
        rw [hfv] at HF hneg
        repeat' (first | ((with_reducible apply oq_id); first | (focus ((with_reducible apply oq_indexAddrN (i := 0)); (iterate 4 exact rfl); omega)) | (apply oq_fn; exact rfl; try first | exact trivial | (and_intros <;> omega)) | ((with_reducible apply oq_load); exact rfl; exact rfl) | ((with_reducible apply oq_call (k := 76) (hc := Try.call76)); exact rfl; exact rfl; exact fun D w1 hw1 => HF w1 (row_top hl hw1 (by (repeat (first | exact P0 | apply P1)))) (hw1.cellAt (by (repeat (first | exact P0 | apply P1))) rfl))) | ((with_reducible apply tl_id); first | (with_reducible apply tl_nil) | ((with_reducible apply u_q); (iterate 4 exact rfl))) | ((with_reducible apply rd_id); first | (apply Rd.own; (repeat (first | exact P0 | apply P1)); exact rfl; done)) | ((with_reducible apply t_id); first | (with_reducible apply t_seq) | (apply t_region; kernel_rfl) | ((with_reducible apply t_condD); exact rfl; all_goals first | (intro hp; try (exfalso; omega)) | skip) | (with_reducible apply t_ret) | (with_reducible apply t_exit)) | with_reducible apply q_thenN | with_reducible apply q_thenR | with_reducible apply q_thenE | ((with_reducible apply q_blockE); exact rfl) | (with_reducible apply end_ret) | exact rvs_nil | (with_reducible apply rvs_cons) | ((with_reducible apply rv_tmp); exact rfl))
        all_goals exact ⟨_, .inl ⟨by decide, rfl, rfl⟩, HpSub.nil⟩
      · obtain ⟨k0, hk0⟩ : ∃ k0 : Nat, fewV ev gr du fs = (k0 : Int) := ⟨(fewV ev gr du fs).toNat, by omega⟩
        rw [if_neg hneg] at hE
        rw [hk0] at HF
        have hIV : insV ev gr du fs = insG ev gr fs 0 k0 du := by unfold insV; rw [hk0]; rfl
        have hfs := few_spec hk0
        clear HC
        repeat' (first | ((with_reducible apply oq_id); first | (focus ((with_reducible apply oq_indexAddrN (i := 0)); (iterate 4 exact rfl); omega)) | (apply oq_fn; exact rfl; try first | exact trivial | (and_intros <;> omega)) | ((with_reducible apply oq_load); exact rfl; exact rfl) | ((with_reducible apply oq_call (k := 76) (hc := Try.call76)); exact rfl; exact rfl; exact fun D w1 hw1 => HF w1 (row_top hl hw1 (by (repeat (first | exact P0 | apply P1)))) (hw1.cellAt (by (repeat (first | exact P0 | apply P1))) rfl))) | ((with_reducible apply tl_id); first | (with_reducible apply tl_nil) | ((with_reducible apply u_q); (iterate 4 exact rfl))) | ((with_reducible apply rd_id); first | (apply Rd.own; (repeat (first | exact P0 | apply P1)); exact rfl; done)) | ((with_reducible apply t_id); first | (with_reducible apply t_seq) | (apply t_region; kernel_rfl) | ((with_reducible apply t_condF); exact rfl) | ((with_reducible apply t_condD); exact rfl; all_goals first | (intro hp; try (exfalso; omega)) | skip) | (with_reducible apply t_skip) | (with_reducible apply t_exit) | (with_reducible apply t_block)) | with_reducible apply q_thenN | with_reducible apply q_thenE | ((with_reducible apply q_blockE); exact rfl))
        apply t_loopK (ι := Nat × Nat × Int × List Int × Option (Nat × Nat)) [2, 4, 5, 9, 115, 116, 143] (fun j => [(117, .int .i64 (j.1 : Nat)), (12, .int .i64 (j.2.1 : Nat)), (14, .int .i64 j.2.2.1), (13, planS j.2.2.2.1 j.2.2.2.2)]) (fun j => planH j.2.2.2.1 j.2.2.2.2) (fun j => j.1 ≤ n ∧ insV ev gr du fs = j.2.2.2.1 ++ insG ev gr (fs.drop j.1) j.1 j.2.1 j.2.2.1 ∧ ndL ev gr (fs.drop j.1) j.2.1 ≤ j.2.2.1 ∧ -100000 ≤ j.2.2.1 ∧ j.2.2.1 ≤ 100000 ∧ j.2.1 ≤ n ∧ j.2.2.2.1.length ≤ j.1 ∧ (j.2.2.2.2 = none → j.2.2.2.1 = [])) (fun j => n - j.1) ((0, k0, du, [], none))
        (repeat (first | exact KeepF.nil | (apply KeepF.cons; exact rfl) | apply KeepF.skip))
        (repeat (first | exact FrSub.nil | (apply FrSub.cons; exact rfl)))
        (repeat (first | exact HpSub.refl _ | (apply HpSub.consE; (repeat (first | exact P0 | apply P1)); exact rfl) | exact HpSub.nil))
        · exact ⟨Nat.zero_le _, by simp only [List.drop_zero, List.nil_append]; exact hIV, by simp only [List.drop_zero]; exact hfs.2, by simp only; omega, by simp only; omega, by simp only; omega, by simp, fun _ => rfl⟩
        rintro ⟨i, k, L, pre, o⟩ ⟨hi, hpl, hnd, hL0, hL1, hkn, hprl, hpre⟩
        simp only at hi hpl hnd hL0 hL1 hkn hprl hpre
        by_cases hlt2 : i < n
        · obtain ⟨b1, o1, x, hA1, _, hx, c0⟩ := in_read hr hlt2
          have hfx := hf x (List.mem_of_getElem? hx)
          have hdrop : fs.drop i = x :: fs.drop (i + 1) := by
            have hil := (List.getElem?_eq_some_iff.1 hx)
            rw [List.drop_eq_getElem_cons hil.1, hil.2]
          obtain ⟨B, hBe⟩ : ∃ B, befV gr x (ndL ev gr (fs.drop (i + 1)) k) = B := ⟨_, rfl⟩
          have HB : ∀ {M : Ms} {w0 w1 : World}, Ext w w1 → Has w0 M ((bN, tailV n gs (n + 1), some (41, 1, n + 1)) :: (b8, [.slice (some ⟨bN, 0, none⟩) (n + 1) (n + 1)], some (90, 1, 1)) :: (b2, [.int .i64 ev, .int .i64 gr, .int .i64 du], some (40, 3, 1)) :: (b3, [.slice A n c], some (41, 1, 1)) :: rowsH n ev gr fs gs (n + 1)) w1 →
              Calls Try.prog 75 #[.int .i64 (i : Int), .int .i64 (k : Int), .pointer (some ⟨b3, 0, none⟩), .pointer (some ⟨b2, 0, none⟩), .pointer (some ⟨b8, 0, none⟩)] w1 fun e w' => e = .returned (.int .i64 B) ∧ Ext w1 w' :=
            fun hx1 hh => hBe ▸ bef_row hl hh (hr.ext hx1) hx hlt2 hkn (by omega) he hg hf
          subst hA1
          rcases o with _ | ⟨go, co⟩
          · obtain rfl := hpre rfl
            try simp only [planS_none, planS_some, planH_none, planH_some, List.cons_append, List.nil_append]
            by_cases hsk : B ≤ L
            · have hB := hsk
              rw [← hBe] at hB
              have hge : x - gr ≤ L := by unfold befV at hB; omega
              repeat' (first | ((with_reducible apply oq_id); first | (focus ((with_reducible apply oq_indexAddrN); (iterate 4 exact rfl); omega)) | ((with_reducible apply oq_addE (k := ((i + 1 : Nat) : Int))); exact rfl; exact rfl; omega) | (apply oq_fn; exact rfl; try first | exact trivial | (and_intros <;> omega)) | ((with_reducible apply oq_load); exact rfl; exact rfl) | ((with_reducible apply oq_call (k := 75) (hc := Try.call75)); exact rfl; exact rfl; exact fun D w1 hw1 => HB hw1.ext.ext (Has.sub (by (repeat (first | exact HpSub.refl _ | apply HpSub.skip))) hw1))) | ((with_reducible apply tl_id); first | (with_reducible apply tl_nil) | ((with_reducible apply u_q); (iterate 4 exact rfl))) | ((with_reducible apply rd_id); first | (apply Rd.old; (first | (with_reducible assumption) | exact c0 | exact c1 | exact c2 | exact c3 | exact c4 | exact c5 | exact c6 | exact c7 | exact c8 | exact d0 | exact d1 | exact d2 | exact d3 | exact d4 | exact d5); first | exact List.not_mem_nil | exact m0 | exact m1 | exact m2 | exact m3 | exact m4 | exact m5 | exact m6 | exact m7 | exact m8 | exact m9)) | ((with_reducible apply t_id); first | (with_reducible apply t_seq) | (apply t_region; kernel_rfl) | ((with_reducible apply t_condD); exact rfl; all_goals first | (intro hp; try (exfalso; omega)) | skip) | (with_reducible apply t_skip) | (with_reducible apply t_block)) | with_reducible apply q_thenN | with_reducible apply q_blockN)
              all_goals (refine ⟨(i + 1, k, L - x, [], none), ⟨by simp only; omega, ?_, ?_, by simp only; omega, by simp only; omega, by simp only; omega, ?_, ?_⟩, by simp only; omega, ?_, ?_⟩)
              all_goals first
                | (simp only; rw [hpl, hdrop, insG_skip hB]; done)
                | (simp only; exact nd_skip hB)
                | (simp only; rw [hpl, hdrop, insG_ins hB]; simp; done)
                | (simp only; exact hnd2)
                | exact hpre
                | (simp only; omega)
                | (simp only [List.length_append, List.length_cons, List.length_nil]; omega)
                | (intro h; cases h; done)
                | ((try simp only [planS_none, planS_some, planH_none, planH_some, List.cons_append, List.nil_append]); (repeat (first | exact FrSub.nil | (apply FrSub.cons; exact rfl) | (apply FrSub.consE; exact rfl; (focus (simp; done))))); done)
                | ((try simp only [planS_none, planS_some, planH_none, planH_some, List.cons_append, List.nil_append]); (repeat (first | exact HpSub.refl _ | (apply HpSub.consE; (repeat (first | exact P0 | apply P1)); first | exact rfl | ((focus (simp [iv]; done)))) | apply HpSub.skip | exact HpSub.nil)); done)
            · have hB := hsk
              rw [← hBe] at hB
              obtain ⟨hk1, hnd2, hgx⟩ := nd_ins (by rw [← hdrop]; exact hnd) hB
              repeat' (first | ((with_reducible apply oq_id); first | (focus ((with_reducible apply oq_indexAddrN); (iterate 4 exact rfl); omega)) | ((with_reducible apply oq_subE (k := ((k - 1 : Nat) : Int))); exact rfl; exact rfl; omega) | ((with_reducible apply oq_addE (k := ((i + 1 : Nat) : Int))); exact rfl; exact rfl; omega) | (apply oq_fn; exact rfl; try first | exact trivial | (and_intros <;> omega)) | ((with_reducible apply oq_load); exact rfl; exact rfl) | ((with_reducible apply oq_call (k := 75) (hc := Try.call75)); exact rfl; exact rfl; exact fun D w1 hw1 => HB hw1.ext.ext (Has.sub (by (repeat (first | exact HpSub.refl _ | apply HpSub.skip))) hw1))) | ((with_reducible apply tl_id); first | (with_reducible apply tl_nil) | ((with_reducible apply u_q); (iterate 4 exact rfl)) | ((with_reducible apply u_s); (iterate 3 exact rfl))) | ((with_reducible apply os_id); first | ((with_reducible apply os_x); exact rfl) | ((with_reducible apply os_appendNil (hk := app_ok41)); exact rfl; exact rfl)) | ((with_reducible apply ox_buildSlice1); (iterate 6 exact rfl); intro _) | ((with_reducible apply rd_id); first | (apply Rd.own; (repeat (first | exact P0 | apply P1)); exact rfl; done) | (apply Rd.old; (first | (with_reducible assumption) | exact c0 | exact c1 | exact c2 | exact c3 | exact c4 | exact c5 | exact c6 | exact c7 | exact c8 | exact d0 | exact d1 | exact d2 | exact d3 | exact d4 | exact d5); first | exact List.not_mem_nil | exact m0 | exact m1 | exact m2 | exact m3 | exact m4 | exact m5 | exact m6 | exact m7 | exact m8 | exact m9)) | ((with_reducible apply t_id); first | (with_reducible apply t_seq) | (apply t_region; kernel_rfl) | ((with_reducible apply t_condD); exact rfl; all_goals first | (intro hp; try (exfalso; omega)) | skip) | (with_reducible apply t_skip) | (with_reducible apply t_block)) | with_reducible apply q_thenN | with_reducible apply q_blockN | exact Rdn.zero | apply Rdn.succ | exact Nat.le_of_ble_eq_true rfl | exact (rfl : (_ : Bool) = true) | (intro _ _; with_reducible apply tl_id))
              all_goals (rename_i gN cN; refine ⟨(i + 1, k - 1, min L 0 + ev - x, [] ++ [(i : Int)], some (gN, cN)), ⟨by simp only; omega, ?_, ?_, by simp only; omega, by simp only; omega, by simp only; omega, ?_, ?_⟩, by simp only; omega, ?_, ?_⟩)
              all_goals first
                | (simp only; rw [hpl, hdrop, insG_skip hB]; done)
                | (simp only; exact nd_skip hB)
                | (simp only; rw [hpl, hdrop, insG_ins hB]; simp; done)
                | (simp only; exact hnd2)
                | exact hpre
                | (simp only; omega)
                | (simp only [List.length_append, List.length_cons, List.length_nil]; omega)
                | (intro h; cases h; done)
                | ((try simp only [planS_none, planS_some, planH_none, planH_some, List.cons_append, List.nil_append]); (repeat (first | exact FrSub.nil | (apply FrSub.cons; exact rfl) | (apply FrSub.consE; exact rfl; (focus (simp; done))))); done)
                | ((try simp only [planS_none, planS_some, planH_none, planH_some, List.cons_append, List.nil_append]); (repeat (first | exact HpSub.refl _ | (apply HpSub.consE; (repeat (first | exact P0 | apply P1)); first | exact rfl | ((focus (simp [iv]; done)))) | apply HpSub.skip | exact HpSub.nil)); done)
          · try simp only [planS_none, planS_some, planH_none, planH_some, List.cons_append, List.nil_append]
            by_cases hsk : B ≤ L
            · have hB := hsk
              rw [← hBe] at hB
              have hge : x - gr ≤ L := by unfold befV at hB; omega
              repeat' (first | ((with_reducible apply oq_id); first | (focus ((with_reducible apply oq_indexAddrN); (iterate 4 exact rfl); omega)) | ((with_reducible apply oq_addE (k := ((i + 1 : Nat) : Int))); exact rfl; exact rfl; omega) | (apply oq_fn; exact rfl; try first | exact trivial | (and_intros <;> omega)) | ((with_reducible apply oq_load); exact rfl; exact rfl) | ((with_reducible apply oq_call (k := 75) (hc := Try.call75)); exact rfl; exact rfl; exact fun D w1 hw1 => HB hw1.ext.ext (Has.sub (by (repeat (first | exact HpSub.refl _ | apply HpSub.skip))) hw1))) | ((with_reducible apply tl_id); first | (with_reducible apply tl_nil) | ((with_reducible apply u_q); (iterate 4 exact rfl))) | ((with_reducible apply rd_id); first | (apply Rd.old; (first | (with_reducible assumption) | exact c0 | exact c1 | exact c2 | exact c3 | exact c4 | exact c5 | exact c6 | exact c7 | exact c8 | exact d0 | exact d1 | exact d2 | exact d3 | exact d4 | exact d5); first | exact List.not_mem_nil | exact m0 | exact m1 | exact m2 | exact m3 | exact m4 | exact m5 | exact m6 | exact m7 | exact m8 | exact m9)) | ((with_reducible apply t_id); first | (with_reducible apply t_seq) | (apply t_region; kernel_rfl) | ((with_reducible apply t_condD); exact rfl; all_goals first | (intro hp; try (exfalso; omega)) | skip) | (with_reducible apply t_skip) | (with_reducible apply t_block)) | with_reducible apply q_thenN | with_reducible apply q_blockN)
              all_goals (refine ⟨(i + 1, k, L - x, pre, some (go, co)), ⟨by simp only; omega, ?_, ?_, by simp only; omega, by simp only; omega, by simp only; omega, ?_, ?_⟩, by simp only; omega, ?_, ?_⟩)
              all_goals first
                | (simp only; rw [hpl, hdrop, insG_skip hB]; done)
                | (simp only; exact nd_skip hB)
                | (simp only; rw [hpl, hdrop, insG_ins hB]; simp; done)
                | (simp only; exact hnd2)
                | exact hpre
                | (simp only; omega)
                | (simp only [List.length_append, List.length_cons, List.length_nil]; omega)
                | (intro h; cases h; done)
                | ((try simp only [planS_none, planS_some, planH_none, planH_some, List.cons_append, List.nil_append]); (repeat (first | exact FrSub.nil | (apply FrSub.cons; exact rfl) | (apply FrSub.consE; exact rfl; (focus (simp; done))))); done)
                | ((try simp only [planS_none, planS_some, planH_none, planH_some, List.cons_append, List.nil_append]); (repeat (first | exact HpSub.refl _ | (apply HpSub.consE; (repeat (first | exact P0 | apply P1)); first | exact rfl | ((focus (simp [iv]; done)))) | apply HpSub.skip | exact HpSub.nil)); done)
            · have hB := hsk
              rw [← hBe] at hB
              obtain ⟨hk1, hnd2, hgx⟩ := nd_ins (by rw [← hdrop]; exact hnd) hB
              repeat' (first | ((with_reducible apply oq_id); first | (focus ((with_reducible apply oq_indexAddrN); (iterate 4 exact rfl); omega)) | ((with_reducible apply oq_subE (k := ((k - 1 : Nat) : Int))); exact rfl; exact rfl; omega) | ((with_reducible apply oq_addE (k := ((i + 1 : Nat) : Int))); exact rfl; exact rfl; omega) | (apply oq_fn; exact rfl; try first | exact trivial | (and_intros <;> omega)) | ((with_reducible apply oq_load); exact rfl; exact rfl) | ((with_reducible apply oq_call (k := 75) (hc := Try.call75)); exact rfl; exact rfl; exact fun D w1 hw1 => HB hw1.ext.ext (Has.sub (by (repeat (first | exact HpSub.refl _ | apply HpSub.skip))) hw1))) | ((with_reducible apply tl_id); first | (with_reducible apply tl_nil) | ((with_reducible apply u_q); (iterate 4 exact rfl)) | ((with_reducible apply u_s); (iterate 3 exact rfl))) | ((with_reducible apply os_id); first | ((with_reducible apply os_x); exact rfl) | ((with_reducible apply os_append (hk := app_ok41)); exact rfl; exact rfl; (repeat (first | exact P0 | apply P1)))) | ((with_reducible apply ox_buildSlice1); (iterate 6 exact rfl); intro _) | ((with_reducible apply rd_id); first | (apply Rd.own; (repeat (first | exact P0 | apply P1)); exact rfl; done) | (apply Rd.old; (first | (with_reducible assumption) | exact c0 | exact c1 | exact c2 | exact c3 | exact c4 | exact c5 | exact c6 | exact c7 | exact c8 | exact d0 | exact d1 | exact d2 | exact d3 | exact d4 | exact d5); first | exact List.not_mem_nil | exact m0 | exact m1 | exact m2 | exact m3 | exact m4 | exact m5 | exact m6 | exact m7 | exact m8 | exact m9)) | ((with_reducible apply t_id); first | (with_reducible apply t_seq) | (apply t_region; kernel_rfl) | ((with_reducible apply t_condD); exact rfl; all_goals first | (intro hp; try (exfalso; omega)) | skip) | (with_reducible apply t_skip) | (with_reducible apply t_block)) | with_reducible apply q_thenN | with_reducible apply q_blockN | exact Rdn.zero | apply Rdn.succ | (simp only [List.length_map, Nat.mul_one]; done) | exact Nat.le_of_ble_eq_true rfl | exact (rfl : (_ : Bool) = true) | omega | (intro _ _; with_reducible apply tl_id))
              all_goals (rename_i gN cN; refine ⟨(i + 1, k - 1, min L 0 + ev - x, pre ++ [(i : Int)], some (gN, cN)), ⟨by simp only; omega, ?_, ?_, by simp only; omega, by simp only; omega, by simp only; omega, ?_, ?_⟩, by simp only; omega, ?_, ?_⟩)
              all_goals first
                | (simp only; rw [hpl, hdrop, insG_skip hB]; done)
                | (simp only; exact nd_skip hB)
                | (simp only; rw [hpl, hdrop, insG_ins hB]; simp; done)
                | (simp only; exact hnd2)
                | exact hpre
                | (simp only; omega)
                | (simp only [List.length_append, List.length_cons, List.length_nil]; omega)
                | (intro h; cases h; done)
                | ((try simp only [planS_none, planS_some, planH_none, planH_some, List.cons_append, List.nil_append]); (repeat (first | exact FrSub.nil | (apply FrSub.cons; exact rfl) | (apply FrSub.consE; exact rfl; (focus (simp; done))))); done)
                | ((try simp only [planS_none, planS_some, planH_none, planH_some, List.cons_append, List.nil_append]); (repeat (first | exact HpSub.refl _ | (apply HpSub.consE; (repeat (first | exact P0 | apply P1)); first | exact rfl | ((focus (simp [iv]; done)))) | apply HpSub.skip | exact HpSub.nil)); done)
        · obtain rfl : n = i := by omega
          have hfin : insV ev gr du fs = pre := by rw [hpl, List.drop_of_length_le (by omega)]; simp [insG]
          rw [hE, hfin]
          rcases o with _ | ⟨go, co⟩
          · obtain rfl := hpre rfl
            try simp only [planS_none, planS_some, planH_none, planH_some, List.cons_append, List.nil_append]
            repeat' (first | ((with_reducible apply oq_id); first | (apply oq_fn; exact rfl; try first | exact trivial | (and_intros <;> omega))) | ((with_reducible apply tl_id); first | (with_reducible apply tl_nil) | ((with_reducible apply u_q); (iterate 4 exact rfl))) | ((with_reducible apply t_id); first | (with_reducible apply t_seq) | (apply t_region; kernel_rfl) | ((with_reducible apply t_condD); exact rfl; all_goals first | (intro hp; try (exfalso; omega)) | skip) | (with_reducible apply t_ret) | (with_reducible apply t_exit)) | with_reducible apply q_thenN | with_reducible apply q_thenE | ((with_reducible apply q_blockE); exact rfl) | (with_reducible apply end_ret) | exact rvs_nil | (with_reducible apply rvs_cons) | ((with_reducible apply rv_tmp); exact rfl))
            all_goals exact ⟨_, .inr ⟨rfl, none, fun _ => rfl, rfl, rfl⟩, HpSub.nil⟩
          · try simp only [planS_none, planS_some, planH_none, planH_some, List.cons_append, List.nil_append]
            repeat' (first | ((with_reducible apply oq_id); first | (apply oq_fn; exact rfl; try first | exact trivial | (and_intros <;> omega))) | ((with_reducible apply tl_id); first | (with_reducible apply tl_nil) | ((with_reducible apply u_q); (iterate 4 exact rfl))) | ((with_reducible apply t_id); first | (with_reducible apply t_seq) | (apply t_region; kernel_rfl) | ((with_reducible apply t_condD); exact rfl; all_goals first | (intro hp; try (exfalso; omega)) | skip) | (with_reducible apply t_ret) | (with_reducible apply t_exit)) | with_reducible apply q_thenN | with_reducible apply q_thenE | ((with_reducible apply q_blockE); exact rfl) | (with_reducible apply end_ret) | exact rvs_nil | (with_reducible apply rvs_cons) | ((with_reducible apply rv_tmp); exact rfl))
            all_goals exact ⟨_, .inr ⟨rfl, some (go, co), (fun h => by cases h), rfl, rfl⟩, by (repeat (first | exact HpSub.refl _ | (apply HpSub.consE; (repeat (first | exact P0 | apply P1)); exact rfl) | apply HpSub.skip | exact HpSub.nil))⟩
  · have hE : insE ev gr du fs = caredE ev gr du fs := by unfold insE; rw [if_neg hce]
    rw [hE]
    obtain ⟨E, hEE⟩ : ∃ E, caredE ev gr du fs = E := ⟨_, rfl⟩
    rw [hEE] at HC hce ⊢
    refine enterF (c := cx w 144) Try.func28 rfl rfl rfl rfl ?_
    repeat' (first | ((with_reducible apply oq_id); first | (apply oq_fn; exact rfl; try first | exact trivial | (and_intros <;> omega)) | ((with_reducible apply oq_load); exact rfl; exact rfl) | ((with_reducible apply oq_loadAgg); exact rfl; exact rfl) | ((with_reducible apply oq_call (k := 71) (hc := Try.call71)); exact rfl; exact rfl; exact fun D w1 hw1 => HC w1 hw1.ext.ext)) | ((with_reducible apply tl_id); first | (with_reducible apply tl_nil) | ((with_reducible apply u_q); (iterate 4 exact rfl)) | ((with_reducible apply u_s); (iterate 3 exact rfl))) | ((with_reducible apply os_x); exact rfl) | ((with_reducible apply ox_id); first | ((with_reducible apply ox_box); exact rfl; exact rfl; intro _) | ((with_reducible apply ox_boxAgg); exact rfl; intro _)) | ((with_reducible apply rd_id); first | (apply Rd.own; (repeat (first | exact P0 | apply P1)); exact rfl; done)) | ((with_reducible apply t_id); first | (with_reducible apply t_seq) | (apply t_region; kernel_rfl) | ((with_reducible apply t_condN); exact rfl; all_goals first | (intro hp; try (exfalso; omega)) | skip) | (with_reducible apply t_ret)) | with_reducible apply q_thenN | with_reducible apply q_thenR | exact Rdn.zero | apply Rdn.succ | (with_reducible apply end_ret) | exact rvs_nil | (with_reducible apply rvs_cons) | ((with_reducible apply rv_tmp); exact rfl))
    all_goals exact ⟨_, .inl ⟨hce, rfl, rfl⟩, HpSub.nil⟩
end Go.Proofs.Ytmlmgipngbndgaa
namespace Go.Proofs.Ytmlmgipngbndgaa
open Go.ChangeShapes Go.WideShapes Go.ChangeAt Go.RowKit
inductive Lf where
  | int (k : IntKind)
  | bool
def LfOk : Lf → Value → Prop
  | .int k, v => ∃ z, v = .int k z ∧ (Lit.int k z).wf = true
  | .bool, v => ∃ b, v = .bool b
def LfsOk : List Lf → List Value → Prop
  | [], [] => True
  | k :: ks, v :: vs => LfOk k v ∧ LfsOk ks vs
  | _, _ => False
theorem LfsOk.len : ∀ {ks : List Lf} {vs : List Value}, LfsOk ks vs → vs.length = ks.length
  | [], [], _ => rfl
  | k :: ks, v :: vs, h => by simp [LfsOk.len h.2]
  | [], _ :: _, h => h.elim
  | _ :: _, [], h => h.elim
theorem LfsOk.nil {vs : List Value} (h : LfsOk [] vs) : vs = [] := by cases vs with | nil => rfl | cons _ _ => exact h.elim
theorem LfsOk.int {k : IntKind} {ks : List Lf} {vs : List Value} (h : LfsOk (.int k :: ks) vs) : ∃ z us, vs = .int k z :: us ∧ (Lit.int k z).wf = true ∧ LfsOk ks us := by
  cases vs with
  | nil => exact h.elim
  | cons v vs => obtain ⟨⟨z, rfl, hw⟩, h2⟩ := h; exact ⟨z, vs, rfl, hw, h2⟩
theorem LfsOk.bool {ks : List Lf} {vs : List Value} (h : LfsOk (.bool :: ks) vs) : ∃ b us, vs = .bool b :: us ∧ LfsOk ks us := by
  cases vs with
  | nil => exact h.elim
  | cons v vs => obtain ⟨⟨z, rfl⟩, h2⟩ := h; exact ⟨z, vs, rfl, h2⟩
theorem LfsOk.append : ∀ {ks ls : List Lf} {vs us : List Value}, LfsOk ks vs → LfsOk ls us → LfsOk (ks ++ ls) (vs ++ us)
  | [], _, [], _, _, h => h
  | _ :: _, _, _ :: _, _, h, k => ⟨h.1, LfsOk.append h.2 k⟩
  | [], _, _ :: _, _, h, _ => h.elim
  | _ :: _, _, [], _, h, _ => h.elim
def ksFs (P : Program) (rec_ : TypeId → Option (List Lf)) : List Field → Nat → Option (List Lf)
  | [], _ => some []
  | f :: fs, o => match Nat.beq f.offset o, rec_ f.type, ksFs P rec_ fs (o + P.cellsOf f.type) with
    | true, some ks, some ls => match Nat.beq (P.cellsOf f.type) ks.length with
      | true => some (ks ++ ls)
      | false => none
    | _, _, _ => none
def ksOf (P : Program) : Nat → TypeId → Option (List Lf)
  | 0, _ => none
  | n + 1, t => match P.underlying t with
    | some (.int k) => some [.int k]
    | some .bool => some [.bool]
    | some (.struct fs) => match ksFs P (ksOf P n) fs.toList 0 with
      | some ks => match Nat.beq (P.cellsOf t) ks.length with
        | true => some ks
        | false => none
      | none => none
    | _ => none
section
variable {H : Type} {enc : TypeId × Value → H} {P : Program} {W : World} {base : Nat} {spare : Nat → Bool} {held : Bool}
theorem ksFs_ok {rec_ : TypeId → Option (List Lf)} {m : Nat} (hr : ∀ {t : TypeId} {ks : List Lf} {cs : List Value} {x : DataW H × List MemPlace}, rec_ t = some ks → DataW.trod enc P W base spare held m t cs = some x → LfsOk ks cs) {cs : List Value} :
    ∀ {fs : List Field} {o : Nat} {ks : List Lf}, ksFs P rec_ fs o = some ks → (∀ f ∈ fs, ∃ y, DataW.trod enc P W base spare held m f.type ((cs.drop f.offset).take (P.cellsOf f.type)) = some y) → o + ks.length ≤ cs.length → LfsOk ks ((cs.drop o).take ks.length)
  | [], o, ks, h, _, _ => by
    obtain rfl := Option.some.inj h
    simp [LfsOk]
  | f :: fs, o, ks, h, hy, hl => by
    unfold ksFs at h
    split at h
    · rename_i k1 l1 h1 h2 h3
      split at h
      · rename_i h4
        obtain rfl := Option.some.inj h
        have ho := Nat.eq_of_beq_eq_true h1
        have hc := Nat.eq_of_beq_eq_true h4
        obtain ⟨y, hy0⟩ := hy f (List.mem_cons_self ..)
        rw [ho, hc] at hy0
        have a1 := hr h2 hy0
        rw [hc] at h3
        simp only [List.length_append] at hl
        have a2 := ksFs_ok hr h3 (fun g hg => hy g (List.mem_cons_of_mem _ hg)) (by omega)
        have e : (cs.drop o).take (k1 ++ l1).length = (cs.drop o).take k1.length ++ (cs.drop (o + k1.length)).take l1.length := by
          rw [List.length_append, List.take_add, List.drop_drop]
        rw [e]
        exact a1.append a2
      · cases h
    · cases h
theorem ksOf_ok : ∀ {n : Nat} {t : TypeId} {ks : List Lf} {m : Nat} {cs : List Value} {x : DataW H × List MemPlace}, ksOf P n t = some ks → DataW.trod enc P W base spare held m t cs = some x → LfsOk ks cs
  | 0, _, _, _, _, _, h, _ => by cases h
  | n + 1, t, ks, m, cs, x, h, hx => by
    unfold ksOf at h
    split at h
    · rename_i k hu
      obtain rfl := Option.some.inj h
      obtain ⟨z, rfl, _, hw⟩ := DataW.trod_int hu hx
      exact ⟨⟨z, rfl, hw⟩, trivial⟩
    · rename_i hu
      obtain rfl := Option.some.inj h
      obtain ⟨b, rfl, _⟩ := DataW.trod_bool hu hx
      exact ⟨⟨b, rfl⟩, trivial⟩
    · rename_i fs hu
      split at h
      · rename_i ks' hk
        split at h
        · rename_i hc
          obtain rfl := Option.some.inj h
          have hc := Nat.eq_of_beq_eq_true hc
          obtain ⟨xs, k, _, _, hl, hlen, hf⟩ := DataW.trod_struct hu hx
          have := ksFs_ok (m := k) (cs := cs) (fun h1 h2 => ksOf_ok h1 h2) hk (fun f hfm => by
            obtain ⟨i, hi, hif⟩ := List.getElem_of_mem hfm
            have hi' : i < fs.size := by simpa using hi
            have e := hf i f (by rw [Array.getElem?_eq_getElem hi']; simpa using hif)
            rw [List.getElem?_eq_getElem (by omega)] at e
            exact ⟨_, e⟩) (by omega)
          rw [List.drop_zero, List.take_of_length_le (by omega)] at this
          exact this
        · cases h
      · cases h
    · cases h
/-- A struct of numbers, by value. -/
theorem open_struct {r : Reach} {b0 : Nat} {t : TypeId} {fs : Array Field} {n : Nat} {ks : List Lf} {v : Value} {d : DataW H} {p : List MemPlace} (hs : P.underlying t = some (.struct fs)) (hk : ksOf P n t = some ks)
    (hv : Value.okWide P W r b0 t v) (h : DataW.Trod enc P W base spare held t v d p) : ∃ cs, v = .agg ⟨cs⟩ ∧ LfsOk ks cs := by
  obtain ⟨cs, rfl, _⟩ := okWide_struct hs hv
  obtain ⟨fuel, hf⟩ := h
  obtain ⟨cs⟩ := cs
  exact ⟨cs, rfl, ksOf_ok hk hf⟩
/-- A slice of such. -/
theorem open_rows {r : Reach} {b0 : Nat} {t e : TypeId} {n : Nat} {ks : List Lf} {v : Value} {d : DataW H} {p : List MemPlace} (hs : P.underlying t = some (.slice e)) (hk : ksOf P n e = some ks) (hc : P.cellsOf e = ks.length) (hpos : 0 < ks.length)
    (hv : Value.okWide P W r b0 t v) (h : DataW.Trod enc P W 0 (fun _ => true) held t v d p) :
    ∃ (A : Option Addr) (m c : Nat) (rows : List (List Value)), v = .slice A m c ∧ RdS W ks.length A m rows ∧ ∀ x ∈ rows, LfsOk ks x := by
  obtain ⟨A, m, c, rfl⟩ := okWide_slice hs hv
  obtain ⟨fuel, hf⟩ := h
  refine ⟨A, m, c, ?_⟩
  rcases Go.Deep.open_slice hs hf with ⟨h1, _⟩ | ⟨a, len, cap, m', k, D, Pl, h1, _, hlc, _, hm, _, hi⟩
  · simp only [Value.cells, List.cons.injEq, Value.slice.injEq, and_true] at h1
    obtain ⟨rfl, rfl, rfl⟩ := h1
    exact ⟨[], rfl, RdS.nil _ _ _, fun x hx => (List.not_mem_nil hx).elim⟩
  · simp only [Value.cells, List.cons.injEq, Value.slice.injEq, and_true] at h1
    obtain ⟨rfl, rfl, rfl⟩ := h1
    simp only [if_true] at hm
    subst hm
    rw [hc] at hi
    have key : ∀ i, i < m → ∃ y : List Value, LfsOk ks y ∧ ∀ j u, y[j]? = some u → W.cell? ((a.add (i * ks.length)).add j) = some u := fun i hin => by
      obtain ⟨cs, hc, ht⟩ := hi i (by omega)
      obtain ⟨_, hlc, hat⟩ := World.cells?_some hc
      exact ⟨cs, ksOf_ok hk ht, fun j u hu => by rw [hat j (by rw [← hlc]; exact (List.getElem?_eq_some_iff.1 hu).1)]; exact hu⟩
    let f : Nat → List Value := fun i => if h : i < m then Classical.choose (key i h) else []
    have hfk : ∀ i, i < m → LfsOk ks (f i) ∧ ∀ j u, (f i)[j]? = some u → W.cell? ((a.add (i * ks.length)).add j) = some u := fun i hin => by
      simp only [f, dif_pos hin]
      exact Classical.choose_spec (key i hin)
    have hmem : ∀ x ∈ (List.range m).map f, LfsOk ks x := fun x hx => by
      obtain ⟨i, hi, rfl⟩ := List.mem_map.1 hx
      exact (hfk i (List.mem_range.1 hi)).1
    refine ⟨(List.range m).map f, rfl, ⟨by simp, fun h0 => ?_⟩, hmem⟩
    have l0 := (hfk 0 h0).1.len
    have c0 := (hfk 0 h0).2 0 _ (List.getElem?_eq_getElem (by omega))
    obtain ⟨b, o, sp⟩ := a
    have hsp : sp = none := by simpa [Addr.add] using World.cell?_spot c0
    subst hsp
    refine ⟨b, o, rfl, by simpa [Addr.add] using cell_lt c0, fun i x hx => ⟨(hmem x (List.mem_of_getElem? hx)).len, fun j u hu => ?_⟩⟩
    rw [List.getElem?_map, Option.map_eq_some_iff] at hx
    obtain ⟨i', h2, rfl⟩ := hx
    obtain ⟨h3, h4⟩ := List.getElem?_eq_some_iff.1 h2
    simp only [List.getElem_range, List.length_range] at h3 h4
    subst h4
    have := (hfk i h3).2 j u hu
    rw [add_eq, add_eq] at this
    exact this
end
theorem rows_ofP {α : Type} {f : α → List Value} {p : α → Prop} : ∀ {rows : List (List Value)}, (∀ x ∈ rows, ∃ y, x = f y ∧ p y) → ∃ l : List α, rows = l.map f ∧ ∀ y ∈ l, p y
  | [], _ => ⟨[], rfl, fun y hy => (List.not_mem_nil hy).elim⟩
  | x :: rows, h => by
    obtain ⟨y, rfl, hy⟩ := h x (List.mem_cons_self ..)
    obtain ⟨l, rfl, hl⟩ := rows_ofP (fun z hz => h z (List.mem_cons_of_mem _ hz))
    exact ⟨y :: l, rfl, fun z hz => by rcases List.mem_cons.1 hz with rfl | hz; exact hy; exact hl z hz⟩
end Go.Proofs.Ytmlmgipngbndgaa
namespace Go.Proofs.Ytmlmgipngbndgaa
open Go.RowKit
attribute [local irreducible] OQ OS OX Rd T TL GX GL AL AI RV wpG SAny Calls
theorem sameInts_calls (A A' : Option Addr) (n c n' c' : Nat) (l m : List Int) (q : Bool) (hq : q = true ↔ l = m) (w : World) (hr : RdS w 1 A n (l.map inCells)) (hr' : RdS w 1 A' n' (m.map inCells)) (hn : n ≤ 1000000) (hn' : n' ≤ 1000000) :
    Calls Try.prog 32 #[.slice A n c, .slice A' n' c'] w fun e w' => e = .returned (.bool q) ∧ Ext w w' := by
  have hl := hr.len
  have hl' := hr'.len
  simp only [List.length_map] at hl hl'
  by_cases hnn : n = n'
  · subst hnn
    refine enterQ (c := cx w 26) Try.func32 rfl rfl rfl rfl ?_
    repeat' (first | ((with_reducible apply oq_id); first | (apply oq_fn; exact rfl; try first | exact trivial | (and_intros <;> omega))) | ((with_reducible apply tl_id); first | (with_reducible apply tl_nil) | ((with_reducible apply u_q); (iterate 4 exact rfl))) | ((with_reducible apply t_id); first | (with_reducible apply t_seq) | (apply t_region; kernel_rfl) | ((with_reducible apply t_condN); exact rfl; all_goals first | (intro hp; try (exfalso; omega)) | skip) | (with_reducible apply t_skip) | (with_reducible apply t_block)) | with_reducible apply q_thenN)
    apply t_loopK (ι := Nat) [0, 1] (fun k => [(5, .int .i64 (k : Nat))]) (fun _ => []) (fun k => k ≤ n ∧ ∀ j, j < k → l[j]? = m[j]?) (fun k => n - k) (0)
    (repeat (first | exact KeepF.nil | (apply KeepF.cons; exact rfl) | apply KeepF.skip))
    (repeat (first | exact FrSub.nil | (apply FrSub.cons; exact rfl)))
    (repeat (first | exact HpSub.refl _ | (apply HpSub.consE; (repeat (first | exact P0 | apply P1)); exact rfl) | exact HpSub.nil))
    · exact ⟨by omega, fun j hj => by omega⟩
    rintro k ⟨hk, hkp⟩
    try simp only [List.cons_append, List.nil_append]
    by_cases hlt : k < n
    · obtain ⟨b, o, x, rfl, _, hx, c0⟩ := in_read hr hlt
      obtain ⟨b', o', y, rfl, _, hy, d0⟩ := in_read hr' hlt
      by_cases hxy : x = y
      · subst hxy
        repeat' (first | ((with_reducible apply oq_id); first | (focus ((with_reducible apply oq_indexAddrN); (iterate 4 exact rfl); omega)) | (apply oq_fn; exact rfl; try first | exact trivial | (and_intros <;> omega)) | ((with_reducible apply oq_load); exact rfl; exact rfl)) | ((with_reducible apply tl_id); first | (with_reducible apply tl_nil) | ((with_reducible apply u_q); (iterate 4 exact rfl))) | ((with_reducible apply gx_id); first | (with_reducible apply v_nil) | ((with_reducible apply v_q); (iterate 3 exact rfl))) | ((with_reducible apply rd_id); first | (apply Rd.old; (first | (with_reducible assumption) | exact c0 | exact c1 | exact c2 | exact c3 | exact c4 | exact c5 | exact c6 | exact c7 | exact c8 | exact d0 | exact d1 | exact d2 | exact d3 | exact d4 | exact d5); first | exact List.not_mem_nil | exact m0 | exact m1 | exact m2 | exact m3 | exact m4 | exact m5 | exact m6 | exact m7 | exact m8 | exact m9)) | ((with_reducible apply t_id); first | (with_reducible apply t_seq) | (apply t_region; kernel_rfl) | (apply t_drawn; kernel_rfl; decide +kernel; try simp only [List.append_eq, List.cons_append, List.nil_append]) | ((with_reducible apply t_condD); exact rfl; all_goals first | (intro hp; try (exfalso; omega)) | skip) | ((with_reducible apply t_condN); exact rfl; all_goals first | (intro hp; try (exfalso; omega)) | skip) | (with_reducible apply t_skip) | (with_reducible apply t_block)) | with_reducible apply q_thenN | with_reducible apply q_blockN)
        refine ⟨k + 1, ⟨by omega, fun j hj => ?_⟩, by omega, ?_, ?_⟩
        · rcases Nat.lt_or_ge j k with h | h
          · exact hkp j h
          · obtain rfl : j = k := by omega
            rw [hx, hy]
        · try simp only [List.cons_append, List.nil_append]
          (repeat' (first | exact FrSub.nil | (apply FrSub.cons; exact rfl)))
        · try simp only [List.cons_append, List.nil_append]
          (repeat' (first | exact HpSub.refl _))
      · repeat' (first | ((with_reducible apply oq_id); first | (focus ((with_reducible apply oq_indexAddrN); (iterate 4 exact rfl); omega)) | (apply oq_fn; exact rfl; try first | exact trivial | (and_intros <;> omega)) | ((with_reducible apply oq_load); exact rfl; exact rfl)) | ((with_reducible apply tl_id); first | (with_reducible apply tl_nil) | ((with_reducible apply u_q); (iterate 4 exact rfl))) | ((with_reducible apply gx_id); first | (with_reducible apply v_nil) | ((with_reducible apply v_q); (iterate 3 exact rfl))) | ((with_reducible apply rd_id); first | (apply Rd.old; (first | (with_reducible assumption) | exact c0 | exact c1 | exact c2 | exact c3 | exact c4 | exact c5 | exact c6 | exact c7 | exact c8 | exact d0 | exact d1 | exact d2 | exact d3 | exact d4 | exact d5); first | exact List.not_mem_nil | exact m0 | exact m1 | exact m2 | exact m3 | exact m4 | exact m5 | exact m6 | exact m7 | exact m8 | exact m9)) | ((with_reducible apply t_id); first | (with_reducible apply t_seq) | (apply t_region; kernel_rfl) | (apply t_drawn; kernel_rfl; decide +kernel; try simp only [List.append_eq, List.cons_append, List.nil_append]) | ((with_reducible apply t_condD); exact rfl; all_goals first | (intro hp; try (exfalso; omega)) | skip) | ((with_reducible apply t_condN); exact rfl; all_goals first | (intro hp; try (exfalso; omega)) | skip) | (with_reducible apply t_ret) | (with_reducible apply t_skip) | (with_reducible apply t_block)) | with_reducible apply q_thenN | with_reducible apply q_thenR | with_reducible apply q_blockR | (with_reducible apply end_ret) | exact rvs_nil | (with_reducible apply rvs_cons) | ((with_reducible apply rv_tmp); exact rfl))
        have hf : q = false := by
          cases q with
          | false => rfl
          | true =>
            have e := hq.1 rfl
            rw [e, hy] at hx
            exact absurd (Option.some.inj hx).symm hxy
        rw [hf]; rfl
    · repeat' (first | ((with_reducible apply oq_id); first | (apply oq_fn; exact rfl; try first | exact trivial | (and_intros <;> omega))) | ((with_reducible apply tl_id); first | (with_reducible apply tl_nil) | ((with_reducible apply u_q); (iterate 4 exact rfl))) | ((with_reducible apply t_id); first | (with_reducible apply t_seq) | (apply t_region; kernel_rfl) | ((with_reducible apply t_condD); exact rfl; all_goals first | (intro hp; try (exfalso; omega)) | skip) | (with_reducible apply t_ret) | (with_reducible apply t_exit)) | with_reducible apply q_thenN | with_reducible apply q_thenE | ((with_reducible apply q_blockE); exact rfl) | (with_reducible apply end_ret) | exact rvs_nil | (with_reducible apply rvs_cons) | ((with_reducible apply rv_tmp); exact rfl))
      have : q = true := hq.2 (List.ext_getElem? fun j => by
        rcases Nat.lt_or_ge j n with h | h
        · exact hkp j (by omega)
        · rw [List.getElem?_eq_none (by omega), List.getElem?_eq_none (by omega)])
      rw [this]; rfl
  · have : q = false := by
      cases q with
      | false => rfl
      | true => exact absurd (by rw [← hl, ← hl', hq.1 rfl]) hnn
    refine enterQ (c := cx w 26) Try.func32 rfl rfl rfl rfl ?_
    repeat' (first | ((with_reducible apply oq_id); first | (apply oq_fn; exact rfl; try first | exact trivial | (and_intros <;> omega))) | ((with_reducible apply tl_id); first | (with_reducible apply tl_nil) | ((with_reducible apply u_q); (iterate 4 exact rfl))) | ((with_reducible apply t_id); first | (with_reducible apply t_seq) | (apply t_region; kernel_rfl) | ((with_reducible apply t_condN); exact rfl; all_goals first | (intro hp; try (exfalso; omega)) | skip) | (with_reducible apply t_ret)) | with_reducible apply q_thenN | with_reducible apply q_thenR | (with_reducible apply end_ret) | exact rvs_nil | (with_reducible apply rvs_cons) | ((with_reducible apply rv_tmp); exact rfl))
    rw [this]
    all_goals rfl
theorem in_len (l : List Int) : ∀ r ∈ l.map inCells, r.length = 1 := by simp only [List.mem_map]; rintro r ⟨x, _, rfl⟩; rfl
theorem in_own {w0 : World} {M : Ms} {H H' : Hp} {w : World} {g n : Nat} {l : List Int} {tg : Tg} (hl : l.length = n) (h : Has w0 M H w) (q : Pick H g (l.map inCells).flatten tg H') : RdS w 1 (some ⟨g, 0, none⟩) n (l.map inCells) :=
  Blk.rows (h.blk _ q.mem).2 (by simpa using hl) (in_len l)
def InsY (pl : List Int) (V : Value) (H : Hp) : Prop := ∃ o, (o = none → pl = []) ∧ V = .tuple #[planS pl o, .int .i64 0] ∧ H = planH pl o
theorem insY {E : Int} {pl : List Int} {V : Value} {H : Hp} (he : E = 0) (h : InsO E pl V H) : InsY pl V H := by
  rcases h with ⟨h, _⟩ | ⟨_, h⟩
  · exact absurd he h
  · exact h
theorem hp_skipApp {G R X : Hp} (h : HpSub R X) : HpSub (G ++ R) X := by
  induction G with
  | nil => exact h
  | cons x G ih => exact HpSub.skipX ih
theorem hp_appC {A H G : Hp} (h : HpSub H G) : HpSub (A ++ H) (A ++ G) := by
  induction A with
  | nil => exact h
  | cons x A ih => obtain ⟨b, C, g⟩ := x; exact HpSub.cons P0 ih
end Go.Proofs.Ytmlmgipngbndgaa
namespace Go.Proofs.Ytmlmgipngbndgaa
open Go.RowKit
attribute [local irreducible] TR OQ OS OX Rd T TL GX GL AL AI RV wpG SAny Calls
def off0 : Off := ⟨0, 60, 25, 0, 0, [], []⟩
def dl9 : List Deal := [⟨1, 0, 2, 400, 100⟩, ⟨2, 0, 0, 0, 0⟩, ⟨2, 0, 0, 0, 0⟩, ⟨2, 0, 0, 0, 0⟩, ⟨3, 0, 0, 0, 0⟩, ⟨6, 50, 0, 0, 0⟩, ⟨3, 1, 0, 0, 0⟩, ⟨6, 50, 0, 0, 0⟩, ⟨4, 0, 0, 0, 0⟩]
def off9 : Off := ⟨100, 60, 25, 1200, 700, [⟨2, 400, 100, 1⟩], [⟨0, 4, 0⟩, ⟨0, 4, 100⟩, ⟨0, 3, 0⟩]⟩
theorem play9 : playV off0 dl9 = (off9, 0, 0) := by kernel_rfl
theorem purse9 : purseS off9 = (0, 400, 100, 700, 0) := by kernel_rfl
theorem insE5 : insE 100 10 30 [20, 15, 60, 45, 30] = 0 := by kernel_rfl
theorem insV5 : insV 100 10 30 [20, 15, 60, 45, 30] = [2, 4] := by kernel_rfl
theorem duty0 (w : World) : Calls Try.prog 56 #[] w fun e w' => e = .returned (.agg #[.int .i64 600, .int .i64 500, .int .i64 2000, .int .i64 1000]) ∧ Ext w w' := by
  refine enterQ (c := cx w 2) Try.func56 rfl rfl rfl rfl ?_
  repeat' (first | ((with_reducible apply oq_build); (iterate 3 exact rfl)) | ((with_reducible apply tl_id); first | (with_reducible apply tl_nil) | ((with_reducible apply u_q); (iterate 4 exact rfl)) | ((with_reducible apply u_s0); exact rfl; exact rfl) | ((with_reducible apply u_s); (iterate 3 exact rfl))) | ((with_reducible apply os_id); first | ((with_reducible apply os_x); exact rfl) | ((with_reducible apply os_storeAgg); (iterate 5 exact rfl))) | ((with_reducible apply ox_alloc); exact rfl; intro _) | ((with_reducible apply rd_id); first | (apply Rd.own; (repeat (first | exact P0 | apply P1)); exact rfl; done)) | ((with_reducible apply t_id); first | (with_reducible apply t_seq) | (apply t_region; kernel_rfl) | (with_reducible apply t_ret)) | with_reducible apply q_thenN | exact P0 | exact Rdn.zero | apply Rdn.succ | ((with_reducible apply Norm.nil); exact rfl) | ((with_reducible apply Norm.cons); exact rfl) | (with_reducible apply end_ret) | exact rvs_nil | (with_reducible apply rvs_cons) | ((with_reducible apply rv_cellAgg); exact rfl; exact rfl) | exact Nat.le_of_ble_eq_true rfl)
  all_goals rfl
theorem care0 (w : World) : Calls Try.prog 58 #[] w fun e w' => e = .returned (.agg #[.int .i64 100, .int .i64 10, .int .i64 30]) ∧ Ext w w' := by
  refine enterQ (c := cx w 2) Try.func58 rfl rfl rfl rfl ?_
  repeat' (first | ((with_reducible apply oq_build); (iterate 3 exact rfl)) | ((with_reducible apply tl_id); first | (with_reducible apply tl_nil) | ((with_reducible apply u_q); (iterate 4 exact rfl)) | ((with_reducible apply u_s0); exact rfl; exact rfl) | ((with_reducible apply u_s); (iterate 3 exact rfl))) | ((with_reducible apply os_id); first | ((with_reducible apply os_x); exact rfl) | ((with_reducible apply os_storeAgg); (iterate 5 exact rfl))) | ((with_reducible apply ox_alloc); exact rfl; intro _) | ((with_reducible apply rd_id); first | (apply Rd.own; (repeat (first | exact P0 | apply P1)); exact rfl; done)) | ((with_reducible apply t_id); first | (with_reducible apply t_seq) | (apply t_region; kernel_rfl) | (with_reducible apply t_ret)) | with_reducible apply q_thenN | exact P0 | exact Rdn.zero | apply Rdn.succ | ((with_reducible apply Norm.nil); exact rfl) | ((with_reducible apply Norm.cons); exact rfl) | (with_reducible apply end_ret) | exact rvs_nil | (with_reducible apply rvs_cons) | ((with_reducible apply rv_cellAgg); exact rfl; exact rfl) | exact Nat.le_of_ble_eq_true rfl)
  all_goals rfl
theorem office0 (w : World) : Calls Try.prog 60 #[] w fun e w' => e = .returned (.agg ⟨offCells off0 none 0 none 0⟩) ∧ Ext w w' := by
  refine enterQ (c := cx w 2) Try.func60 rfl rfl rfl rfl ?_
  repeat' (first | ((with_reducible apply oq_build); (iterate 3 exact rfl)) | ((with_reducible apply tl_id); first | (with_reducible apply tl_nil) | ((with_reducible apply u_q); (iterate 4 exact rfl)) | ((with_reducible apply u_s0); exact rfl; exact rfl) | ((with_reducible apply u_s); (iterate 3 exact rfl))) | ((with_reducible apply os_id); first | ((with_reducible apply os_x); exact rfl) | ((with_reducible apply os_storeAgg); (iterate 5 exact rfl))) | ((with_reducible apply ox_alloc); exact rfl; intro _) | ((with_reducible apply rd_id); first | (apply Rd.own; (repeat (first | exact P0 | apply P1)); exact rfl; done)) | ((with_reducible apply t_id); first | (with_reducible apply t_seq) | (apply t_region; kernel_rfl) | (with_reducible apply t_ret)) | with_reducible apply q_thenN | exact P0 | exact Rdn.zero | apply Rdn.succ | ((with_reducible apply Norm.nil); exact rfl) | ((with_reducible apply Norm.cons); exact rfl) | (with_reducible apply end_ret) | exact rvs_nil | (with_reducible apply rvs_cons) | ((with_reducible apply rv_cellAgg); exact rfl; exact rfl) | exact Nat.le_of_ble_eq_true rfl)
  all_goals rfl
def ros0V (v : Value) (H : Hp) : Prop := ∃ b, v = .slice (some ⟨b, 0, none⟩) 3 3 ∧ H = [(b, roC, some (101, 3, 3))]
theorem ros0_T (w : World) : Calls Try.prog 57 #[] w fun e w' => ∃ v H', e = .returned v ∧ ros0V v H' ∧ Has w ⟨[], []⟩ H' w' := by
  refine enterF (c := cx w 5) Try.func57 rfl rfl rfl rfl ?_
  repeat' (first | ((with_reducible apply oq_id); first | (apply oq_fn; exact rfl; try first | exact trivial | (and_intros <;> omega)) | ((with_reducible apply oq_build); (iterate 3 exact rfl))) | ((with_reducible apply tl_id); first | (with_reducible apply tl_nil) | ((with_reducible apply u_q); (iterate 4 exact rfl)) | ((with_reducible apply u_s); (iterate 3 exact rfl))) | ((with_reducible apply os_x); exact rfl) | ((with_reducible apply ox_buildSlice); (iterate 4 exact rfl)) | ((with_reducible apply t_id); first | (with_reducible apply t_seq) | (apply t_region; kernel_rfl) | (with_reducible apply t_ret)) | with_reducible apply q_thenN | ((with_reducible apply Norm.nil); exact rfl) | ((with_reducible apply Norm.cons); exact rfl) | (with_reducible apply end_ret) | exact rvs_nil | (with_reducible apply rvs_cons) | ((with_reducible apply rv_tmp); exact rfl) | exact (rfl : (_ : Bool) = true) | (intro _; with_reducible apply tl_id))
  all_goals exact ⟨_, ⟨_, rfl, rfl⟩, HpSub.refl _⟩
def fli0V (v : Value) (H : Hp) : Prop := ∃ b, v = .slice (some ⟨b, 0, none⟩) 5 5 ∧ H = [(b, [.int .i64 20, .int .i64 15, .int .i64 60, .int .i64 45, .int .i64 30], some (3, 1, 5))]
theorem fli0_T (w : World) : Calls Try.prog 59 #[] w fun e w' => ∃ v H', e = .returned v ∧ fli0V v H' ∧ Has w ⟨[], []⟩ H' w' := by
  refine enterF (c := cx w 2) Try.func59 rfl rfl rfl rfl ?_
  repeat' (first | ((with_reducible apply oq_id); first | (apply oq_fn; exact rfl; try first | exact trivial | (and_intros <;> omega))) | ((with_reducible apply tl_id); first | (with_reducible apply tl_nil) | ((with_reducible apply u_q); (iterate 4 exact rfl)) | ((with_reducible apply u_s); (iterate 3 exact rfl))) | ((with_reducible apply os_x); exact rfl) | ((with_reducible apply ox_buildSlice1); (iterate 6 exact rfl); intro _) | ((with_reducible apply t_id); first | (with_reducible apply t_seq) | (apply t_region; kernel_rfl) | (with_reducible apply t_ret)) | with_reducible apply q_thenN | (with_reducible apply end_ret) | exact rvs_nil | (with_reducible apply rvs_cons) | ((with_reducible apply rv_tmp); exact rfl))
  all_goals exact ⟨_, ⟨_, rfl, rfl⟩, HpSub.refl _⟩
def dealC : List Value := [.int .u8 1, .int .i64 0, .int .i64 2, .int .i64 400, .int .i64 100, .int .u8 2, .int .i64 0, .int .i64 0, .int .i64 0, .int .i64 0, .int .u8 2, .int .i64 0, .int .i64 0, .int .i64 0, .int .i64 0, .int .u8 2, .int .i64 0, .int .i64 0, .int .i64 0, .int .i64 0, .int .u8 3, .int .i64 0, .int .i64 0, .int .i64 0, .int .i64 0, .int .u8 6, .int .i64 50, .int .i64 0, .int .i64 0, .int .i64 0, .int .u8 3, .int .i64 1, .int .i64 0, .int .i64 0, .int .i64 0, .int .u8 6, .int .i64 50, .int .i64 0, .int .i64 0, .int .i64 0, .int .u8 4, .int .i64 0, .int .i64 0, .int .i64 0, .int .i64 0]
def dea0V (v : Value) (H : Hp) : Prop := ∃ b, v = .slice (some ⟨b, 0, none⟩) 9 9 ∧ H = [(b, dealC, some (63, 5, 9))]
theorem dea0_T (w : World) : Calls Try.prog 61 #[] w fun e w' => ∃ v H', e = .returned v ∧ dea0V v H' ∧ Has w ⟨[], []⟩ H' w' := by
  refine enterF (c := cx w 11) Try.func61 rfl rfl rfl rfl ?_
  repeat' (first | ((with_reducible apply oq_id); first | (apply oq_fn; exact rfl; try first | exact trivial | (and_intros <;> omega)) | ((with_reducible apply oq_build); (iterate 3 exact rfl))) | ((with_reducible apply tl_id); first | (with_reducible apply tl_nil) | ((with_reducible apply u_q); (iterate 4 exact rfl)) | ((with_reducible apply u_s); (iterate 3 exact rfl))) | ((with_reducible apply os_x); exact rfl) | ((with_reducible apply ox_buildSlice); (iterate 4 exact rfl)) | ((with_reducible apply t_id); first | (with_reducible apply t_seq) | (apply t_region; kernel_rfl) | (with_reducible apply t_ret)) | with_reducible apply q_thenN | ((with_reducible apply Norm.nil); exact rfl) | ((with_reducible apply Norm.cons); exact rfl) | (with_reducible apply end_ret) | exact rvs_nil | (with_reducible apply rvs_cons) | ((with_reducible apply rv_tmp); exact rfl) | exact (rfl : (_ : Bool) = true) | (intro _; with_reducible apply tl_id))
  all_goals exact ⟨_, ⟨_, rfl, rfl⟩, HpSub.refl _⟩
section
variable {w : World} {N : Nat} {F : Fr} {H : Hp} {M : List Nat} {d : Option Tmp} {ty t' : TypeId} {pos : String} {af : Array Edge} {g : Option (Nat × Bool)} {x y : Operand} {a b e a' b' e' : Int}
theorem eq_ti {d : Nat} : (Op.equalIn (d + 2) 99 (.agg ⟨[.int .i64 a, .int .i64 b, .int .i64 e]⟩) (.agg ⟨[.int .i64 a', .int .i64 b', .int .i64 e']⟩)).run Try.prog w = .ok (decide (a = a') && (decide (b = b') && (decide (e = e') && true))) w := by
  rw [run_equalIn_struct w (d + 1) 99 _ _ (by kernel_rfl) (by kernel_rfl)]
  simp only [Program.fieldsOf, Try.underlying99]
  exact eqF_int rfl rfl rfl rfl rfl (eqF_int rfl rfl rfl rfl rfl (eqF_int rfl rfl rfl rfl rfl eqF_nil))
theorem oq_ne99F (hx : ev F x = some (.agg ⟨[.int .i64 a, .int .i64 b, .int .i64 e]⟩)) (hy : ev F y = some (.agg ⟨[.int .i64 a, .int .i64 b, .int .i64 e]⟩)) : OQ (cxM M w N) ⟨d, .binOp .neq 99 x y t', ty, pos, af, g⟩ F H (.bool false) :=
  (oq_neS (q := true) (by kernel_rfl) (fun w => by rw [eq_ti (d := 9998)]; simp) hx hy).as (by simp)
end
theorem sameTi (g cp b cp2 : Nat) (w : World) (c0 : w.cell? ⟨g, 0, none⟩ = some (.int .i64 3)) (c1 : w.cell? ⟨g, 1, none⟩ = some (.int .i64 0)) (c2 : w.cell? ⟨g, 2, none⟩ = some (.int .i64 0)) (c3 : w.cell? ⟨g, 3, none⟩ = some (.int .i64 2)) (c4 : w.cell? ⟨g, 4, none⟩ = some (.int .i64 0)) (c5 : w.cell? ⟨g, 5, none⟩ = some (.int .i64 1000)) (d0 : w.cell? ⟨b, 0, none⟩ = some (.int .i64 3)) (d1 : w.cell? ⟨b, 1, none⟩ = some (.int .i64 0)) (d2 : w.cell? ⟨b, 2, none⟩ = some (.int .i64 0)) (d3 : w.cell? ⟨b, 3, none⟩ = some (.int .i64 2)) (d4 : w.cell? ⟨b, 4, none⟩ = some (.int .i64 0)) (d5 : w.cell? ⟨b, 5, none⟩ = some (.int .i64 1000)) : Calls Try.prog 48 #[.slice (some ⟨g, 0, none⟩) 2 cp, .slice (some ⟨b, 0, none⟩) 2 cp2] w fun e w' => e = .returned (.bool true) ∧ Ext w w' := by
  refine enterQ (c := cx w 26) Try.func48 rfl rfl rfl rfl ?_
  repeat' (first | ((with_reducible apply oq_id); first | ((with_reducible apply oq_lssT); exact rfl; exact rfl; omega) | ((with_reducible apply oq_lssF); exact rfl; exact rfl; omega) | ((with_reducible apply oq_neqF); exact rfl; exact rfl; omega) | ((with_reducible apply oq_ne99F); exact rfl; exact rfl) | (apply oq_fn; exact rfl; try first | exact trivial | (and_intros <;> omega)) | ((with_reducible apply oq_loadAgg); exact rfl; exact rfl)) | ((with_reducible apply tl_id); first | (with_reducible apply tl_nil) | ((with_reducible apply u_q); (iterate 4 exact rfl))) | ((with_reducible apply gx_id); first | (with_reducible apply v_nil) | ((with_reducible apply v_q); (iterate 3 exact rfl))) | ((with_reducible apply rd_id); first | (apply Rd.old; (first | (with_reducible assumption) | exact c0 | exact c1 | exact c2 | exact c3 | exact c4 | exact c5 | exact c6 | exact c7 | exact c8 | exact d0 | exact d1 | exact d2 | exact d3 | exact d4 | exact d5); first | exact List.not_mem_nil | exact m0 | exact m1 | exact m2 | exact m3 | exact m4 | exact m5 | exact m6 | exact m7 | exact m8 | exact m9)) | ((with_reducible apply t_id); first | (with_reducible apply t_seq) | (apply t_region; kernel_rfl) | (apply t_drawn; kernel_rfl; decide +kernel; try simp only [List.append_eq, List.cons_append, List.nil_append]) | ((with_reducible apply t_condT); exact rfl) | ((with_reducible apply t_condF); exact rfl) | (with_reducible apply t_ret) | (with_reducible apply t_skip) | (with_reducible apply t_exit) | (with_reducible apply t_block) | (apply t_rounds 8)) | with_reducible apply q_thenN | with_reducible apply q_blockN | with_reducible apply q_thenE | ((with_reducible apply q_blockE); exact rfl) | exact Rdn.zero | apply Rdn.succ | (with_reducible apply end_ret) | exact rvs_nil | (with_reducible apply rvs_cons) | ((with_reducible apply rv_tmp); exact rfl) | ((with_reducible apply tr_id); apply tr_succ))
  all_goals rfl
theorem nilF (w : World) : RdS w 4 none off0.fl.length (off0.fl.map depCells) := ⟨rfl, fun h => absurd h (by decide)⟩
theorem nilB (w : World) : RdS w 3 none off0.bk.length (off0.bk.map bkCells) := ⟨rfl, fun h => absurd h (by decide)⟩
theorem ins5_T (A : Option Addr) (c : Nat) (w : World) (hr : RdS w 1 A 5 (([20, 15, 60, 45, 30] : List Int).map inCells)) : Calls Try.prog 28 #[.agg #[.int .i64 100, .int .i64 10, .int .i64 30], .slice A 5 c] w fun e w' => ∃ v H', e = .returned v ∧ InsY [2, 4] v H' ∧ Has w ⟨[], []⟩ H' w' :=
  (inspect_T 100 10 30 A 5 c [20, 15, 60, 45, 30] w hr (by decide)).mono fun e w' ⟨v, H', h1, h2, h3⟩ => ⟨v, H', h1, by rw [insV5] at h2; exact insY insE5 h2, h3⟩
theorem play9_T (L : Option Addr) (cl : Nat) (w : World) (hL : RdS w 5 L 9 (dl9.map dealCells)) : Calls Try.prog 34 #[.agg ⟨offCells off0 none 0 none 0⟩, .slice L 9 cl] w fun e w' => ∃ v H', e = .returned v ∧ AnyP (off9, 0, 0) v H' ∧ Has w ⟨[], []⟩ H' w' := by
  rw [← play9]
  exact play_T off0 none 0 none 0 w (nilF w) (nilB w) (fun _ => ⟨rfl, rfl⟩) (fun _ => ⟨rfl, rfl⟩) (fun d hd => by cases hd) (by decide) (by decide) dl9 L 9 cl hL (by decide) (by decide)
theorem alive_calls (w : World) : Calls Try.prog 53 #[] w fun e w' => e = .returned (.bool true) ∧ Ext w w' := by
  refine enterQ (c := cx w 82) Try.func53 rfl rfl rfl rfl ?_
  refine t_cut (ι := Unit) (fun _ => []) (fun _ => []) (fun _ => True) ?_ ?_
  · repeat' (first | ((with_reducible apply oq_id); first | (apply oq_fn; exact rfl; try first | exact trivial | (and_intros <;> omega))) | ((with_reducible apply tl_id); first | (with_reducible apply tl_nil) | ((with_reducible apply u_q); (iterate 4 exact rfl))) | ((with_reducible apply t_id); first | (apply t_region; kernel_rfl)))
    all_goals exact ⟨rfl, (), trivial, by (repeat (first | exact FrSub.nil | (apply FrSub.cons; exact rfl))), by (repeat (first | exact HpSub.refl _ | (apply HpSub.consE; (repeat (first | exact P0 | apply P1)); exact rfl) | exact HpSub.nil))⟩
  rintro ⟨⟩ -
  refine t_cut (ι := Nat × Nat) (fun z => [(1, .slice (some ⟨z.1, 0, none⟩) 2 z.2), (2, .int .i64 0)]) (fun z => (z.1, tiC 2, some (99, 3, z.2)) :: []) (fun _ => True) ?_ ?_
  · repeat' (first | ((with_reducible apply oq_id); first | (apply oq_fn; exact rfl; try first | exact trivial | (and_intros <;> omega)) | ((with_reducible apply oq_call (k := 56) (hc := Try.call56)); exact rfl; exact rfl; exact fun D w1 hw1 => duty0 w1)) | ((with_reducible apply tl_id); first | (with_reducible apply tl_nil) | ((with_reducible apply u_s); (iterate 3 exact rfl); (with_reducible apply os_callF (PV := ros0V) (k := 57) (hc := Try.call57)); exact rfl; exact rfl; exact fun D w1 hw1 => ros0_T w1; rintro v H' ⟨br, rfl, rfl⟩; (simp only [List.cons_append, List.nil_append])) | ((with_reducible apply u_s); (iterate 3 exact rfl); (with_reducible apply os_callF (PV := fun v H => ∃ u, TiV u H ∧ v = .tuple #[u, .int .i64 0]) (k := 42) (hc := Try.call42)); exact rfl; exact rfl; exact fun D w1 hw1 => tiredT_T _ _ w1 (clH_rows (l := roV) (f := shCells) (x := some (br, 3)) (hw1.sub (show HpSub _ (clH 101 3 (roV.map shCells).flatten (some (br, 3))) from (by simp only [clH_some]; exact HpSub.cons P0 HpSub.nil))) (fun _ => rfl) rfl (fun h => by cases h)) (fun h => by cases h); rintro v H' ⟨u, ⟨g, cp, rfl, rfl⟩, rfl⟩; (simp only [List.cons_append, List.nil_append])) | ((with_reducible apply u_q); (iterate 4 exact rfl))) | ((with_reducible apply t_id); first | (apply t_region; kernel_rfl)))
    all_goals exact ⟨by trivial, (g, cp), trivial, by (repeat (first | exact FrSub.nil | (apply FrSub.cons; exact rfl))), by (repeat (first | exact HpSub.refl _ | (apply HpSub.consE; (repeat (first | exact P0 | apply P1)); exact rfl) | exact HpSub.nil))⟩
  rintro ⟨g, cp⟩ -
  simp only
  refine t_cut (ι := Nat × Nat) (fun z => [(1, .slice (some ⟨g, 0, none⟩) 2 cp), (2, .int .i64 0), (3, .slice (some ⟨z.1, 0, none⟩) 2 z.2), (4, .int .i64 0)]) (fun z => (z.1, [.int .i64 2, .int .i64 4], some (3, 1, z.2)) :: (g, tiC 2, some (99, 3, cp)) :: []) (fun _ => True) ?_ ?_
  · repeat' (first | ((with_reducible apply oq_id); first | (apply oq_fn; exact rfl; try first | exact trivial | (and_intros <;> omega)) | ((with_reducible apply oq_call (k := 58) (hc := Try.call58)); exact rfl; exact rfl; exact fun D w1 hw1 => care0 w1)) | ((with_reducible apply tl_id); first | (with_reducible apply tl_nil) | ((with_reducible apply u_s); (iterate 3 exact rfl); (with_reducible apply os_callF (PV := fli0V) (k := 59) (hc := Try.call59)); exact rfl; exact rfl; exact fun D w1 hw1 => fli0_T w1; rintro v H' ⟨bf, rfl, rfl⟩; (simp only [List.cons_append, List.nil_append])) | ((with_reducible apply u_s); (iterate 3 exact rfl); (with_reducible apply os_callF (PV := InsY [2, 4]) (k := 28) (hc := Try.call28)); exact rfl; exact rfl; exact fun D w1 hw1 => ins5_T _ _ w1 (in_own (l := [20, 15, 60, 45, 30]) rfl hw1 P0); rintro v H' ⟨o, ho, rfl, rfl⟩; (rcases o with _ | ⟨gi, ci⟩); (exact absurd (ho rfl) (by decide)); (simp only [planS_some, planH_some, List.cons_append, List.nil_append])) | ((with_reducible apply u_q); (iterate 4 exact rfl))) | ((with_reducible apply t_id); first | (apply t_region; kernel_rfl)))
    all_goals exact ⟨by trivial, (gi, ci), trivial, by (repeat (first | exact FrSub.nil | (apply FrSub.cons; exact rfl))), by (repeat (first | exact HpSub.refl _ | (apply HpSub.consE; (repeat (first | exact P0 | apply P1)); exact rfl) | exact HpSub.nil))⟩
  rintro ⟨gi, ci⟩ -
  simp only
  refine t_cut (ι := Nat × Nat × Nat × Nat × Nat) (fun z => [(1, .slice (some ⟨g, 0, none⟩) 2 cp), (2, .int .i64 0), (3, .slice (some ⟨gi, 0, none⟩) 2 ci), (4, .int .i64 0), (5, .pointer (some ⟨z.1, 0, none⟩)), (7, .int .i64 0)]) (fun z => (z.1, offCells off9 (some ⟨z.2.1, 0, none⟩) z.2.2.1 (some ⟨z.2.2.2.1, 0, none⟩) z.2.2.2.2, some (25, 7, 1)) :: (z.2.1, (off9.fl.map depCells).flatten, some (106, 4, z.2.2.1)) :: (z.2.2.2.1, (off9.bk.map bkCells).flatten, some (71, 3, z.2.2.2.2)) :: (gi, [.int .i64 2, .int .i64 4], some (3, 1, ci)) :: (g, tiC 2, some (99, 3, cp)) :: []) (fun _ => True) ?_ ?_
  · repeat' (first | ((with_reducible apply oq_id); first | (apply oq_fn; exact rfl; try first | exact trivial | (and_intros <;> omega)) | ((with_reducible apply oq_call (k := 60) (hc := Try.call60)); exact rfl; exact rfl; exact fun D w1 hw1 => office0 w1)) | ((with_reducible apply tl_id); first | (with_reducible apply tl_nil) | ((with_reducible apply u_s); (iterate 3 exact rfl); (with_reducible apply os_callF (PV := dea0V) (k := 61) (hc := Try.call61)); exact rfl; exact rfl; exact fun D w1 hw1 => dea0_T w1; rintro v H' ⟨bd, rfl, rfl⟩; (simp only [List.cons_append, List.nil_append])) | ((with_reducible apply u_s); (iterate 3 exact rfl); (with_reducible apply os_callF (PV := AnyP (off9, 0, 0)) (k := 34) (hc := Try.call34)); exact rfl; exact rfl; exact fun D w1 hw1 => play9_T _ _ w1 (clH_rows (l := dl9) (f := dealCells) (x := some (bd, 9)) (hw1.sub (show HpSub _ (clH 63 5 (dl9.map dealCells).flatten (some (bd, 9))) from (by simp only [clH_some]; exact HpSub.consE P0 (by rfl) HpSub.nil))) (fun _ => rfl) rfl (fun h => by cases h)); rintro v H' ⟨x, y, hx, hy, rfl, rfl⟩; (rcases x with _ | ⟨gF, cF⟩); (exact absurd (hx rfl) (by decide)); (rcases y with _ | ⟨gB, cB⟩); (exact absurd (hy rfl) (by decide)); (simp only [flH, bkH, clH_some, clA_some, clC_some, List.cons_append, List.nil_append])) | ((with_reducible apply u_q); (iterate 4 exact rfl)) | ((with_reducible apply u_s0); exact rfl; exact rfl) | ((with_reducible apply u_s); (iterate 3 exact rfl))) | ((with_reducible apply os_id); first | ((with_reducible apply os_x); exact rfl) | ((with_reducible apply os_storeAgg); (iterate 5 exact rfl))) | ((with_reducible apply ox_alloc); exact rfl; intro _) | ((with_reducible apply t_id); first | (apply t_region; kernel_rfl)) | exact P0 | ((with_reducible apply Norm.nil); exact rfl) | ((with_reducible apply Norm.cons); exact rfl) | exact Nat.le_of_ble_eq_true rfl)
    all_goals exact ⟨by trivial, (_, gF, cF, gB, cB), trivial, by (repeat (first | exact FrSub.nil | (apply FrSub.cons; exact rfl))), by (repeat (first | exact HpSub.refl _ | (apply HpSub.consE; (repeat (first | exact P0 | apply P1)); exact rfl) | exact HpSub.nil))⟩
  rintro ⟨b5, gF, cF, gB, cB⟩ -
  simp only
  repeat' (first | ((with_reducible apply oq_id); first | ((with_reducible apply oq_eqlT); (iterate 3 exact rfl)) | (apply oq_fn; exact rfl; try first | exact trivial | (and_intros <;> omega)) | ((with_reducible apply oq_loadAgg); exact rfl; exact rfl) | ((with_reducible apply oq_call (k := 22) (hc := Try.call22)); exact rfl; exact rfl; exact fun D w1 hw1 => (purse9 ▸ opurse_T off9 (some ⟨gF, 0, none⟩) cF (some ⟨gB, 0, none⟩) cB w1 (clH_rows (l := off9.fl) (f := depCells) (x := some (gF, cF)) (hw1.sub (show HpSub _ (clH 106 4 (off9.fl.map depCells).flatten (some (gF, cF))) from (by simp only [clH_some]; (repeat (first | exact HpSub.refl _ | (apply HpSub.consE; (repeat (first | exact P0 | apply P1)); exact rfl) | apply HpSub.skipX | apply HpSub.skipX | exact HpSub.nil))))) (fun _ => rfl) rfl (fun h => by cases h)) (clH_rows (l := off9.bk) (f := bkCells) (x := some (gB, cB)) (hw1.sub (show HpSub _ (clH 71 3 (off9.bk.map bkCells).flatten (some (gB, cB))) from (by simp only [clH_some]; (repeat (first | exact HpSub.refl _ | (apply HpSub.consE; (repeat (first | exact P0 | apply P1)); exact rfl) | apply HpSub.skipX | apply HpSub.skipX | exact HpSub.nil))))) (fun _ => rfl) rfl (fun h => by cases h)) (fun h => by cases h) (fun h => by cases h) (by decide) (by decide) (by decide))) | ((with_reducible apply oq_call (k := 48) (hc := Try.call48)); exact rfl; exact rfl; exact fun D w1 hw1 => sameTi _ _ _ _ w1 (hw1.cellAt (by (repeat (first | exact P0 | apply P1))) rfl) (hw1.cellAt (by (repeat (first | exact P0 | apply P1))) rfl) (hw1.cellAt (by (repeat (first | exact P0 | apply P1))) rfl) (hw1.cellAt (by (repeat (first | exact P0 | apply P1))) rfl) (hw1.cellAt (by (repeat (first | exact P0 | apply P1))) rfl) (hw1.cellAt (by (repeat (first | exact P0 | apply P1))) rfl) (hw1.cellAt (by (repeat (first | exact P0 | apply P1))) rfl) (hw1.cellAt (by (repeat (first | exact P0 | apply P1))) rfl) (hw1.cellAt (by (repeat (first | exact P0 | apply P1))) rfl) (hw1.cellAt (by (repeat (first | exact P0 | apply P1))) rfl) (hw1.cellAt (by (repeat (first | exact P0 | apply P1))) rfl) (hw1.cellAt (by (repeat (first | exact P0 | apply P1))) rfl)) | ((with_reducible apply oq_call (k := 32) (hc := Try.call32)); exact rfl; exact rfl; exact fun D w1 hw1 => sameInts_calls _ _ 2 _ 2 _ [2, 4] [2, 4] true (by decide) w1 (in_own (l := [2, 4]) rfl hw1 (by (repeat (first | exact P0 | apply P1)))) (in_own (l := [2, 4]) rfl hw1 (by (repeat (first | exact P0 | apply P1)))) (by decide) (by decide)) | ((with_reducible apply oq_build); (iterate 3 exact rfl))) | ((with_reducible apply tl_id); first | (with_reducible apply tl_nil) | ((with_reducible apply u_q); (iterate 4 exact rfl)) | ((with_reducible apply u_s); (iterate 3 exact rfl))) | ((with_reducible apply os_x); exact rfl) | ((with_reducible apply ox_id); first | ((with_reducible apply ox_buildSlice1); (iterate 6 exact rfl); intro _) | ((with_reducible apply ox_buildSlice); (iterate 4 exact rfl))) | ((with_reducible apply rd_id); first | (apply Rd.own; (repeat (first | exact P0 | apply P1)); exact rfl; done)) | ((with_reducible apply t_id); first | (with_reducible apply t_seq) | (apply t_region; kernel_rfl) | (with_reducible apply t_ret)) | with_reducible apply q_thenN | exact Rdn.zero | apply Rdn.succ | ((with_reducible apply Norm.nil); exact rfl) | ((with_reducible apply Norm.cons); exact rfl) | (with_reducible apply end_ret) | exact rvs_nil | (with_reducible apply rvs_cons) | ((with_reducible apply rv_tmp); exact rfl) | exact (rfl : (_ : Bool) = true) | (intro _; with_reducible apply tl_id))
  all_goals rfl
end Go.Proofs.Ytmlmgipngbndgaa
