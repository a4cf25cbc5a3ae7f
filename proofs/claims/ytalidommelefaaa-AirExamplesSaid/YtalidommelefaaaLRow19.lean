/- What the statement computes, walked. -/
import Derived.Test.YtalidommelefaaaPkH
import Derived.Test.YtalidommelefaaaPkL
import Derived.Test.YtalidommelefaaaPkJ
import Derived.Test.YtalidommelefaaaPkK
import Derived.Test.YtalidommelefaaaPkI
import Derived.Test.YtalidommelefaaaPkB
import Derived.Laws.MakeOwn
/- Law 19, the plain part: what is specified for the chapter's examples. -/
namespace Go.Proofs.Ytalidommelefaaa
open Go.RowKit
set_option maxRecDepth 100000
set_option linter.unusedVariables false
set_option linter.unusedSimpArgs false
def oddEx : List Lv := [⟨0, 8900, 9000, 2800, 2800⟩, ⟨1000, 8800, 9000, 2800, 2800⟩]
def zNews : List News := List.replicate 101 ⟨0, 0, 0, 0, 0, 0⟩
theorem ex3 {k : Int × Int × Int} {e : Int} (h : k.2.2 = e) : ∃ x y, k = (x, y, e) := ⟨k.1, k.2.1, by rw [← h]⟩
theorem ex5 {k : (Int × Int) × (Int × Int) × Int} {e : Int} (h : k.2.2 = e) : ∃ a b t0 t1, k = ((a, b), (t0, t1), e) := ⟨k.1.1, k.1.2, k.2.1.1, k.2.1.2, by rw [← h]⟩
theorem ex5' {k : (Int × Int) × (Int × Int) × Int} {p : Int × Int} {e : Int} (h1 : k.1 = p) (h : k.2.2 = e) : ∃ t0 t1, k = (p, (t0, t1), e) := ⟨k.2.1.1, k.2.1.2, by rw [← h, ← h1]⟩
theorem exx_at : ∃ t0 t1, atS sndEx 0 0 = ((10000, 10000), (t0, t1), 0) := ex5' (by decide +kernel) (by decide +kernel)
theorem exx_odd : soundB oddEx = true ∧ idxV badL (setl oddEx) = 0 := by decide +kernel
theorem exx_where : whS sndEx 9400 9400 = (491, 524, 0) := by
  have hs := (soundB_iff sndEx).1 ex_sound
  have hu : unfit sndEx = false := by decide +kernel
  have hf : fineS (9400, 9400) = true := by decide +kernel
  have l0 : lvFst sndEx = 0 := by decide +kernel
  have ln : lvLst sndEx = 1000 := by decide +kernel
  unfold whS
  rw [ex_sound, hf, hu]
  simp only [if_true, Bool.false_eq_true, if_false]
  refine IsWh.val (.inr ⟨rfl, by rw [l0]; decide, by decide, by rw [ln]; decide, ?_, ?_, ?_⟩)
  · unfold wP; rw [ex_setl]; decide +kernel
  · unfold wP; rw [ex_setl]; decide +kernel
  · intro h h0 h1 hw
    unfold wP at hw
    refine ⟨?_, ?_⟩
    · refine Decidable.by_contra fun hc => ?_
      have k := pr_facts hs hu (p := h) (m := h) (q := 490) h0 (Int.le_refl _) (by simp only at hc; omega) (by omega)
      have k2 : (prV (setl sndEx) 490).1 = 9402 := by rw [ex_setl]; decide +kernel
      omega
    · refine Decidable.by_contra fun hc => ?_
      have k := pr_facts hs hu (p := 525) (m := h) (q := h) (by omega) (by simp only at hc; omega) (Int.le_refl _) h1
      have k2 : (prV (setl sndEx) 525).2 = 9399 := by rw [ex_setl]; decide +kernel
      omega
theorem exx_wind : windV wndEx 1500 1500 = ((28, 62), (-2, 2), 0) := by decide +kernel
theorem exx_along : alongV 30 30 10 10 3 4 = (26, 26, 0) := by
  have e1 : shV 130 25 = 26 := IsSh.val (by decide) ⟨by unfold ShP; decide, by unfold ShP; decide⟩
  have e2 : shV (-130) 25 = -26 := IsSh.val (by decide) ⟨by unfold ShP; decide, by unfold ShP; decide⟩
  have ew : windE 30 30 10 10 = 0 := by decide +kernel
  have eo : wayOk 3 4 = true := by decide +kernel
  have a1 : alongLo 30 30 10 10 3 4 = 130 := by decide +kernel
  have a2 : alongHi 30 30 10 10 3 4 = 130 := by decide +kernel
  unfold alongV
  rw [if_pos ew, eo, a1, a2]
  simp only [if_true]
  rw [show (3 : Int) * 3 + 4 * 4 = 25 by decide, e1, e2]
  decide
theorem exx_k1 : knownS 0 1 0 newsEx 0 2 30 30 = (2770, 2840, 0) := by decide +kernel
theorem exx_k2 : knownS 0 1 0 newsEx 0 2 100 100 = (2760, 2910, 0) := by decide +kernel
theorem exx_k3 : ∃ x y, (knownS 0 1 0 newsEx 0 2 0 9) = (x, y, 6) := ex3 <| by decide +kernel
theorem exx_c1 : ∃ x y, (conflictS 0 1 0 newsEx 0 2 90) = (x, y, 6) := ex3 <| by decide +kernel
theorem exx_c2 : conflictS 0 0 0 newsEx 0 2 90 = (0, 1, 0) := by decide +kernel
theorem exx_k4 : ∃ x y, (knownS 0 0 0 newsEx 0 2 0 90) = (x, y, 24) := ex3 <| by decide +kernel
theorem exx_at2 : ∃ a b t0 t1, atS sndEx 0 1001 = ((a, b), (t0, t1), 2) := ex5 (by decide +kernel)
theorem exx_along2 : ∃ x y, (alongV 0 0 0 0 0 0) = (x, y, 2) := ex3 <| by
  have ew : windE 0 0 0 0 = 0 := by decide +kernel
  have eo : wayOk 0 0 = false := by decide +kernel
  unfold alongV
  rw [if_pos ew, eo]
  simp
theorem exx_speed : ∃ x y, (speedV 0 2001 0 0) = (x, y, 2) := ex3 <| by
  have ew : windE 0 2001 0 0 = 2 := by decide +kernel
  unfold speedV
  rw [ew]
  simp
theorem exx_sound : souE 0 1 0 [] 0 0 [] = 2 := by decide +kernel
theorem exx_many : ∃ x y, (knownS 0 1 0 zNews 0 1 0 0) = (x, y, 4) := ex3 <| by decide +kernel
theorem zNews_cells : zNews.map News.cells = List.replicate 101 [.int .i64 0, .int .i64 0, .int .i64 0, .int .i64 0, .int .i64 0, .int .i64 0] := by
  unfold zNews
  rw [List.map_replicate]
  rfl
theorem exx_c : soundB [] = false ∧ windB [] = false ∧ checkNews [⟨0, 0, 0, 0, 0, 0⟩] = 23 := by decide +kernel
end Go.Proofs.Ytalidommelefaaa
/- The calculus: make of a slice. -/
namespace Go.Proofs.Ytalidommelefaaa
set_option linter.unusedVariables false
set_option linter.unusedSimpArgs false
open Go.RowKit
theorem madeCells_rows (zs : List Value) : ∀ n : Nat, (madeCells zs.toArray (n * zs.length)).toList = (List.replicate n zs).flatten := by
  intro n
  have key : (List.range (n * zs.length)).map (fun j => zs[j % zs.length]!) = (List.replicate n zs).flatten := by
    induction n with
    | zero => simp
    | succ n ih =>
      rw [Nat.succ_mul, Nat.add_comm, List.range_add, List.map_append, List.map_map, List.replicate_succ, List.flatten_cons, ← ih]
      congr 1
      · refine List.ext_getElem (by simp) fun i h1 h2 => ?_
        simp at h1
        simp [Nat.mod_eq_of_lt h1, h1]
      · refine List.map_congr_left fun j _ => ?_
        simp
  rw [← key]
  simp [madeCells]
theorem ox_make {c : Cx} {F : Fr} {H : Hp} {K : Value → Hp → Prop} {d : Option Tmp} {ty : TypeId} {pos : String} {af : Array Edge} {g : Option (Nat × Bool)} {x y : Operand} {t e size bytes n : Nat} {z : Value} {zs : List Value} (hk : AppOk c.P t e size bytes) (hz : (c.P.info? e).map (fun i => i.zero) = some (some z)) (hzs : z.cells = zs.toArray) (hl : zs.length = size)
    (hx : ev F x = some (.int .i64 (n : Int))) (hy : ev F y = some (.int .i64 (n : Int))) (hb : bytes * n ≤ 281474976710656) (hn : n ≤ maxLen) (k : ∀ b, K (.slice (some ⟨b, 0, none⟩) n n) ((b, (List.replicate n zs).flatten, some (e, size, n)) :: H)) : OX c ⟨d, .makeSlice t x y, ty, pos, af, g⟩ F H K := by
  intro D a w ha hw
  obtain ⟨i, z', k1, k2, k3, k4, k5⟩ := hk.info
  have hz' : i.zero = some z := by rw [k1] at hz; simpa using hz
  have hn' : (n : Int) ≤ 9223372036854775807 := by unfold maxLen at hn; omega
  have hb' : (i.bytes : Int) * (n : Int) ≤ 281474976710656 := by
    have h : ((i.bytes * n : Nat) : Int) ≤ 281474976710656 := by rw [k4]; omega
    rwa [Int.natCast_mul] at h
  have hr := run_make (P := c.P) w t e i z hk.und k1 hz' .i64 .i64 n n (by omega) (Int.le_refl _) hb' hn'
  simp only [Int.toNat_natCast, k3, hzs] at hr
  have hc : (madeCells zs.toArray (n * size)) = ((List.replicate n zs).flatten).toArray := by
    rw [← Array.toList_inj, ← hl, madeCells_rows]
  rw [hc] at hr
  have : (execOp a.eval ⟨d, .makeSlice t x y, ty, pos, af, g⟩).run c.P w = .ok (.value (.slice (some ⟨w.heap.size, 0, none⟩) n n)) (w.alloc (.cells ((List.replicate n zs).flatten).toArray e)) := by
    simp [execOp, ha.ev hx, ha.ev hy, Sem.run_bind, Sem.run_pure, Result.andThen, hr]
  rw [this]
  exact ⟨⟨_, k w.heap.size, hw.fresh ((Ext.refl w).alloc _) (Nat.le_refl _) (Blk.row w _ e size n (by simp [hl]) hn)⟩, (Ext.refl w).alloc _⟩
theorem os_make {c : Cx} {F : Fr} {H : Hp} {K : Value → Hp → Prop} {d : Option Tmp} {ty : TypeId} {pos : String} {af : Array Edge} {g : Option (Nat × Bool)} {x y : Operand} {t e size bytes n : Nat} {z : Value} {zs : List Value} (hk : AppOk c.P t e size bytes) (hz : (c.P.info? e).map (fun i => i.zero) = some (some z)) (hzs : z.cells = zs.toArray) (hl : zs.length = size)
    (hx : ev F x = some (.int .i64 (n : Int))) (hy : ev F y = some (.int .i64 (n : Int))) (hb : bytes * n ≤ 281474976710656) (hn : n ≤ maxLen) (k : ∀ b, K (.slice (some ⟨b, 0, none⟩) n n) ((b, (List.replicate n zs).flatten, some (e, size, n)) :: H)) : OS c ⟨d, .makeSlice t x y, ty, pos, af, g⟩ F H K := .ofX (ox_make hk hz hzs hl hx hy hb hn k)
section
variable {c : Cx} {S : WS c.P} {Q : QS} {F : Fr} {H : Hp}
/-- A cut behind a region: the slots 'keep' stay, 'ch' are new; of the blocks only hc are known from there on. -/
theorem t_cutD {ι : Type} (rid : Nat) {ops : Array Oper} {dr : Bool} {y : Code} (keep : List Nat) (ch : ι → Fr) (hc : ι → Hp) {G : Fr} (hK : KeepF F keep G)
    (h1 : T c S (.region rid ops dr) (cutQ ch hc G []) F H) (h2 : ∀ i, T c S y Q (ch i ++ G) (hc i ++ [])) : T c S (.seq (.region rid ops dr) y) Q F H :=
  t_cut (fun i => ch i ++ G) (fun i => hc i ++ []) (fun _ => True) (fun D a w ha hw => S.mono (h1 D a w ha hw) fun e a' w' ⟨D', F', H', ⟨he, i, hF, hH⟩, h4, h5⟩ => ⟨D', F', H', ⟨he, i, trivial, hF, hH⟩, h4, h5⟩) (fun i _ => h2 i)
end
end Go.Proofs.Ytalidommelefaaa
/- Law 19: the chapter's examples, limits and numbers of errors. -/
namespace Go.Proofs.Ytalidommelefaaa
open Go.RowKit
attribute [local irreducible] OQ OS OX Rd T TL GX GL AL AI RV wpG SAny Calls
set_option maxRecDepth 100000
set_option maxHeartbeats 2000000
set_option linter.unusedVariables false
set_option linter.unusedSimpArgs false


theorem oddX_rows {w0 : World} {M : Ms} {H H' : Hp} {w : World} {g : Nat} {tg : Tg} (h : Has w0 M H w) (q : Pick H g [.int .i64 0, .int .i64 8900, .int .i64 9000, .int .i64 2800, .int .i64 2800, .int .i64 1000, .int .i64 8800, .int .i64 9000, .int .i64 2800, .int .i64 2800] tg H') : RdS w 5 (some ⟨g, 0, none⟩) 2 (oddEx.map lvCells) := lvS_rows rfl h q
theorem zX_rows {w0 : World} {M : Ms} {H H' : Hp} {w : World} {g : Nat} {tg : Tg} (h : Has w0 M H w) (q : Pick H g (List.replicate 101 [Value.int .i64 0, .int .i64 0, .int .i64 0, .int .i64 0, .int .i64 0, .int .i64 0]).flatten tg H') : RdS w 6 (some ⟨g, 0, none⟩) 101 (zNews.map News.cells) := by
  rw [← zNews_cells] at q
  exact newsX_rows (by unfold zNews; simp) h q
theorem oneX_rows {w0 : World} {M : Ms} {H H' : Hp} {w : World} {g : Nat} {tg : Tg} (h : Has w0 M H w) (q : Pick H g [.int .i64 0, .int .i64 0, .int .i64 0, .int .i64 0, .int .i64 0, .int .i64 0] tg H') : RdS w 6 (some ⟨g, 0, none⟩) 1 (([⟨0, 0, 0, 0, 0, 0⟩] : List News).map News.cells) := newsX_rows rfl h q
theorem airExamples_T (w : World) : Calls Try.prog 19 #[] w fun e w' => e = .returned (.bool true) ∧ Ext w w' := by
  have HA := fun g cp w1 h => at36_calls (some ⟨g, 0, none⟩) 2 cp sndEx 0 0 w1 h (by omega)
  obtain ⟨t0, t1, e0⟩ := exx_at
  rw [e0] at HA
  have HA2 := fun g cp w1 h => at36_calls (some ⟨g, 0, none⟩) 2 cp sndEx 0 1001 w1 h (by omega)
  obtain ⟨p0, p1, u0, u1, e1⟩ := exx_at2
  rw [e1] at HA2
  have HS : ∀ g cp w1, RdS w1 5 (some ⟨g, 0, none⟩) 2 (oddEx.map lvCells) → Calls Try.prog 40 #[.slice (some ⟨g, 0, none⟩) 2 cp] w1 fun e w' => e = .returned (.tuple #[.slice none 0 0, .int .i64 0, .int .i64 21]) ∧ Ext w1 w' :=
    fun g cp w1 h => (settle_T (some ⟨g, 0, none⟩) 2 cp oddEx w1 h (by omega)).mono fun e w' ⟨V, H', h1, h2, h3⟩ => by
      refine ⟨?_, h3.ext.ext⟩
      rcases h2 with ⟨h2, _⟩ | ⟨_, _, h2, _⟩ | ⟨_, h2, _⟩
      · rw [exx_odd.1] at h2; cases h2
      · rw [h1, h2, exx_odd.2]
      · rw [exx_odd.2] at h2; exact absurd (by decide) h2
  have HH := fun g cp w1 h => where_calls (some ⟨g, 0, none⟩) 2 cp sndEx 9400 9400 w1 h (by omega)
  rw [exx_where] at HH
  have HW := fun g w1 h => windAt_calls (some ⟨g, 0, none⟩) 2 2 wndEx 1500 1500 w1 h (by omega) (by omega)
  rw [exx_wind] at HW
  have HG := fun w1 => airAlong_calls 30 30 10 10 3 4 w1
  rw [exx_along] at HG
  have HG2 := fun w1 => airAlong_calls 0 0 0 0 0 0 w1
  obtain ⟨g0, g1, e2⟩ := exx_along2
  rw [e2] at HG2
  have HV := fun w1 => speed_calls 0 2001 0 0 w1
  obtain ⟨s0, s1, e3⟩ := exx_speed
  rw [e3] at HV
  have HK1 := fun g cp w1 h => airKnown_T 0 1 0 (some ⟨g, 0, none⟩) 2 cp newsEx 0 2 30 30 w1 h (by omega)
  rw [exx_k1] at HK1
  have HK2 := fun g cp w1 h => airKnown_T 0 1 0 (some ⟨g, 0, none⟩) 2 cp newsEx 0 2 100 100 w1 h (by omega)
  rw [exx_k2] at HK2
  have HK3 := fun g cp w1 h => airKnown_T 0 1 0 (some ⟨g, 0, none⟩) 2 cp newsEx 0 2 0 9 w1 h (by omega)
  obtain ⟨k30, k31, e4⟩ := exx_k3
  rw [e4] at HK3
  have HK4 := fun g cp w1 h => airKnown_T 0 0 0 (some ⟨g, 0, none⟩) 2 cp newsEx 0 2 0 90 w1 h (by omega)
  obtain ⟨k40, k41, e5⟩ := exx_k4
  rw [e5] at HK4
  have HK5 := fun g cp w1 h => airKnown_T 0 1 0 (some ⟨g, 0, none⟩) 101 cp zNews 0 1 0 0 w1 h (by omega)
  obtain ⟨k50, k51, e6⟩ := exx_many
  rw [e6] at HK5
  have HC1 := fun g cp w1 h => airConflict_T 0 1 0 (some ⟨g, 0, none⟩) 2 cp newsEx 0 2 90 w1 h (by omega)
  obtain ⟨c10, c11, e7⟩ := exx_c1
  rw [e7] at HC1
  have HC2 := fun g cp w1 h => airConflict_T 0 0 0 (some ⟨g, 0, none⟩) 2 cp newsEx 0 2 90 w1 h (by omega)
  rw [exx_c2] at HC2
  have H28 : ∀ w1, Calls Try.prog 28 #[.slice none 0 0, .agg #[.int .i64 0, .int .i64 1, .int .i64 0], .slice none 0 0, .int .i64 0, .int .i64 0] w1 fun e w' => e = .returned (.tuple #[.slice none 0 0, .slice none 0 0, .int .i64 2]) ∧ Ext w1 w' :=
    fun w1 => (sound_T none 0 0 [] 0 1 0 none 0 0 [] 0 0 w1 (RdS.nil _ _ _) (by omega) (RdS.nil _ _ _) (by omega)).mono fun e w' ⟨V, H', h1, h2, h3⟩ => by
      refine ⟨?_, h3.ext.ext⟩
      rw [exx_sound] at h2
      rcases h2 with ⟨_, h2, _⟩ | ⟨h2, _⟩
      · rw [h1, h2]
      · exact absurd h2 (by decide)
  have H38 := fun w1 => checkAir_calls none 0 0 [] w1 (RdS.nil _ _ _) (by omega)
  rw [exx_c.1] at H38
  have H34 := fun w1 => checkWinds_calls none 0 0 [] w1 (RdS.nil _ _ _) (by omega)
  rw [exx_c.2.1] at H34
  have H24 := fun g w1 h => checkNews_calls (some ⟨g, 0, none⟩) 1 1 [⟨0, 0, 0, 0, 0, 0⟩] w1 h (by omega)
  rw [exx_c.2.2] at H24
  simp only [Bool.false_eq_true, if_false] at H38 H34
  dsimp only [airV, windO] at HA HA2 HW HH HG HG2 HV HK1 HK2 HK3 HK4 HK5 HC1 HC2
  refine enterQ (c := cx w 253) Try.func19 rfl rfl rfl rfl ?_
  repeat' (first | ((with_reducible apply oq_id); first | ((with_reducible apply oq_sameX61); exact rfl; exact rfl) | ((with_reducible apply oq_sameX52); exact rfl; exact rfl) | ((with_reducible apply oq_same26); exact rfl; exact rfl) | (apply oq_fn; exact rfl; first | exact trivial | (refine ⟨?_, ?_⟩ <;> omega) | (refine ⟨?_, ?_, ?_⟩ <;> omega) | omega | skip) | ((with_reducible apply oq_load); exact rfl; exact rfl) | ((with_reducible apply oq_loadAgg); exact rfl; exact rfl) | ((with_reducible apply oq_call (k := 52) (hc := Try.call52)); exact rfl; exact rfl; exact fun D w1 hw1 => span_calls _ _ w1) | ((with_reducible apply oq_call (k := 48) (hc := Try.call48)); exact rfl; exact rfl; exact fun D w1 hw1 => alive_calls w1) | ((with_reducible apply oq_call (k := 36) (hc := Try.call36)); exact rfl; exact rfl; exact fun D w1 hw1 => HA _ _ w1 (lvS_rows rfl hw1 (by (repeat (first | exact P0 | apply P1))))) | ((with_reducible apply oq_call (k := 36) (hc := Try.call36)); exact rfl; exact rfl; exact fun D w1 hw1 => HA2 _ _ w1 (lvS_rows rfl hw1 (by (repeat (first | exact P0 | apply P1))))) | ((with_reducible apply oq_call (k := 40) (hc := Try.call40)); exact rfl; exact rfl; exact fun D w1 hw1 => HS _ _ w1 (oddX_rows hw1 (by (repeat (first | exact P0 | apply P1))))) | ((with_reducible apply oq_call (k := 42) (hc := Try.call42)); exact rfl; exact rfl; exact fun D w1 hw1 => HH _ _ w1 (lvS_rows rfl hw1 (by (repeat (first | exact P0 | apply P1))))) | ((with_reducible apply oq_call (k := 32) (hc := Try.call32)); exact rfl; exact rfl; exact fun D w1 hw1 => HW _ w1 (glS_rows rfl hw1 (by (repeat (first | exact P0 | apply P1))))) | ((with_reducible apply oq_call (k := 46) (hc := Try.call46)); exact rfl; exact rfl; exact fun D w1 hw1 => HG w1) | ((with_reducible apply oq_call (k := 46) (hc := Try.call46)); exact rfl; exact rfl; exact fun D w1 hw1 => HG2 w1) | ((with_reducible apply oq_call (k := 44) (hc := Try.call44)); exact rfl; exact rfl; exact fun D w1 hw1 => HV w1) | ((with_reducible apply oq_call (k := 20) (hc := Try.call20)); exact rfl; exact rfl; exact fun D w1 hw1 => HK1 _ _ w1 (newsX_rows rfl hw1 (by (repeat (first | exact P0 | apply P1))))) | ((with_reducible apply oq_call (k := 20) (hc := Try.call20)); exact rfl; exact rfl; exact fun D w1 hw1 => HK2 _ _ w1 (newsX_rows rfl hw1 (by (repeat (first | exact P0 | apply P1))))) | ((with_reducible apply oq_call (k := 20) (hc := Try.call20)); exact rfl; exact rfl; exact fun D w1 hw1 => HK3 _ _ w1 (newsX_rows rfl hw1 (by (repeat (first | exact P0 | apply P1))))) | ((with_reducible apply oq_call (k := 20) (hc := Try.call20)); exact rfl; exact rfl; exact fun D w1 hw1 => HK4 _ _ w1 (newsX_rows rfl hw1 (by (repeat (first | exact P0 | apply P1))))) | ((with_reducible apply oq_call (k := 20) (hc := Try.call20)); exact rfl; exact rfl; exact fun D w1 hw1 => HK5 _ _ w1 (zX_rows hw1 (by (repeat (first | exact P0 | apply P1))))) | ((with_reducible apply oq_call (k := 22) (hc := Try.call22)); exact rfl; exact rfl; exact fun D w1 hw1 => HC1 _ _ w1 (newsX_rows rfl hw1 (by (repeat (first | exact P0 | apply P1))))) | ((with_reducible apply oq_call (k := 22) (hc := Try.call22)); exact rfl; exact rfl; exact fun D w1 hw1 => HC2 _ _ w1 (newsX_rows rfl hw1 (by (repeat (first | exact P0 | apply P1))))) | ((with_reducible apply oq_call (k := 28) (hc := Try.call28)); exact rfl; exact rfl; exact fun D w1 hw1 => H28 w1) | ((with_reducible apply oq_call (k := 38) (hc := Try.call38)); exact rfl; exact rfl; exact fun D w1 hw1 => H38 w1) | ((with_reducible apply oq_call (k := 34) (hc := Try.call34)); exact rfl; exact rfl; exact fun D w1 hw1 => H34 w1) | ((with_reducible apply oq_call (k := 24) (hc := Try.call24)); exact rfl; exact rfl; exact fun D w1 hw1 => H24 _ w1 (oneX_rows hw1 (by (repeat (first | exact P0 | apply P1))))) | ((with_reducible apply oq_build); exact rfl; exact rfl; exact rfl)) | ((with_reducible apply tl_id); first | ((with_reducible apply tl_nil)) | ((with_reducible apply u_s); exact rfl; exact rfl; exact rfl; (with_reducible apply os_callF (PV := (fun V H' => ∃ g, V = .slice (some ⟨g, 0, none⟩) 2 2 ∧ H' = [(g, (sndEx.map lvCells).flatten, some (76, 5, 2))])) (k := 59) (hc := Try.call59)); exact rfl; exact rfl; exact fun D w1 hw1 => soundingEx_T w1; rintro V' H' ⟨g, rfl, rfl⟩; simp only [List.cons_append, List.nil_append]) | ((with_reducible apply u_s); exact rfl; exact rfl; exact rfl; (with_reducible apply os_callF (PV := (fun V H' => ∃ g, V = .slice (some ⟨g, 0, none⟩) 2 2 ∧ H' = [(g, (wndEx.map glCells).flatten, some (96, 6, 2))])) (k := 60) (hc := Try.call60)); exact rfl; exact rfl; exact fun D w1 hw1 => windsEx_T w1; rintro V' H' ⟨g, rfl, rfl⟩; simp only [List.cons_append, List.nil_append]) | ((with_reducible apply u_s); exact rfl; exact rfl; exact rfl; (with_reducible apply os_callF (PV := (fun V H' => ∃ g, V = .slice (some ⟨g, 0, none⟩) 2 2 ∧ H' = [(g, (newsEx.map News.cells).flatten, some (102, 6, 2))])) (k := 61) (hc := Try.call61)); exact rfl; exact rfl; exact fun D w1 hw1 => newsEx_T w1; rintro V' H' ⟨g, rfl, rfl⟩; simp only [List.cons_append, List.nil_append]) | ((with_reducible apply u_q); exact rfl; exact rfl; exact rfl; exact rfl) | ((with_reducible apply u_s0); exact rfl; exact rfl) | ((with_reducible apply u_s); exact rfl; exact rfl; exact rfl) | ((with_reducible apply u_skip); exact rfl; exact rfl; exact rfl) | ((with_reducible apply u_splitD); exact rfl; exact rfl; all_goals first | (intro hp; try (exfalso; omega)) | skip) | ((with_reducible apply u_splitN); exact rfl; exact rfl; all_goals first | (intro hp; try (exfalso; omega)) | skip) | ((with_reducible apply u_split); exact rfl; exact rfl; all_goals first | intro hp | skip)) | ((with_reducible apply gx_id); first | ((with_reducible apply v_nil)) | ((with_reducible apply v_q); exact rfl; exact rfl; exact rfl) | ((with_reducible apply v_skip); exact rfl; exact rfl; exact rfl) | ((with_reducible apply v_splitD); exact rfl; exact rfl; all_goals first | (intro hp; try (exfalso; omega)) | skip) | ((with_reducible apply v_splitN); exact rfl; exact rfl; all_goals first | (intro hp; try (exfalso; omega)) | skip) | ((with_reducible apply v_split); exact rfl; exact rfl; all_goals first | intro hp | skip)) | ((with_reducible apply os_id); first | ((with_reducible apply os_x); exact rfl) | ((with_reducible apply os_store); exact rfl; exact rfl; exact rfl; exact rfl) | ((with_reducible apply os_storeAgg); exact rfl; exact rfl; exact rfl; exact rfl; exact rfl)) | ((with_reducible apply ox_id); first | ((with_reducible apply ox_alloc); exact rfl; intro _) | ((with_reducible apply ox_buildSlice1); exact rfl; exact rfl; exact rfl; exact rfl; exact rfl; exact rfl; intro _) | ((with_reducible apply ox_buildSlice2); exact rfl; exact rfl; exact rfl; exact rfl; exact rfl; exact rfl; intro _) | ((with_reducible apply ox_buildSlice); exact rfl; exact rfl; exact rfl; exact rfl)) | ((with_reducible apply ai_id); first | ((with_reducible apply ai_s); exact rfl; exact rfl; exact rfl; exact rfl; exact rfl; (with_reducible apply os_callF (PV := (fun V H' => ∃ g, V = .slice (some ⟨g, 0, none⟩) 2 2 ∧ H' = [(g, (sndEx.map lvCells).flatten, some (76, 5, 2))])) (k := 59) (hc := Try.call59)); exact rfl; exact rfl; exact fun D w1 hw1 => soundingEx_T w1; rintro V' H' ⟨g, rfl, rfl⟩; simp only [List.cons_append, List.nil_append]) | ((with_reducible apply ai_s); exact rfl; exact rfl; exact rfl; exact rfl; exact rfl; (with_reducible apply os_callF (PV := (fun V H' => ∃ g, V = .slice (some ⟨g, 0, none⟩) 2 2 ∧ H' = [(g, (wndEx.map glCells).flatten, some (96, 6, 2))])) (k := 60) (hc := Try.call60)); exact rfl; exact rfl; exact fun D w1 hw1 => windsEx_T w1; rintro V' H' ⟨g, rfl, rfl⟩; simp only [List.cons_append, List.nil_append]) | ((with_reducible apply ai_s); exact rfl; exact rfl; exact rfl; exact rfl; exact rfl; (with_reducible apply os_callF (PV := (fun V H' => ∃ g, V = .slice (some ⟨g, 0, none⟩) 2 2 ∧ H' = [(g, (newsEx.map News.cells).flatten, some (102, 6, 2))])) (k := 61) (hc := Try.call61)); exact rfl; exact rfl; exact fun D w1 hw1 => newsEx_T w1; rintro V' H' ⟨g, rfl, rfl⟩; simp only [List.cons_append, List.nil_append]) | ((with_reducible apply ai_n); exact rfl; exact rfl; exact rfl; exact rfl; (with_reducible apply os_callF (PV := (fun V H' => ∃ g, V = .slice (some ⟨g, 0, none⟩) 2 2 ∧ H' = [(g, (sndEx.map lvCells).flatten, some (76, 5, 2))])) (k := 59) (hc := Try.call59)); exact rfl; exact rfl; exact fun D w1 hw1 => soundingEx_T w1; rintro V' H' ⟨g, rfl, rfl⟩; simp only [List.cons_append, List.nil_append]) | ((with_reducible apply ai_n); exact rfl; exact rfl; exact rfl; exact rfl; (with_reducible apply os_callF (PV := (fun V H' => ∃ g, V = .slice (some ⟨g, 0, none⟩) 2 2 ∧ H' = [(g, (wndEx.map glCells).flatten, some (96, 6, 2))])) (k := 60) (hc := Try.call60)); exact rfl; exact rfl; exact fun D w1 hw1 => windsEx_T w1; rintro V' H' ⟨g, rfl, rfl⟩; simp only [List.cons_append, List.nil_append]) | ((with_reducible apply ai_n); exact rfl; exact rfl; exact rfl; exact rfl; (with_reducible apply os_callF (PV := (fun V H' => ∃ g, V = .slice (some ⟨g, 0, none⟩) 2 2 ∧ H' = [(g, (newsEx.map News.cells).flatten, some (102, 6, 2))])) (k := 61) (hc := Try.call61)); exact rfl; exact rfl; exact fun D w1 hw1 => newsEx_T w1; rintro V' H' ⟨g, rfl, rfl⟩; simp only [List.cons_append, List.nil_append]) | ((with_reducible apply ai_q); exact rfl; exact rfl; exact rfl; exact rfl; exact rfl) | ((with_reducible apply ai_x); exact rfl; exact rfl; exact rfl; exact rfl; exact rfl) | ((with_reducible apply ai_s0); exact rfl; exact rfl; exact rfl; exact rfl) | ((with_reducible apply ai_n0); exact rfl; exact rfl; exact rfl) | ((with_reducible apply ai_s); exact rfl; exact rfl; exact rfl; exact rfl; exact rfl) | ((with_reducible apply ai_n); exact rfl; exact rfl; exact rfl; exact rfl) | ((with_reducible apply ai_skip); exact rfl; exact rfl; exact rfl; exact rfl) | ((with_reducible apply ai_splitD); exact rfl; exact rfl; exact rfl; all_goals first | (intro hp; try (exfalso; omega)) | skip) | ((with_reducible apply ai_splitN); exact rfl; exact rfl; exact rfl; all_goals first | (intro hp; try (exfalso; omega)) | skip) | ((with_reducible apply ai_split); exact rfl; exact rfl; exact rfl; all_goals first | intro hp | skip)) | ((with_reducible apply al_keep); focus (repeat (first | exact HpSub.refl _ | (apply HpSub.cons; (repeat (first | exact P0 | apply P1))) | exact HpSub.nil))) | ((with_reducible apply rd_id); first | (apply Rd.own; (repeat (first | exact P0 | apply P1)); exact rfl; done) | (apply Rd.old; (first | (with_reducible assumption)); first | exact List.not_mem_nil)) | ((with_reducible apply t_id); first | (with_reducible apply t_cutD (ι := Nat) (rid := 11) [13] (fun i => [(14, .pointer (some ⟨i, 0, none⟩))]) (fun i => [(i, [.int .i64 0, .int .i64 1, .int .i64 0], some (23, 3, 1))])); (repeat (first | exact KeepF.nil | (apply KeepF.cons; exact rfl) | apply KeepF.skip)) | (with_reducible apply t_cutD (ι := (Nat × Nat)) (rid := 12) [13] (fun i => [(14, .pointer (some ⟨i.1, 0, none⟩)), (15, .pointer (some ⟨i.2, 0, none⟩)), (2, .int .i64 0)]) (fun i => [(i.1, [.int .i64 0, .int .i64 1, .int .i64 0], some (23, 3, 1)), (i.2, [.int .i64 2770, .int .i64 2840], some (26, 2, 1))])); (repeat (first | exact KeepF.nil | (apply KeepF.cons; exact rfl) | apply KeepF.skip)) | (with_reducible apply t_cutD (ι := (Nat × Nat × Nat)) (rid := 13) [13, 2] (fun i => [(14, .pointer (some ⟨i.1, 0, none⟩)), (15, .pointer (some ⟨i.2.1, 0, none⟩)), (16, .pointer (some ⟨i.2.2, 0, none⟩)), (6, .int .i64 0)]) (fun i => [(i.1, [.int .i64 0, .int .i64 1, .int .i64 0], some (23, 3, 1)), (i.2.1, [.int .i64 2770, .int .i64 2840], some (26, 2, 1)), (i.2.2, [.int .i64 2760, .int .i64 2910], some (26, 2, 1))])); (repeat (first | exact KeepF.nil | (apply KeepF.cons; exact rfl) | apply KeepF.skip)) | (with_reducible apply t_cutD (ι := (Nat × Nat × Nat)) (rid := 14) [13, 2, 6] (fun i => [(14, .pointer (some ⟨i.1, 0, none⟩)), (15, .pointer (some ⟨i.2.1, 0, none⟩)), (16, .pointer (some ⟨i.2.2, 0, none⟩)), (8, .int .i64 6)]) (fun i => [(i.1, [.int .i64 0, .int .i64 1, .int .i64 0], some (23, 3, 1)), (i.2.1, [.int .i64 2770, .int .i64 2840], some (26, 2, 1)), (i.2.2, [.int .i64 2760, .int .i64 2910], some (26, 2, 1))])); (repeat (first | exact KeepF.nil | (apply KeepF.cons; exact rfl) | apply KeepF.skip)) | (with_reducible apply t_cutD (ι := (Nat × Nat × Nat)) (rid := 15) [13, 2, 6, 8] (fun i => [(14, .pointer (some ⟨i.1, 0, none⟩)), (15, .pointer (some ⟨i.2.1, 0, none⟩)), (16, .pointer (some ⟨i.2.2, 0, none⟩)), (10, .int .i64 6)]) (fun i => [(i.1, [.int .i64 0, .int .i64 1, .int .i64 0], some (23, 3, 1)), (i.2.1, [.int .i64 2770, .int .i64 2840], some (26, 2, 1)), (i.2.2, [.int .i64 2760, .int .i64 2910], some (26, 2, 1))])); (repeat (first | exact KeepF.nil | (apply KeepF.cons; exact rfl) | apply KeepF.skip)) | (with_reducible apply t_cutD (ι := Unit) (rid := 23) [13, 21, 2, 6, 8, 10] (fun _ => [(12, .int .i64 4)]) (fun _ => [])); (repeat (first | exact KeepF.nil | (apply KeepF.cons; exact rfl) | apply KeepF.skip)) | (apply t_mix (id := 12) [0] 8 #[false, false, false, false, false, false, false, false, false]; kernel_rfl; kernel_rfl; exact rfl) | (apply t_mix (id := 13) [0] 8 #[false, false, false, false, false, false, false, false, false]; kernel_rfl; kernel_rfl; exact rfl) | (apply t_mix (id := 14) [0] 6 #[false, false, false, false, false, false, false]; kernel_rfl; kernel_rfl; exact rfl) | (apply t_mix (id := 15) [0] 7 #[false, false, false, false, false, false, false, false]; kernel_rfl; kernel_rfl; exact rfl) | (apply t_mix (id := 23) [0] 6 #[false, false, false, false, false, false, false]; kernel_rfl; kernel_rfl; exact rfl) | ((with_reducible apply t_seq)) | (apply t_region; kernel_rfl) | (apply t_drawn; kernel_rfl; decide +kernel; try simp only [List.append_eq, List.cons_append, List.nil_append]) | ((with_reducible apply t_condT); exact rfl) | ((with_reducible apply t_condF); exact rfl) | ((with_reducible apply t_condD); exact rfl; all_goals first | (intro hp; try (exfalso; omega)) | skip) | ((with_reducible apply t_condN); exact rfl; all_goals first | (intro hp; try (exfalso; omega)) | skip) | ((with_reducible apply t_cond); exact rfl; all_goals first | intro hp | skip) | ((with_reducible apply t_ret)) | ((with_reducible apply t_skip))) | with_reducible apply q_thenN | with_reducible apply q_thenR | exact P0 | ((with_reducible apply P1)) | exact Rdn.zero | apply Rdn.succ | ((with_reducible apply Norm.nil); exact rfl) | ((with_reducible apply Norm.cons); exact rfl) | ((with_reducible apply end_ret)) | ((with_reducible apply end_normal)) | exact rvs_nil | ((with_reducible apply rvs_cons)) | ((with_reducible apply rv_tmp); exact rfl) | ((with_reducible apply cut_in0) <;> (repeat' (first | exact FrSub.nil | (apply FrSub.cons; exact rfl) | exact HpSub.refl _ | (apply HpSub.consE; (repeat (first | exact P0 | apply P1)); exact rfl) | exact HpSub.nil))) | ((with_reducible apply cut_in1) <;> (repeat' (first | exact FrSub.nil | (apply FrSub.cons; exact rfl) | exact HpSub.refl _ | (apply HpSub.consE; (repeat (first | exact P0 | apply P1)); exact rfl) | exact HpSub.nil))) | ((with_reducible apply cut_in2) <;> (repeat' (first | exact FrSub.nil | (apply FrSub.cons; exact rfl) | exact HpSub.refl _ | (apply HpSub.consE; (repeat (first | exact P0 | apply P1)); exact rfl) | exact HpSub.nil))) | ((with_reducible apply cut_in3) <;> (repeat' (first | exact FrSub.nil | (apply FrSub.cons; exact rfl) | exact HpSub.refl _ | (apply HpSub.consE; (repeat (first | exact P0 | apply P1)); exact rfl) | exact HpSub.nil))) | (apply t_mix (id := 12) [0] 8 #[false, false, false, false, false, false, false, false, false]; kernel_rfl; kernel_rfl; exact rfl) | ((with_reducible apply al_id); first | (apply al_done; decide +kernel) | (apply al_one 1; decide +kernel) | (apply al_one 2; decide +kernel) | (apply al_one 3; decide +kernel) | (apply al_one 4; decide +kernel) | (apply al_one 5; decide +kernel) | (apply al_one 6; decide +kernel) | (apply al_one 7; decide +kernel) | (apply al_one 8; decide +kernel) | (apply al_two 1 6; decide +kernel) | (apply al_two 2 6; decide +kernel) | (apply al_two 3 6; decide +kernel) | (apply al_two 4 5; decide +kernel) | (apply al_two 4 6; decide +kernel) | (apply al_two 5 6; decide +kernel) | (apply al_two 5 7; decide +kernel) | (apply al_three 4 5 6; decide +kernel)) | (apply t_mix (id := 13) [0] 8 #[false, false, false, false, false, false, false, false, false]; kernel_rfl; kernel_rfl; exact rfl) | ((with_reducible apply al_id); first | (apply al_done; decide +kernel) | (apply al_one 1; decide +kernel) | (apply al_one 2; decide +kernel) | (apply al_one 3; decide +kernel) | (apply al_one 4; decide +kernel) | (apply al_one 5; decide +kernel) | (apply al_one 6; decide +kernel) | (apply al_one 7; decide +kernel) | (apply al_one 8; decide +kernel) | (apply al_two 1 6; decide +kernel) | (apply al_two 2 6; decide +kernel) | (apply al_two 3 6; decide +kernel) | (apply al_two 4 5; decide +kernel) | (apply al_two 4 6; decide +kernel) | (apply al_two 5 6; decide +kernel) | (apply al_two 5 7; decide +kernel) | (apply al_three 4 5 6; decide +kernel)) | (apply t_mix (id := 14) [0] 6 #[false, false, false, false, false, false, false]; kernel_rfl; kernel_rfl; exact rfl) | ((with_reducible apply al_id); first | (apply al_done; decide +kernel) | (apply al_one 1; decide +kernel) | (apply al_one 2; decide +kernel) | (apply al_one 3; decide +kernel) | (apply al_one 4; decide +kernel) | (apply al_one 5; decide +kernel) | (apply al_one 6; decide +kernel) | (apply al_two 4 5; decide +kernel)) | (apply t_mix (id := 15) [0] 7 #[false, false, false, false, false, false, false, false]; kernel_rfl; kernel_rfl; exact rfl) | ((with_reducible apply al_id); first | (apply al_done; decide +kernel) | (apply al_one 1; decide +kernel) | (apply al_one 2; decide +kernel) | (apply al_one 3; decide +kernel) | (apply al_one 4; decide +kernel) | (apply al_one 5; decide +kernel) | (apply al_one 6; decide +kernel) | (apply al_one 7; decide +kernel) | (apply al_two 4 5; decide +kernel) | (apply al_two 4 6; decide +kernel) | (apply al_two 5 6; decide +kernel) | (apply al_three 4 5 6; decide +kernel)) | (apply t_mix (id := 23) [0] 6 #[false, false, false, false, false, false, false]; kernel_rfl; kernel_rfl; exact rfl) | ((with_reducible apply al_id); first | (apply al_done; decide +kernel) | (apply al_one 1; decide +kernel) | (apply al_one 2; decide +kernel) | (apply al_one 3; decide +kernel) | (apply al_one 4; decide +kernel) | (apply al_one 5; decide +kernel) | (apply al_one 6; decide +kernel) | (apply al_two 4 5; decide +kernel)) | ((with_reducible apply ox_make (hk := app_ok24) (z := .agg #[.int .i64 0, .int .i64 0, .int .i64 0, .int .i64 0, .int .i64 0, .int .i64 0]) (zs := [.int .i64 0, .int .i64 0, .int .i64 0, .int .i64 0, .int .i64 0, .int .i64 0]) (n := 101)); kernel_rfl; exact rfl; exact rfl; exact rfl; exact rfl; decide; (unfold maxLen; omega); intro _) | ((with_reducible apply os_make (hk := app_ok24) (z := .agg #[.int .i64 0, .int .i64 0, .int .i64 0, .int .i64 0, .int .i64 0, .int .i64 0]) (zs := [.int .i64 0, .int .i64 0, .int .i64 0, .int .i64 0, .int .i64 0, .int .i64 0]) (n := 101)); kernel_rfl; exact rfl; exact rfl; exact rfl; exact rfl; decide; (unfold maxLen; omega); intro _) | (intro _; simp only [List.cons_append, List.nil_append]; with_reducible apply t_id) | exact Nat.le_of_ble_eq_true rfl | exact (rfl : (_ : Bool) = true) | omega | (intro _ _; with_reducible apply tl_id) | (intro _; with_reducible apply tl_id) | (intro _ _; with_reducible apply al_id) | (intro _; with_reducible apply al_id))
  all_goals rfl

end Go.Proofs.Ytalidommelefaaa
