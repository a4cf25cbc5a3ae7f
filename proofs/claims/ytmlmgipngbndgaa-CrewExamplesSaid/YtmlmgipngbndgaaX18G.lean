/- A part of the proof: rules for walks, and contracts of functions (7). -/
import Derived.Test.YtmlmgipngbndgaaX18E
import Derived.Test.YtmlmgipngbndgaaX18F
import Derived.Test.YtmlmgipngbndgaaX18C
set_option linter.unusedVariables false
set_option linter.unusedSimpArgs false
set_option maxRecDepth 100000
set_option maxHeartbeats 2000000
namespace Go.Proofs.Ytmlmgipngbndgaa
open Go.RowKit
attribute [local irreducible] OQ OS OX Rd T TL GX GL AL AI RV wpG SAny Calls
theorem off_T (bd : Nat) (o : Off) (x y : Option (Nat × Nat)) (hxn : x = none → o.fl.length = 0) (hyn : y = none → o.bk.length = 0) (hv : OkO o) (w : World) (hw : Has w ⟨(deskH bd o x y).map Prod.fst, []⟩ (deskH bd o x y) w) (dk dn ds dp dl : Int) (hO1 : openE o dn = 0) : Calls Try.prog 127 #[.pointer (some ⟨bd, 0, none⟩), .agg ⟨[.int .u8 dk, .int .i64 dn, .int .i64 ds, .int .i64 dp, .int .i64 dl]⟩] w fun e w' => ∃ v H', e = .returned v ∧ DV bd (closedV o dn.toNat (depAt o dn) 2 4) v H' ∧ Has w ⟨(deskH bd o x y).map Prod.fst, []⟩ H' w' := by
 obtain ⟨i, d, rfl, hi, h0⟩ := openE_ok hO1
 have hil := (List.getElem?_eq_some_iff.1 hi).1
 rcases x with _ | ⟨gF, cF⟩
 ·exact absurd (hxn rfl) (by omega)
 have hy0 : ∃ gB, 0 < o.bk.length → clA y = some ⟨gB, 0, none⟩ := by
  rcases y with _ | ⟨gB, cB⟩
  ·exact ⟨0, fun h => absurd (hyn rfl) (by omega)⟩
  ·exact ⟨gB, fun _ => rfl⟩
 obtain ⟨gB, hgB⟩ := hy0
 have hdd := hv.dep hi
 have hnb := hv.nb
 have hnf := hv.nf
 have hout := hv.out
 have hdep : depAt o (i : Int) = d := by unfold depAt; rw [Int.toNat_natCast, hi]
 rw [hdep, Int.toNat_natCast]
 have hi2 : (o.fl.set i ⟨d.seats, d.price, d.leaves, 2⟩)[i]? = some ⟨d.seats, d.price, d.leaves, 2⟩ := by simp [hil]
 have hS1 := dep_set3 hi 2
 have room1 := dep_room hi
 obtain ⟨r0, r1, r2, r3⟩ := dep_at hi
 obtain ⟨_, q1, _⟩ := dep_at hi2
 simp only at q1
 have hpin := fun p => paid_in (f := (i : Int)) (to := 4) (bk := o.bk) ⟨hdd.2.2.1, hdd.2.2.2.1⟩ hnb p
 have hq : True := trivial
 obtain ⟨M, hM⟩ : ∃ M, (deskH bd o (some (gF, cF)) y).map Prod.fst = M := ⟨_, rfl⟩
 rw [hM] at hw ⊢
 refine ds_dv (enter (c := cxM M w 20) (H := deskH bd o (some (gF, cF)) y) (F := frOf 0 _) Try.func127 rfl rfl rfl (fun d v hv => (look_frOf _ 0 d v hv).2) hw ?_)
 unfold deskH flH bkH
 simp only [clH_some, clA_some, clC_some, List.nil_append, List.cons_append]
 repeat' (first | (apply oq_fn; exact rfl; try first | exact trivial | (and_intros <;> omega)) | ((with_reducible apply oq_load); exact rfl; exact rfl) | ((with_reducible apply oq_call (k := 133) (hc := Try.call133)); exact rfl; exact rfl; exact fun D w1 hw1 => flight_ok bd o _ cF (clA y) (clC y) w1 (desk_of (x := some (gF, cF)) (y := y) hw1 (by (repeat (first | exact HpSub.refl _ | (apply HpSub.consE; (repeat (first | exact P0 | apply P1 | apply PA)); exact rfl) | apply HpSub.skipX | apply HpSub.skipX | exact HpSub.nil))) (fun h => by cases h) hyn) (by omega) gF 0 rfl i d hi h0) | (with_reducible apply tl_nil) | ((with_reducible apply u_s); (iterate 3 exact rfl); (with_reducible apply os_callF (PV := OfV bd i (some ⟨_, 0, none⟩) 2 2) (k := 70) (hc := Try.call70)); exact rfl; exact rfl; exact fun D w1 hw1 => of_T _ _ _ _ _ w1; rintro v H' ⟨b0, b1, b2, rfl, rfl⟩; (try simp only [List.cons_append, List.nil_append])) | ((with_reducible apply u_q); (iterate 4 exact rfl)) | ((with_reducible apply u_s0); exact rfl; exact rfl) | ((with_reducible apply u_s); (iterate 3 exact rfl)) | ((with_reducible apply os_storeB (hC := hS1)); (iterate 4 exact rfl); (repeat (first | exact P0 | apply P1 | apply PA)); exact room1) | ((with_reducible apply os_x); exact rfl) | ((with_reducible apply ox_box); exact rfl; exact rfl; intro _) | ((with_reducible apply ox_boxAgg); exact rfl; intro _) | ((with_reducible apply ox_buildSlice1); (iterate 6 exact rfl); intro _) | (apply Rd.own; (repeat (first | exact P0 | apply P1 | apply PA)); exact rfl; done) | (with_reducible apply t_seq) | (apply t_region; kernel_rfl) | (with_reducible apply t_block) | with_reducible apply q_thenN)
 rename_i bt bm bs
 refine t_rangeV (m := 1) (α := Ix o.bk.length) (β := Unit) (κ := Unit) (ι := Nat) (encs := fun z => [.pointer (some ⟨gB, 0 + z.1 * 3, none⟩)]) (Rq := fun _ W => OfAt b0 b1 b2 bd (clA y) o.bk.length (clC y) i (some ⟨bs, 0, none⟩) 2 2 [1, 2] W) (G := OfG (clA y) o.bk.length i [1, 2]) (E := OfE (clA y) o.bk.length i [1, 2])
  (hk := (b2, [.slice (some ⟨bs, 0, none⟩) 2 2], some (109, 1, 1)) :: (b1, [.int .i64 i], some (3, 1, 1)) :: (b0, [.pointer (some ⟨bd, 0, none⟩)], some (121, 1, 1)) :: (bs, [.int .u8 1, .int .u8 2], some (5, 1, 2)) :: (bm, [.int .u8 dk, .int .i64 (i : Int), .int .i64 ds, .int .i64 dp, .int .i64 dl], some (63, 5, 1)) :: (bt, [.pointer (some ⟨bd, 0, none⟩)], some (121, 1, 1)) :: (gF, ((o.fl.set i ⟨d.seats, d.price, d.leaves, 2⟩).map depCells).flatten, some (106, 4, cF)) :: [])
  (fun p => (bd, offCells { o with out := o.out + paidTo o.bk i 4 d.price p } (some ⟨gF, 0, none⟩) cF (clA y) (clC y), some (135, 7, 1)) :: clH 71 3 ((midS i 4 o.bk p).map bkCells).flatten y) (fun pre p => p = bnd pre) (fun _ _ => []) (fun z _ => [(4, .pointer (some ⟨gB, 0 + z.1 * 3, none⟩)), (2, .pointer (some ⟨bt, 0, none⟩))]) (fun _ => [])
  (fun k _ n => False) 0 rfl Try.call100
  (of1_seqV 2 b0 b1 b2 bd gB 0 (clA y) o.bk.length (clC y) i (some ⟨bs, 0, none⟩) 2 2 [1, 2] hgB (by omega) (by omega)) (fun n0 x => OfG.abide _ _ _ _ n0 x) (fun n0 => OfE.abide _ _ _ _ n0) ?rq ?h0 ?sub ?ok ?done (fun _ _ _ h => h.elim)
 case rq =>
  rintro pre p D W _ hw
  have hrd : RdS W 3 (clA y) o.bk.length ((midS i 4 o.bk p).map bkCells) := clH_rows (hw.left.sub (HpSub.skipX (HpSub.refl _))) (fun _ => rfl) (midS_len ..) hyn
  have hw' := hw.right
  exact ⟨hw'.cellAt (by (repeat (first | exact P0 | apply P1 | apply PA))) rfl, hw'.cellAt (by (repeat (first | exact P0 | apply P1 | apply PA))) rfl, hw'.cellAt (by (repeat (first | exact P0 | apply P1 | apply PA))) rfl, two8 hw' (by (repeat (first | exact P0 | apply P1 | apply PA))), hw.left.cellAt (by (repeat (first | exact P0 | apply P1 | apply PA))) rfl, _, hrd⟩
 case h0 => rfl
 case sub =>
  have hz : paidTo o.bk (i : Int) 4 d.price 0 = 0 := by simp [paidTo, paidV]
  rw [hz, midS_zero, Int.add_zero]
  simp only [List.cons_append, List.nil_append]
  rcases y with _ | ⟨gB', cB'⟩ <;> simp only [clH, List.nil_append, List.cons_append]
  all_goals (repeat (first | exact HpSub.refl _ | (apply HpSub.consE; (repeat (first | exact P0 | apply P1 | apply PA)); exact rfl) | apply HpSub.skipX | exact HpSub.nil))
 case ok =>
  refine ⟨fun _ => rfl, rfl, fun x W => .inr ?_, fun x b i n W D hb hw _ y hy => (List.not_mem_nil hy).elim, fun l' pre z p b W D hpp hw hG hl' => ?_⟩
  ·refine sl0_region (by kernel_rfl) ?_
   repeat' (first | (apply oq_fn; exact rfl; try first | exact trivial | (and_intros <;> omega)) | (with_reducible apply tl_nil) | ((with_reducible apply u_q); (iterate 4 exact rfl)))
   refine ⟨(), ?_, ?_⟩
   ·(repeat (first | exact FrSub.nil | (apply FrSub.cons; exact rfl)))
   ·(repeat (first | exact HpSub.refl _ | (apply HpSub.consE; (repeat (first | exact P0 | apply P1 | apply PA)); exact rfl) | apply HpSub.skipX | exact HpSub.nil))
  ·obtain ⟨hbe, bk', hr', hm, hno⟩ := hG
   have hzl : z.1 < o.bk.length := z.2
   rcases y with _ | ⟨gB', cB⟩
   ·exact absurd (hyn rfl) (by omega)
   obtain rfl : gB' = gB := by have := hgB (by omega); cases this; rfl
   have m0 := hw.off (b := gF) (by simp)
   have m1 := hw.off (b := bt) (by simp)
   simp only [List.cons_append, List.nil_append, clH_some, clA_some, clC_some, List.map_cons, List.map_nil] at m0 m1
   simp only [List.cons_append, List.nil_append, clH_some, clA_some, clC_some] at hw hr' ⊢
   obtain rfl := bk_inj (hr'.inj (clH_rows (x := some (gB', cB)) (hw.sub (by refine HpSub.skipX ?_; simp only [clH_some]; (repeat (first | exact HpSub.refl _ | (apply HpSub.consE; (repeat (first | exact P0 | apply P1 | apply PA)); exact rfl) | apply HpSub.skipX | exact HpSub.nil)))) (fun _ => rfl) (midS_len ..) (fun h => by cases h)))
   obtain ⟨u, hu⟩ : ∃ u, o.bk[z.1]? = some u := ⟨_, List.getElem?_eq_getElem hzl⟩
   have hpz : p ≤ z.1 := by rw [hpp]; exact behind_iff.1 hbe
   have hmu := hm u (by rw [midS_at hpz]; exact hu)
   obtain ⟨g1, g2⟩ := midS_gap (f := (i : Int)) (to := 4) (price := d.price) hpz (fun j y h1 h2 h3 => hno j y (behind_iff.2 (by rw [← hpp]; exact h1)) h2 (by rw [midS_at h1]; exact h3))
   rw [← g1, ← g2] at hw ⊢
   have hu2 : (midS i 4 o.bk z.1)[z.1]? = some u := by rw [midS_at (Nat.le_refl _)]; exact hu
   rw [mt_is2] at hmu
   have hfu : u.flight = (i : Int) := by
    unfold isB at hmu
    simp only [Bool.or_eq_true, Bool.and_eq_true, decide_eq_true_eq] at hmu
    rcases hmu with h | h <;> exact h.1
   have hsu : u.state = 1 ∨ u.state = 2 := by
    unfold isB at hmu
    simp only [Bool.or_eq_true, Bool.and_eq_true, decide_eq_true_eq] at hmu
    rcases hmu with h | h
    ·exact .inl h.2
    ·exact .inr h.2
   have hk0 := hv.kept0 (List.mem_of_getElem? hu) hsu
   have hbo : -1000000000 ≤ o.out + paidTo o.bk i 4 d.price z.1 ∧ o.out + paidTo o.bk i 4 d.price z.1 ≤ 1000000000 := by
    have h1 := hpin z.1
    have h2 : o.out = (sumsV o.fl o.bk).back := by
     have := hv.money
     unfold moneyB at this
     simp only [Bool.and_eq_true, decide_eq_true_eq] at this
     exact this.2
    have h3 := sums_in hv.deps hv.bks (Nat.le_refl o.bk.length)
    rw [sums_all (Nat.le_refl _)] at h3
    unfold Small at h3
    omega
   have hms := midS_step (f := (i : Int)) (to := 4) hu
   have hps := paid_step (f := (i : Int)) (to := 4) (price := d.price) hu
   have c0 : W.cell? ⟨gF, 0 + i * 4 + 1, none⟩ = some (.int .i64 d.price) := hw.cellAt (by (repeat (first | exact P0 | apply P1 | apply PA))) q1
   have c1 : W.cell? ⟨bt, 0, none⟩ = some (.pointer (some ⟨bd, 0, none⟩)) := hw.cellAt (by (repeat (first | exact P0 | apply P1 | apply PA))) rfl
   obtain ⟨s0, s1, s2⟩ := bk_at hu2
   have hsh : shutB (i : Int) 4 u = ⟨u.flight, 4, 0⟩ := by
    unfold shutB
    rcases hsu with h | h
    ·rw [if_pos (by unfold isB; simp [hfu, h]), hk0]
    ·rw [if_neg (by unfold isB; simp [h]), if_pos (by unfold isB; simp [hfu, h]), hk0]
   have hbb : backB (i : Int) 4 u = true := by
    unfold backB
    rw [Bool.or_eq_true] at hmu
    rcases hmu with h | h
    ·rw [h]; rfl
    ·rw [h]; simp
   ·repeat' (first | (apply oq_fn; exact rfl; try first | exact trivial | (and_intros <;> omega)) | ((with_reducible apply oq_load); exact rfl; exact rfl) | (with_reducible apply tl_nil) | ((with_reducible apply u_s); (iterate 3 exact rfl); (apply os_callM (PV := fun v H => v = .tuple #[] ∧ H = [(bd, offCells { o with out := o.out + paidTo o.bk i 4 d.price (Subtype.val z) + (d.price - 0) } (some ⟨gF, 0, none⟩) cF (some ⟨gB', 0, none⟩) cB, some (135, 7, 1)), (gB', (((midS i 4 o.bk (Subtype.val z)).set (Subtype.val z) ⟨u.flight, 4, 0⟩).map bkCells).flatten, some (71, 3, cB))]) (G := [(bd, offCells { o with out := o.out + paidTo o.bk i 4 d.price (Subtype.val z) } (some ⟨gF, 0, none⟩) cF (some ⟨gB', 0, none⟩) cB, some (135, 7, 1)), (gB', ((midS i 4 o.bk (Subtype.val z)).map bkCells).flatten, some (71, 3, cB))]) (R := []) (k := 135) (hc := Try.call135)); exact rfl; exact rfl; (focus (simp only [List.append_nil]; (repeat (first | exact HpSub.refl _ | (apply HpSub.consE; (repeat (first | exact P0 | apply P1 | apply PA)); exact rfl) | apply HpSub.skipX | apply HpSub.skipX | exact HpSub.nil)))); exact (fun D w1 hw1 hwG => repay_T bd gB' cB gF 0 cF i (Subtype.val z) { o with out := o.out + paidTo o.bk i 4 d.price (Subtype.val z) } (some (135, 7, 1)) (some (71, 3, cB)) d.price 0 (midS i 4 o.bk (Subtype.val z)) u w1 hwG hu2 hfu hil (hw1.old c0 m0) m0 hbo ⟨hdd.2.2.1, hdd.2.2.2.1⟩ ⟨by decide, by decide⟩); rintro v H1 ⟨rfl, rfl⟩; (try simp only [List.append_nil])) | ((with_reducible apply u_q); (iterate 4 exact rfl)) | (apply Rd.old; (first | (with_reducible assumption) | exact c0 | exact c1 | exact c2 | exact c3 | exact c4 | exact c5 | exact c6 | exact c7 | exact c8 | exact d0 | exact d1 | exact d2 | exact d3 | exact d4 | exact d5); first | exact List.not_mem_nil | exact m0 | exact m1 | exact m2 | exact m3 | exact m4 | exact m5 | exact m6 | exact m7 | exact m8 | exact m9) | (apply t_region; kernel_rfl) | (with_reducible apply t_block) | with_reducible apply q_blockN)
    refine ⟨z.1 + 1, (by show z.1 + 1 = bnd (pre ++ [z]); rw [bnd_snoc hbe]), ?_⟩
    rw [hsh] at hms
    rw [hbb] at hps
    simp only [if_true] at hps
    have hz2 := (show o.out + (paidTo o.bk (i : Int) 4 d.price z.1 + d.price) = o.out + paidTo o.bk (i : Int) 4 d.price z.1 + (d.price - 0) from (by omega))
    simp only [hms, hps, clH_some, hz2]
    (repeat (first | exact HpSub.refl _ | (apply HpSub.consE; (repeat (first | exact P0 | apply P1 | apply PA)); exact rfl) | apply HpSub.skipX | exact HpSub.nil))
 case done =>
  rintro D xs p W ⟨bk', hr', hno⟩ hpp hw
  have hrd : RdS W 3 (clA y) o.bk.length ((midS i 4 o.bk p).map bkCells) := clH_rows (hw.left.sub (HpSub.skipX (HpSub.refl _))) (fun _ => rfl) (midS_len ..) hyn
  obtain rfl := bk_inj (hr'.inj hrd)
  obtain ⟨e1, e2⟩ := midS_end (f := (i : Int)) (to := 4) (price := d.price) (p := p) (bk := o.bk) (fun j y h1 h2 => hno j y (behind_iff.2 (by rw [← hpp]; exact h1)) (by rw [midS_at h1]; exact h2))
  rw [e1, e2]
  simp only [List.cons_append]
  repeat' (first | with_reducible apply q_blockN | (with_reducible apply end_normal) | exact rvs_nil)
  all_goals (refine ⟨rfl, some (gF, cF), y, (fun h => by cases h), (fun h => by simp only [closedV, List.length_map]; exact hyn h), ?_⟩)
  all_goals (unfold deskH flH bkH; rw [offCells_len (o := { o with out := o.out + paidV o.bk (i : Int) 4 d.price }) (o' := closedV o i d 2 4) rfl rfl rfl rfl rfl (List.length_set ..) (List.length_map ..)])
  all_goals (simp only [closedV, clH_some, clA_some, clC_some, List.nil_append, List.cons_append])
  all_goals (rcases y with _ | ⟨gB', cB'⟩ <;> simp only [clH, List.nil_append, List.cons_append])
  all_goals (repeat (first | exact HpSub.refl _ | (apply HpSub.consE; (repeat (first | exact P0 | apply P1 | apply PA)); exact rfl) | apply HpSub.skipX | exact HpSub.nil))
theorem leave_T (bd : Nat) (o : Off) (x y : Option (Nat × Nat)) (hxn : x = none → o.fl.length = 0) (hyn : y = none → o.bk.length = 0) (hv : OkO o) (w : World) (hw : Has w ⟨(deskH bd o x y).map Prod.fst, []⟩ (deskH bd o x y) w) (dk dn ds dp dl : Int) (hO1 : openE o dn = 0) (hle : (depAt o dn).leaves ≤ o.now) : Calls Try.prog 126 #[.pointer (some ⟨bd, 0, none⟩), .agg ⟨[.int .u8 dk, .int .i64 dn, .int .i64 ds, .int .i64 dp, .int .i64 dl]⟩] w fun e w' => ∃ v H', e = .returned v ∧ DV bd (closedV o dn.toNat (depAt o dn) 1 3) v H' ∧ Has w ⟨(deskH bd o x y).map Prod.fst, []⟩ H' w' := by
 obtain ⟨i, d, rfl, hi, h0⟩ := openE_ok hO1
 have hil := (List.getElem?_eq_some_iff.1 hi).1
 rcases x with _ | ⟨gF, cF⟩
 ·exact absurd (hxn rfl) (by omega)
 have hy0 : ∃ gB, 0 < o.bk.length → clA y = some ⟨gB, 0, none⟩ := by
  rcases y with _ | ⟨gB, cB⟩
  ·exact ⟨0, fun h => absurd (hyn rfl) (by omega)⟩
  ·exact ⟨gB, fun _ => rfl⟩
 obtain ⟨gB, hgB⟩ := hy0
 have hdd := hv.dep hi
 have hnb := hv.nb
 have hnf := hv.nf
 have hout := hv.out
 have hdep : depAt o (i : Int) = d := by unfold depAt; rw [Int.toNat_natCast, hi]
 rw [hdep, Int.toNat_natCast]
 have hi2 : (o.fl.set i ⟨d.seats, d.price, d.leaves, 1⟩)[i]? = some ⟨d.seats, d.price, d.leaves, 1⟩ := by simp [hil]
 have hS1 := dep_set3 hi 1
 have room1 := dep_room hi
 obtain ⟨r0, r1, r2, r3⟩ := dep_at hi
 obtain ⟨_, q1, _⟩ := dep_at hi2
 simp only at q1
 have hpin := fun p => paid_in (f := (i : Int)) (to := 3) (bk := o.bk) ⟨hdd.2.2.1, hdd.2.2.2.1⟩ hnb p
 rw [hdep] at hle
 obtain ⟨M, hM⟩ : ∃ M, (deskH bd o (some (gF, cF)) y).map Prod.fst = M := ⟨_, rfl⟩
 rw [hM] at hw ⊢
 refine ds_dv (enter (c := cxM M w 41) (H := deskH bd o (some (gF, cF)) y) (F := frOf 0 _) Try.func126 rfl rfl rfl (fun d v hv => (look_frOf _ 0 d v hv).2) hw ?_)
 unfold deskH flH bkH
 simp only [clH_some, clA_some, clC_some, List.nil_append, List.cons_append]
 repeat' (first | ((with_reducible apply oq_geqT); exact rfl; exact rfl; omega) | (apply oq_fn; exact rfl; try first | exact trivial | (and_intros <;> omega)) | ((with_reducible apply oq_load); exact rfl; exact rfl) | ((with_reducible apply oq_call (k := 133) (hc := Try.call133)); exact rfl; exact rfl; exact fun D w1 hw1 => flight_ok bd o _ cF (clA y) (clC y) w1 (desk_of (x := some (gF, cF)) (y := y) hw1 (by (repeat (first | exact HpSub.refl _ | (apply HpSub.consE; (repeat (first | exact P0 | apply P1 | apply PA)); exact rfl) | apply HpSub.skipX | apply HpSub.skipX | exact HpSub.nil))) (fun h => by cases h) hyn) (by omega) gF 0 rfl i d hi h0) | ((with_reducible apply oq_call (k := 106) (hc := Try.call106)); exact rfl; exact rfl; exact fun D w1 hw1 => must_ok _ w1) | (with_reducible apply tl_nil) | ((with_reducible apply u_s); (iterate 3 exact rfl); (with_reducible apply os_callF (PV := OfV bd i (some ⟨_, 0, none⟩) 2 2) (k := 70) (hc := Try.call70)); exact rfl; exact rfl; exact fun D w1 hw1 => of_T _ _ _ _ _ w1; rintro v H' ⟨b0, b1, b2, rfl, rfl⟩; (try simp only [List.cons_append, List.nil_append])) | ((with_reducible apply u_q); (iterate 4 exact rfl)) | ((with_reducible apply u_s0); exact rfl; exact rfl) | ((with_reducible apply u_s); (iterate 3 exact rfl)) | (with_reducible apply v_nil) | ((with_reducible apply v_q); (iterate 3 exact rfl)) | ((with_reducible apply os_storeB (hC := hS1)); (iterate 4 exact rfl); (repeat (first | exact P0 | apply P1 | apply PA)); exact room1) | ((with_reducible apply os_x); exact rfl) | ((with_reducible apply ox_box); exact rfl; exact rfl; intro _) | ((with_reducible apply ox_boxAgg); exact rfl; intro _) | ((with_reducible apply ox_buildSlice1); (iterate 6 exact rfl); intro _) | (apply Rd.own; (repeat (first | exact P0 | apply P1 | apply PA)); first | exact r0 | exact r1 | exact r2 | exact r3 | exact s0 | exact s1 | exact s2; done) | (apply Rd.own; (repeat (first | exact P0 | apply P1 | apply PA)); exact rfl; done) | (with_reducible apply t_seq) | (apply t_region; kernel_rfl) | (apply t_drawn; kernel_rfl; decide +kernel; try simp only [List.append_eq, List.cons_append, List.nil_append]) | (with_reducible apply t_block) | with_reducible apply q_thenN)
 rename_i bt bm bs
 refine t_rangeV (m := 1) (α := Ix o.bk.length) (β := Unit) (κ := Unit) (ι := Nat) (encs := fun z => [.pointer (some ⟨gB, 0 + z.1 * 3, none⟩)]) (Rq := fun _ W => OfAt b0 b1 b2 bd (clA y) o.bk.length (clC y) i (some ⟨bs, 0, none⟩) 2 2 [1, 2] W) (G := OfG (clA y) o.bk.length i [1, 2]) (E := OfE (clA y) o.bk.length i [1, 2])
  (hk := (b2, [.slice (some ⟨bs, 0, none⟩) 2 2], some (109, 1, 1)) :: (b1, [.int .i64 i], some (3, 1, 1)) :: (b0, [.pointer (some ⟨bd, 0, none⟩)], some (121, 1, 1)) :: (bs, [.int .u8 1, .int .u8 2], some (5, 1, 2)) :: (bm, [.int .u8 dk, .int .i64 (i : Int), .int .i64 ds, .int .i64 dp, .int .i64 dl], some (63, 5, 1)) :: (bt, [.pointer (some ⟨bd, 0, none⟩)], some (121, 1, 1)) :: (gF, ((o.fl.set i ⟨d.seats, d.price, d.leaves, 1⟩).map depCells).flatten, some (106, 4, cF)) :: [])
  (fun p => (bd, offCells { o with out := o.out + paidTo o.bk i 3 d.price p } (some ⟨gF, 0, none⟩) cF (clA y) (clC y), some (135, 7, 1)) :: clH 71 3 ((midS i 3 o.bk p).map bkCells).flatten y) (fun pre p => p = bnd pre) (fun _ _ => []) (fun z _ => [(5, .pointer (some ⟨gB, 0 + z.1 * 3, none⟩)), (2, .pointer (some ⟨bt, 0, none⟩))]) (fun _ => [])
  (fun k _ n => False) 0 rfl Try.call100
  (of1_seqV 2 b0 b1 b2 bd gB 0 (clA y) o.bk.length (clC y) i (some ⟨bs, 0, none⟩) 2 2 [1, 2] hgB (by omega) (by omega)) (fun n0 x => OfG.abide _ _ _ _ n0 x) (fun n0 => OfE.abide _ _ _ _ n0) ?rq ?h0 ?sub ?ok ?done (fun _ _ _ h => h.elim)
 case rq =>
  rintro pre p D W _ hw
  have hrd : RdS W 3 (clA y) o.bk.length ((midS i 3 o.bk p).map bkCells) := clH_rows (hw.left.sub (HpSub.skipX (HpSub.refl _))) (fun _ => rfl) (midS_len ..) hyn
  have hw' := hw.right
  exact ⟨hw'.cellAt (by (repeat (first | exact P0 | apply P1 | apply PA))) rfl, hw'.cellAt (by (repeat (first | exact P0 | apply P1 | apply PA))) rfl, hw'.cellAt (by (repeat (first | exact P0 | apply P1 | apply PA))) rfl, two8 hw' (by (repeat (first | exact P0 | apply P1 | apply PA))), hw.left.cellAt (by (repeat (first | exact P0 | apply P1 | apply PA))) rfl, _, hrd⟩
 case h0 => rfl
 case sub =>
  have hz : paidTo o.bk (i : Int) 3 d.price 0 = 0 := by simp [paidTo, paidV]
  rw [hz, midS_zero, Int.add_zero]
  simp only [List.cons_append, List.nil_append]
  rcases y with _ | ⟨gB', cB'⟩ <;> simp only [clH, List.nil_append, List.cons_append]
  all_goals (repeat (first | exact HpSub.refl _ | (apply HpSub.consE; (repeat (first | exact P0 | apply P1 | apply PA)); exact rfl) | apply HpSub.skipX | exact HpSub.nil))
 case ok =>
  refine ⟨fun _ => rfl, rfl, fun x W => .inr ?_, fun x b i n W D hb hw _ y hy => (List.not_mem_nil hy).elim, fun l' pre z p b W D hpp hw hG hl' => ?_⟩
  ·refine sl0_region (by kernel_rfl) ?_
   repeat' (first | (apply oq_fn; exact rfl; try first | exact trivial | (and_intros <;> omega)) | (with_reducible apply tl_nil) | ((with_reducible apply u_q); (iterate 4 exact rfl)))
   refine ⟨(), ?_, ?_⟩
   ·(repeat (first | exact FrSub.nil | (apply FrSub.cons; exact rfl)))
   ·(repeat (first | exact HpSub.refl _ | (apply HpSub.consE; (repeat (first | exact P0 | apply P1 | apply PA)); exact rfl) | apply HpSub.skipX | exact HpSub.nil))
  ·obtain ⟨hbe, bk', hr', hm, hno⟩ := hG
   have hzl : z.1 < o.bk.length := z.2
   rcases y with _ | ⟨gB', cB⟩
   ·exact absurd (hyn rfl) (by omega)
   obtain rfl : gB' = gB := by have := hgB (by omega); cases this; rfl
   have m0 := hw.off (b := gF) (by simp)
   have m1 := hw.off (b := bt) (by simp)
   simp only [List.cons_append, List.nil_append, clH_some, clA_some, clC_some, List.map_cons, List.map_nil] at m0 m1
   simp only [List.cons_append, List.nil_append, clH_some, clA_some, clC_some] at hw hr' ⊢
   obtain rfl := bk_inj (hr'.inj (clH_rows (x := some (gB', cB)) (hw.sub (by refine HpSub.skipX ?_; simp only [clH_some]; (repeat (first | exact HpSub.refl _ | (apply HpSub.consE; (repeat (first | exact P0 | apply P1 | apply PA)); exact rfl) | apply HpSub.skipX | exact HpSub.nil)))) (fun _ => rfl) (midS_len ..) (fun h => by cases h)))
   obtain ⟨u, hu⟩ : ∃ u, o.bk[z.1]? = some u := ⟨_, List.getElem?_eq_getElem hzl⟩
   have hpz : p ≤ z.1 := by rw [hpp]; exact behind_iff.1 hbe
   have hmu := hm u (by rw [midS_at hpz]; exact hu)
   obtain ⟨g1, g2⟩ := midS_gap (f := (i : Int)) (to := 3) (price := d.price) hpz (fun j y h1 h2 h3 => hno j y (behind_iff.2 (by rw [← hpp]; exact h1)) h2 (by rw [midS_at h1]; exact h3))
   rw [← g1, ← g2] at hw ⊢
   have hu2 : (midS i 3 o.bk z.1)[z.1]? = some u := by rw [midS_at (Nat.le_refl _)]; exact hu
   rw [mt_is2] at hmu
   have hfu : u.flight = (i : Int) := by
    unfold isB at hmu
    simp only [Bool.or_eq_true, Bool.and_eq_true, decide_eq_true_eq] at hmu
    rcases hmu with h | h <;> exact h.1
   have hsu : u.state = 1 ∨ u.state = 2 := by
    unfold isB at hmu
    simp only [Bool.or_eq_true, Bool.and_eq_true, decide_eq_true_eq] at hmu
    rcases hmu with h | h
    ·exact .inl h.2
    ·exact .inr h.2
   have hk0 := hv.kept0 (List.mem_of_getElem? hu) hsu
   have hbo : -1000000000 ≤ o.out + paidTo o.bk i 3 d.price z.1 ∧ o.out + paidTo o.bk i 3 d.price z.1 ≤ 1000000000 := by
    have h1 := hpin z.1
    have h2 : o.out = (sumsV o.fl o.bk).back := by
     have := hv.money
     unfold moneyB at this
     simp only [Bool.and_eq_true, decide_eq_true_eq] at this
     exact this.2
    have h3 := sums_in hv.deps hv.bks (Nat.le_refl o.bk.length)
    rw [sums_all (Nat.le_refl _)] at h3
    unfold Small at h3
    omega
   have hms := midS_step (f := (i : Int)) (to := 3) hu
   have hps := paid_step (f := (i : Int)) (to := 3) (price := d.price) hu
   have c0 : W.cell? ⟨gF, 0 + i * 4 + 1, none⟩ = some (.int .i64 d.price) := hw.cellAt (by (repeat (first | exact P0 | apply P1 | apply PA))) q1
   have c1 : W.cell? ⟨bt, 0, none⟩ = some (.pointer (some ⟨bd, 0, none⟩)) := hw.cellAt (by (repeat (first | exact P0 | apply P1 | apply PA))) rfl
   obtain ⟨s0, s1, s2⟩ := bk_at hu2
   by_cases h2 : u.state = 2
   ·have hsh : shutB (i : Int) 3 u = ⟨u.flight, 4, 0⟩ := by
     unfold shutB
     rw [if_neg (by unfold isB; simp [h2]), if_pos (by unfold isB; simp [hfu, h2]), hk0]
    have hbb : backB (i : Int) 3 u = true := by
     unfold backB isB
     simp [hfu, h2]
    repeat' (first | ((with_reducible apply oq_eqlT); exact rfl; exact rfl; omega) | (apply oq_fn; exact rfl; try first | exact trivial | (and_intros <;> omega)) | ((with_reducible apply oq_load); exact rfl; exact rfl) | (with_reducible apply tl_nil) | ((with_reducible apply u_s); (iterate 3 exact rfl); (apply os_callM (PV := fun v H => v = .tuple #[] ∧ H = [(bd, offCells { o with out := o.out + paidTo o.bk i 3 d.price (Subtype.val z) + (d.price - 0) } (some ⟨gF, 0, none⟩) cF (some ⟨gB', 0, none⟩) cB, some (135, 7, 1)), (gB', (((midS i 3 o.bk (Subtype.val z)).set (Subtype.val z) ⟨u.flight, 4, 0⟩).map bkCells).flatten, some (71, 3, cB))]) (G := [(bd, offCells { o with out := o.out + paidTo o.bk i 3 d.price (Subtype.val z) } (some ⟨gF, 0, none⟩) cF (some ⟨gB', 0, none⟩) cB, some (135, 7, 1)), (gB', ((midS i 3 o.bk (Subtype.val z)).map bkCells).flatten, some (71, 3, cB))]) (R := []) (k := 135) (hc := Try.call135)); exact rfl; exact rfl; (focus (simp only [List.append_nil]; (repeat (first | exact HpSub.refl _ | (apply HpSub.consE; (repeat (first | exact P0 | apply P1 | apply PA)); exact rfl) | apply HpSub.skipX | apply HpSub.skipX | exact HpSub.nil)))); exact (fun D w1 hw1 hwG => repay_T bd gB' cB gF 0 cF i (Subtype.val z) { o with out := o.out + paidTo o.bk i 3 d.price (Subtype.val z) } (some (135, 7, 1)) (some (71, 3, cB)) d.price 0 (midS i 3 o.bk (Subtype.val z)) u w1 hwG hu2 hfu hil (hw1.old c0 m0) m0 hbo ⟨hdd.2.2.1, hdd.2.2.2.1⟩ ⟨by decide, by decide⟩); rintro v H1 ⟨rfl, rfl⟩; (try simp only [List.append_nil])) | ((with_reducible apply u_q); (iterate 4 exact rfl)) | (apply Rd.own; (repeat (first | exact P0 | apply P1 | apply PA)); first | exact r0 | exact r1 | exact r2 | exact r3 | exact s0 | exact s1 | exact s2; done) | (apply Rd.old; (first | (with_reducible assumption) | exact c0 | exact c1 | exact c2 | exact c3 | exact c4 | exact c5 | exact c6 | exact c7 | exact c8 | exact d0 | exact d1 | exact d2 | exact d3 | exact d4 | exact d5); first | exact List.not_mem_nil | exact m0 | exact m1 | exact m2 | exact m3 | exact m4 | exact m5 | exact m6 | exact m7 | exact m8 | exact m9) | (with_reducible apply t_seq) | (apply t_region; kernel_rfl) | ((with_reducible apply t_condT); exact rfl) | (with_reducible apply t_block) | with_reducible apply q_thenN | with_reducible apply q_blockN)
    refine ⟨z.1 + 1, (by show z.1 + 1 = bnd (pre ++ [z]); rw [bnd_snoc hbe]), ?_⟩
    rw [hsh] at hms
    rw [hbb] at hps
    simp only [if_true] at hps
    have hz2 := (show o.out + (paidTo o.bk (i : Int) 3 d.price z.1 + d.price) = o.out + paidTo o.bk (i : Int) 3 d.price z.1 + (d.price - 0) from (by omega))
    simp only [hms, hps, clH_some, hz2]
    (repeat (first | exact HpSub.refl _ | (apply HpSub.consE; (repeat (first | exact P0 | apply P1 | apply PA)); exact rfl) | apply HpSub.skipX | exact HpSub.nil))
   ·have h1 : u.state = 1 := by omega
    have hsh : shutB (i : Int) 3 u = ⟨u.flight, 3, u.kept⟩ := by
     unfold shutB
     rw [if_pos (by unfold isB; simp [hfu, h1])]
    have hbb : backB (i : Int) 3 u = false := by
     unfold backB isB
     simp [h1]
    have hS2 := bk_set1 hu2 3
    have room2 := Nat.le_of_succ_le (bk_room hu2)
    repeat' (first | ((with_reducible apply oq_eqlF); exact rfl; exact rfl; omega) | (apply oq_fn; exact rfl; try first | exact trivial | (and_intros <;> omega)) | ((with_reducible apply oq_load); exact rfl; exact rfl) | (with_reducible apply tl_nil) | ((with_reducible apply u_q); (iterate 4 exact rfl)) | ((with_reducible apply u_s0); exact rfl; exact rfl) | ((with_reducible apply os_storeB (hC := hS2)); (iterate 4 exact rfl); (repeat (first | exact P0 | apply P1 | apply PA)); exact room2) | (apply Rd.own; (repeat (first | exact P0 | apply P1 | apply PA)); first | exact r0 | exact r1 | exact r2 | exact r3 | exact s0 | exact s1 | exact s2; done) | (with_reducible apply t_seq) | (apply t_region; kernel_rfl) | ((with_reducible apply t_condF); exact rfl) | (with_reducible apply t_block) | with_reducible apply q_thenN | with_reducible apply q_blockN)
    refine ⟨z.1 + 1, (by show z.1 + 1 = bnd (pre ++ [z]); rw [bnd_snoc hbe]), ?_⟩
    rw [hsh] at hms
    rw [hbb] at hps
    simp only [if_false, Bool.false_eq_true, Int.add_zero] at hps
    simp only [hms, hps, clH_some]
    (repeat (first | exact HpSub.refl _ | (apply HpSub.consE; (repeat (first | exact P0 | apply P1 | apply PA)); exact rfl) | apply HpSub.skipX | exact HpSub.nil))
 case done =>
  rintro D xs p W ⟨bk', hr', hno⟩ hpp hw
  have hrd : RdS W 3 (clA y) o.bk.length ((midS i 3 o.bk p).map bkCells) := clH_rows (hw.left.sub (HpSub.skipX (HpSub.refl _))) (fun _ => rfl) (midS_len ..) hyn
  obtain rfl := bk_inj (hr'.inj hrd)
  obtain ⟨e1, e2⟩ := midS_end (f := (i : Int)) (to := 3) (price := d.price) (p := p) (bk := o.bk) (fun j y h1 h2 => hno j y (behind_iff.2 (by rw [← hpp]; exact h1)) (by rw [midS_at h1]; exact h2))
  rw [e1, e2]
  simp only [List.cons_append]
  repeat' (first | with_reducible apply q_blockN | (with_reducible apply end_normal) | exact rvs_nil)
  all_goals (refine ⟨rfl, some (gF, cF), y, (fun h => by cases h), (fun h => by simp only [closedV, List.length_map]; exact hyn h), ?_⟩)
  all_goals (unfold deskH flH bkH; rw [offCells_len (o := { o with out := o.out + paidV o.bk (i : Int) 3 d.price }) (o' := closedV o i d 1 3) rfl rfl rfl rfl rfl (List.length_set ..) (List.length_map ..)])
  all_goals (simp only [closedV, clH_some, clA_some, clC_some, List.nil_append, List.cons_append])
  all_goals (rcases y with _ | ⟨gB', cB'⟩ <;> simp only [clH, List.nil_append, List.cons_append])
  all_goals (repeat (first | exact HpSub.refl _ | (apply HpSub.consE; (repeat (first | exact P0 | apply P1 | apply PA)); exact rfl) | apply HpSub.skipX | exact HpSub.nil))
end Go.Proofs.Ytmlmgipngbndgaa
namespace Go.Proofs.Ytmlmgipngbndgaa
open Go.RowKit
attribute [local irreducible] DT DE TE AE OP OQ OS OX Rd T TL GX GL AL AI RV wpG SAny Calls
/-- An office at work, somewhere. -/
def AtW (bd : Nat) (o : Off) (H : Hp) : Prop := ∃ x y, (x = none → o.fl.length = 0) ∧ (y = none → o.bk.length = 0) ∧ H = deskH bd o x y
theorem do_gen (bd : Nat) (o : Off) (x y : Option (Nat × Nat)) (w : World) (hw : Has w ⟨(deskH bd o x y).map Prod.fst, []⟩ (deskH bd o x y) w) (k dki : Nat) (dk dn ds dp dl : Int) (hdk : dk = (dki : Int)) (h1 : 1 ≤ dki) (h7 : dki ≤ 7) (hk : ([.nilFunc, .func (.func 123) #[] #[], .func (.func 124) #[] #[], .func (.func 125) #[] #[], .func (.func 126) #[] #[], .func (.func 127) #[] #[], .func (.func 128) #[] #[], .func (.func 129) #[] #[]] : List Value)[0 + dk.toNat * 1]? = some (.func (.func k) #[] #[])) (hcf : ∀ (a : Array Value) (w : World), (callFunc k a).run Try.prog w = .ok (.enter k a) w) (o' : Off)
  (HC : ∀ w1, Has w1 ⟨(deskH bd o x y).map Prod.fst, []⟩ (deskH bd o x y) w1 → Calls Try.prog k #[.pointer (some ⟨bd, 0, none⟩), .agg ⟨[.int .u8 dk, .int .i64 dn, .int .i64 ds, .int .i64 dp, .int .i64 dl]⟩] w1 fun e w' => ∃ v H', e = .returned v ∧ DV bd o' v H' ∧ Has w1 ⟨(deskH bd o x y).map Prod.fst, []⟩ H' w') :
  Calls Try.prog 79 #[.pointer (some ⟨bd, 0, none⟩), .agg ⟨[.int .u8 dk, .int .i64 dn, .int .i64 ds, .int .i64 dp, .int .i64 dl]⟩] w fun e w' => ∃ v H', e = .returned v ∧ (v = .int .i64 0 ∧ AtW bd o' H') ∧ Has w ⟨(deskH bd o x y).map Prod.fst, []⟩ H' w' := by
 have hq := allFrom_t (lo := 1) (hi := 7) (z := dk) ⟨by omega, by omega⟩
 have hIn : InR dk := inr_mk (by omega) (by omega)
 refine (do_of rfl _ (deskH bd o x y) w hw bd [.int .u8 dk, .int .i64 dn, .int .i64 ds, .int .i64 dp, .int .i64 dl] rfl (AtW bd o') (fun _ _ => False) fun b3 be => ?_).mono ?_
 ·unfold doQ
  repeat' (first | (focus ((with_reducible apply oq_indexAddrAU); (iterate 4 exact rfl); omega; omega)) | ((with_reducible apply oq_conv64); (iterate 3 exact rfl); exact hIn) | (apply oq_fn; exact rfl; try first | exact trivial | (and_intros <;> omega)) | ((with_reducible apply oq_load); exact rfl; exact rfl) | ((with_reducible apply oq_loadAgg); exact rfl; exact rfl) | ((with_reducible apply oq_call (k := 105) (hc := Try.call105)); exact rfl; exact rfl; exact fun D w1 hw1 => doers_T w1) | ((with_reducible apply oq_call (k := 63) (hc := Try.call63)); exact rfl; exact rfl; exact fun D w1 hw1 => fromOne hq hw1 (by (repeat (first | exact P0 | apply P1 | apply PA)))) | ((with_reducible apply oq_call (k := 106) (hc := Try.call106)); exact rfl; exact rfl; exact fun D w1 hw1 => must_ok _ w1) | (with_reducible apply v_nil) | ((with_reducible apply v_q); (iterate 3 exact rfl)) | ((with_reducible apply os_x); exact rfl) | ((with_reducible apply os_store); (iterate 4 exact rfl)) | ((with_reducible apply os_storeAgg); (iterate 5 exact rfl)) | ((with_reducible apply ox_alloc); exact rfl; intro _) | ((with_reducible apply ox_buildSlice1); (iterate 6 exact rfl); intro _) | (apply Rd.own; (repeat (first | exact P0 | apply P1 | apply PA)); exact hk; done) | (apply Rd.own; (repeat (first | exact P0 | apply P1 | apply PA)); exact rfl; done) | with_reducible apply q_thenN | exact P0 | (first | (with_reducible apply P1) | (with_reducible apply PA)) | exact Rdn.zero | apply Rdn.succ | ((with_reducible apply Norm.nil); exact rfl) | ((with_reducible apply Norm.cons); exact rfl) | ((with_reducible apply d_q); (iterate 4 exact rfl)) | ((with_reducible apply d_s0); exact rfl; exact rfl) | ((with_reducible apply d_s); (iterate 3 exact rfl)) | (with_reducible apply d_nil) | (apply dt_mix1 (id := 4) (i := 6) [0, 1, 2, 3, 4, 5] #[false, false, false, false, false, false, true]; kernel_rfl; kernel_rfl; exact rfl; decide +kernel; exact rfl; exact rfl; decide +kernel; exact rfl; exact rfl) | (with_reducible apply dt_seq) | (apply dt_region) | (with_reducible apply dt_ret) | (refine ⟨rfl, .inl ?_⟩; (with_reducible apply os_callM (PV := DV bd o') (G := deskH bd o x y) (R := [(be, [.int .i64 0], some (27, 1, 1))]) (k := k) (hc := hcf)); exact rfl; exact rfl; (focus (unfold deskH flH bkH; rcases x with _ | ⟨gF, cF⟩ <;> rcases y with _ | ⟨gB, cB⟩ <;> simp only [clH, clA, clC, List.nil_append, List.cons_append, List.append_nil] <;> ((repeat (first | exact HpSub.refl _ | (apply HpSub.consE; (repeat (first | exact P0 | apply P1 | apply PA)); exact rfl) | apply HpSub.skipX | exact HpSub.nil))))); exact (fun D w1 hw1 hwG => HC w1 hwG); rintro v H1 ⟨rfl, x', y', hx', hy', rfl⟩) | exact Nat.le_of_ble_eq_true rfl)
  all_goals (refine ⟨⟨rfl, trivial⟩, _, ?_, .inl ⟨rfl, x', y', hx', hy', rfl⟩⟩)
  all_goals (first | exact HpSub.refl _ | (rw [List.append_nil]; exact HpSub.refl _))
 ·rintro e w' (⟨H', h2, h3, h4⟩ | ⟨z, H', _, h3, _⟩)
  ·exact ⟨_, H', h2, ⟨rfl, h3⟩, h4⟩
  ·exact h3.elim
theorem do_pan (bd : Nat) (w : World) (k dki : Nat) (dk dn ds dp dl z : Int) (hdk : dk = (dki : Int)) (h1 : 1 ≤ dki) (h7 : dki ≤ 7) (hk : ([.nilFunc, .func (.func 123) #[] #[], .func (.func 124) #[] #[], .func (.func 125) #[] #[], .func (.func 126) #[] #[], .func (.func 127) #[] #[], .func (.func 128) #[] #[], .func (.func 129) #[] #[]] : List Value)[0 + dk.toNat * 1]? = some (.func (.func k) #[] #[])) (hcf : ∀ (a : Array Value) (w : World), (callFunc k a).run Try.prog w = .ok (.enter k a) w)
  (HC : ∀ w1, Ext w w1 → Calls Try.prog k #[.pointer (some ⟨bd, 0, none⟩), .agg ⟨[.int .u8 dk, .int .i64 dn, .int .i64 ds, .int .i64 dp, .int .i64 dl]⟩] w1 fun e w' => e = .panicked (refu z) ∧ Ext w1 w') :
  Calls Try.prog 79 #[.pointer (some ⟨bd, 0, none⟩), .agg ⟨[.int .u8 dk, .int .i64 dn, .int .i64 ds, .int .i64 dp, .int .i64 dl]⟩] w fun e w' => e = .returned (.int .i64 z) ∧ Ext w w' := by
 have hq := allFrom_t (lo := 1) (hi := 7) (z := dk) ⟨by omega, by omega⟩
 have hIn : InR dk := inr_mk (by omega) (by omega)
 refine (do_of rfl [] [] w (Has.start w) bd [.int .u8 dk, .int .i64 dn, .int .i64 ds, .int .i64 dp, .int .i64 dl] rfl (fun _ => False) (fun z' _ => z' = z) fun b3 be => ?_).mono ?_
 ·unfold doQ
  repeat' (first | (focus ((with_reducible apply oq_indexAddrAU); (iterate 4 exact rfl); omega; omega)) | ((with_reducible apply oq_conv64); (iterate 3 exact rfl); exact hIn) | (apply oq_fn; exact rfl; try first | exact trivial | (and_intros <;> omega)) | ((with_reducible apply oq_load); exact rfl; exact rfl) | ((with_reducible apply oq_loadAgg); exact rfl; exact rfl) | ((with_reducible apply oq_call (k := 105) (hc := Try.call105)); exact rfl; exact rfl; exact fun D w1 hw1 => doers_T w1) | ((with_reducible apply oq_call (k := 63) (hc := Try.call63)); exact rfl; exact rfl; exact fun D w1 hw1 => fromOne hq hw1 (by (repeat (first | exact P0 | apply P1)))) | ((with_reducible apply oq_call (k := 106) (hc := Try.call106)); exact rfl; exact rfl; exact fun D w1 hw1 => must_ok _ w1) | (with_reducible apply v_nil) | ((with_reducible apply v_q); (iterate 3 exact rfl)) | ((with_reducible apply os_x); exact rfl) | ((with_reducible apply os_storeAgg); (iterate 5 exact rfl)) | ((with_reducible apply ox_alloc); exact rfl; intro _) | ((with_reducible apply ox_buildSlice1); (iterate 6 exact rfl); intro _) | (apply Rd.own; (repeat (first | exact P0 | apply P1)); exact hk; done) | (apply Rd.own; (repeat (first | exact P0 | apply P1)); exact rfl; done) | with_reducible apply q_thenN | exact P0 | exact Rdn.zero | apply Rdn.succ | ((with_reducible apply Norm.nil); exact rfl) | ((with_reducible apply Norm.cons); exact rfl) | ((with_reducible apply d_q); (iterate 4 exact rfl)) | ((with_reducible apply d_s0); exact rfl; exact rfl) | ((with_reducible apply d_s); (iterate 3 exact rfl)) | (with_reducible apply d_nil) | (apply dt_mix1 (id := 4) (i := 6) [0, 1, 2, 3, 4, 5] #[false, false, false, false, false, false, true]; kernel_rfl; kernel_rfl; exact rfl; decide +kernel; exact rfl; exact rfl; decide +kernel; exact rfl; exact rfl) | (with_reducible apply dt_seq) | (apply dt_region) | (refine ⟨rfl, .inr ?_⟩; (with_reducible apply op_call (k := k) (hc := hcf)); exact rfl; exact rfl; exact fun D w1 hw1 => HC w1 hw1.ext.ext) | exact Nat.le_of_ble_eq_true rfl)
  all_goals (refine ⟨⟨rfl, trivial⟩, [], ?_, .inr ⟨z, rfl, rfl⟩⟩)
  all_goals (repeat (first | exact HpSub.refl _ | (apply HpSub.consE; (repeat (first | exact P0 | apply P1)); exact rfl) | apply HpSub.skipX | exact HpSub.nil))
 ·rintro e w' (⟨H', h2, h3, h4⟩ | ⟨z', H', h2, rfl, h4⟩)
  ·exact h3.elim
  ·exact ⟨h2, h4.ext.ext⟩
theorem do_kind (bd : Nat) (w : World) (dk dn ds dp dl : Int) (h : ¬ (1 ≤ dk ∧ dk ≤ 7)) (h0 : 0 ≤ dk ∧ dk ≤ 255) :
  Calls Try.prog 79 #[.pointer (some ⟨bd, 0, none⟩), .agg ⟨[.int .u8 dk, .int .i64 dn, .int .i64 ds, .int .i64 dp, .int .i64 dl]⟩] w fun e w' => e = .returned (.int .i64 2) ∧ Ext w w' := by
 have hq := allFrom_f (lo := 1) (hi := 7) (z := dk) h
 have hIn : InR dk := inr_mk (by omega) (by omega)
 refine (do_of rfl [] [] w (Has.start w) bd [.int .u8 dk, .int .i64 dn, .int .i64 ds, .int .i64 dp, .int .i64 dl] rfl (fun _ => False) (fun z' _ => z' = 2) fun b3 be => ?_).mono ?_
 ·unfold doQ
  repeat' (first | ((with_reducible apply oq_conv64); (iterate 3 exact rfl); exact hIn) | (apply oq_fn; exact rfl; try first | exact trivial | (and_intros <;> omega)) | ((with_reducible apply oq_load); exact rfl; exact rfl) | ((with_reducible apply oq_call (k := 105) (hc := Try.call105)); exact rfl; exact rfl; exact fun D w1 hw1 => doers_T w1) | ((with_reducible apply oq_call (k := 63) (hc := Try.call63)); exact rfl; exact rfl; exact fun D w1 hw1 => fromOne hq hw1 (by (repeat (first | exact P0 | apply P1)))) | ((with_reducible apply os_x); exact rfl) | ((with_reducible apply os_storeAgg); (iterate 5 exact rfl)) | ((with_reducible apply ox_alloc); exact rfl; intro _) | ((with_reducible apply ox_buildSlice1); (iterate 6 exact rfl); intro _) | (apply Rd.own; (repeat (first | exact P0 | apply P1)); exact rfl; done) | with_reducible apply q_thenN | exact P0 | ((with_reducible apply Norm.nil); exact rfl) | ((with_reducible apply Norm.cons); exact rfl) | ((with_reducible apply d_p); exact rfl; ((with_reducible apply op_call (k := 106) (hc := Try.call106)); exact rfl; exact rfl; exact fun D w1 hw1 => must_no _ w1)) | ((with_reducible apply d_q); (iterate 4 exact rfl)) | ((with_reducible apply d_s0); exact rfl; exact rfl) | ((with_reducible apply d_s); (iterate 3 exact rfl)) | (with_reducible apply d_nil) | (with_reducible apply dt_seq) | (apply dt_region) | exact Nat.le_of_ble_eq_true rfl)
  all_goals (refine ⟨⟨rfl, trivial⟩, [], ?_, .inr ⟨2, rfl, rfl⟩⟩)
  all_goals (repeat (first | exact HpSub.refl _ | (apply HpSub.consE; (repeat (first | exact P0 | apply P1)); exact rfl) | apply HpSub.skipX | exact HpSub.nil))
 ·rintro e w' (⟨H', h2, h3, h4⟩ | ⟨z', H', h2, rfl, h4⟩)
  ·exact h3.elim
  ·exact ⟨h2, h4.ext.ext⟩
end Go.Proofs.Ytmlmgipngbndgaa
namespace Go.Proofs.Ytmlmgipngbndgaa
open Go.RowKit
attribute [local irreducible] OQ OS OX Rd T TL GX GL AL AI RV wpG SAny Calls
theorem do_ok (bd : Nat) (o : Off) (x y : Option (Nat × Nat)) (hxn : x = none → o.fl.length = 0) (hyn : y = none → o.bk.length = 0) (hv : OkO o) (w : World) (hw : Has w ⟨(deskH bd o x y).map Prod.fst, []⟩ (deskH bd o x y) w) (d : Deal) (hE : doneE o d = 0) :
  Calls Try.prog 79 #[.pointer (some ⟨bd, 0, none⟩), .agg ⟨dealCells d⟩] w fun e w' => ∃ v H', e = .returned v ∧ (v = .int .i64 0 ∧ AtW bd (doneO o d) H') ∧ Has w ⟨(deskH bd o x y).map Prod.fst, []⟩ H' w' := by
 obtain ⟨dk, dn, ds, dp, dl⟩ := d
 unfold dealCells
 unfold doneE at hE
 unfold doneO
 simp only at hE ⊢
 by_cases k1 : dk = 1
 ·subst k1
  rw [if_pos rfl] at hE ⊢
  by_cases c1 : depOk ⟨ds, dp, dl, 0⟩ = true ∧ o.now ≤ dl
  ·rw [if_pos c1] at hE
   by_cases c2 : o.fl.length < 10
   ·exact do_gen bd o x y w hw 123 1 _ _ _ _ _ rfl (by omega) (by omega) rfl Try.call123 _ fun w1 hw1 => add_T bd o x y hxn hyn hv w1 hw1 1 dn ds dp dl c1 c2
   ·rw [if_neg c2] at hE; exact absurd hE (by decide)
  ·rw [if_neg c1] at hE; exact absurd hE (by decide)
 rw [if_neg k1] at hE ⊢
 by_cases k2 : dk = 2
 ·subst k2
  rw [if_pos rfl] at hE ⊢
  by_cases c1 : openE o dn = 0
  ·rw [if_pos c1] at hE
   by_cases c2 : o.bk.length < 120
   ·exact do_gen bd o x y w hw 124 2 _ _ _ _ _ rfl (by omega) (by omega) rfl Try.call124 _ fun w1 hw1 => sell_T bd o x y hxn hyn hv w1 hw1 2 dn ds dp dl c1 c2
   ·rw [if_neg c2] at hE; exact absurd hE (by decide)
  ·rw [if_neg c1] at hE; exact absurd hE c1
 rw [if_neg k2] at hE ⊢
 by_cases k3 : dk = 3
 ·subst k3
  rw [if_pos rfl] at hE ⊢
  by_cases c1 : 0 ≤ dn ∧ dn < (o.bk.length : Int)
  ·rw [if_pos c1] at hE
   by_cases c2 : (bkAt o dn).state = 1 ∨ (bkAt o dn).state = 2
   ·exact do_gen bd o x y w hw 125 3 _ _ _ _ _ rfl (by omega) (by omega) rfl Try.call125 _ fun w1 hw1 => cancel_T bd o x y hxn hyn hv w1 hw1 3 dn ds dp dl c1 c2
   ·rw [if_neg c2] at hE; exact absurd hE (by decide)
  ·rw [if_neg c1] at hE; exact absurd hE (by decide)
 rw [if_neg k3] at hE ⊢
 by_cases k4 : dk = 4
 ·subst k4
  rw [if_pos rfl] at hE ⊢
  by_cases c1 : openE o dn = 0
  ·rw [if_pos c1] at hE
   by_cases c2 : (depAt o dn).leaves ≤ o.now
   ·exact do_gen bd o x y w hw 126 4 _ _ _ _ _ rfl (by omega) (by omega) rfl Try.call126 _ fun w1 hw1 => leave_T bd o x y hxn hyn hv w1 hw1 4 dn ds dp dl c1 c2
   ·rw [if_neg c2] at hE; exact absurd hE (by decide)
  ·rw [if_neg c1] at hE; exact absurd hE c1
 rw [if_neg k4] at hE ⊢
 by_cases k5 : dk = 5
 ·subst k5
  rw [if_pos rfl] at hE ⊢
  exact do_gen bd o x y w hw 127 5 _ _ _ _ _ rfl (by omega) (by omega) rfl Try.call127 _ fun w1 hw1 => off_T bd o x y hxn hyn hv w1 hw1 5 dn ds dp dl hE
 rw [if_neg k5] at hE ⊢
 by_cases k6 : dk = 6
 ·subst k6
  rw [if_pos rfl] at hE ⊢
  by_cases c1 : 1 ≤ dn ∧ dn ≤ 1000000 ∧ o.now + dn ≤ 1000000
  ·exact do_gen bd o x y w hw 128 6 _ _ _ _ _ rfl (by omega) (by omega) rfl Try.call128 _ fun w1 hw1 => tick_T bd o x y hxn hyn hv w1 hw1 6 dn ds dp dl c1
  ·rw [if_neg c1] at hE; exact absurd hE (by decide)
 rw [if_neg k6] at hE ⊢
 by_cases k7 : dk = 7
 ·subst k7
  rw [if_pos rfl] at hE
  by_cases c1 : openE o dn = 0
  ·rw [if_pos c1] at hE
   by_cases c2 : 0 ≤ ds ∧ ds ≤ 50
   ·rw [if_pos c2] at hE
    by_cases c3 : manyV o.bk dn 1 ≤ ds
    ·exact do_gen bd o x y w hw 129 7 _ _ _ _ _ rfl (by omega) (by omega) rfl Try.call129 _ fun w1 hw1 => seats_T bd o x y hxn hyn hv w1 hw1 7 dn ds dp dl c1 c2 c3
    ·rw [if_neg c3] at hE; exact absurd hE (by decide)
   ·rw [if_neg c2] at hE; exact absurd hE (by decide)
  ·rw [if_neg c1] at hE; exact absurd hE c1
 rw [if_neg k7] at hE
 exact absurd hE (by decide)
theorem do_no (bd : Nat) (o : Off) (A : Option Addr) (cf : Nat) (B : Option Addr) (cb : Nat) (w : World) (hD : Desk w bd o A cf B cb) (hv : OkO o) (d : Deal) (hk : 0 ≤ d.kind ∧ d.kind ≤ 255) (hE : ¬ doneE o d = 0) :
  Calls Try.prog 79 #[.pointer (some ⟨bd, 0, none⟩), .agg ⟨dealCells d⟩] w fun e w' => e = .returned (.int .i64 (doneE o d)) ∧ Ext w w' := by
 obtain ⟨dk, dn, ds, dp, dl⟩ := d
 have hnf := hv.nf
 have hnb := hv.nb
 have hn : o.fl.length ≤ 1000000 := by omega
 have hn2 : o.bk.length ≤ 1000000 := by omega
 have hnow := hv.now
 unfold dealCells
 unfold doneE at hE ⊢
 simp only at hE hk ⊢
 by_cases k1 : dk = 1
 ·subst k1
  rw [if_pos rfl] at hE ⊢
  by_cases c1 : depOk ⟨ds, dp, dl, 0⟩ = true ∧ o.now ≤ dl
  ·rw [if_pos c1] at hE ⊢
   by_cases c2 : o.fl.length < 10
   ·rw [if_pos c2] at hE; exact absurd rfl hE
   ·rw [if_neg c2]
    exact do_pan bd w 123 1 _ _ _ _ _ _ rfl (by omega) (by omega) rfl Try.call123 fun w1 he => add_full bd o A cf B cb w1 (hD.ext he) hn hn2 hnow 1 dn ds dp dl c1 c2
  ·rw [if_neg c1]
   exact do_pan bd w 123 1 _ _ _ _ _ _ rfl (by omega) (by omega) rfl Try.call123 fun w1 he => add_arg bd o A cf B cb w1 (hD.ext he) hn hn2 hnow 1 dn ds dp dl c1
 rw [if_neg k1] at hE ⊢
 by_cases k2 : dk = 2
 ·subst k2
  rw [if_pos rfl] at hE ⊢
  by_cases c1 : openE o dn = 0
  ·rw [if_pos c1] at hE ⊢
   by_cases c2 : o.bk.length < 120
   ·rw [if_pos c2] at hE; exact absurd rfl hE
   ·rw [if_neg c2]
    exact do_pan bd w 124 2 _ _ _ _ _ _ rfl (by omega) (by omega) rfl Try.call124 fun w1 he => sell_full bd o A cf B cb w1 (hD.ext he) hn hn2 hnow 2 dn ds dp dl c1 c2
  ·rw [if_neg c1]
   exact do_pan bd w 124 2 _ _ _ _ _ _ rfl (by omega) (by omega) rfl Try.call124 fun w1 he => sell_open bd o A cf B cb w1 (hD.ext he) hn hn2 hnow 2 dn ds dp dl c1
 rw [if_neg k2] at hE ⊢
 by_cases k3 : dk = 3
 ·subst k3
  rw [if_pos rfl] at hE ⊢
  by_cases c1 : 0 ≤ dn ∧ dn < (o.bk.length : Int)
  ·rw [if_pos c1] at hE ⊢
   by_cases c2 : (bkAt o dn).state = 1 ∨ (bkAt o dn).state = 2
   ·rw [if_pos c2] at hE; exact absurd rfl hE
   ·rw [if_neg c2]
    exact do_pan bd w 125 3 _ _ _ _ _ _ rfl (by omega) (by omega) rfl Try.call125 fun w1 he => cancel_gone bd o A cf B cb w1 (hD.ext he) hn hn2 hnow 3 dn ds dp dl c1 c2
  ·rw [if_neg c1]
   exact do_pan bd w 125 3 _ _ _ _ _ _ rfl (by omega) (by omega) rfl Try.call125 fun w1 he => cancel_arg bd o A cf B cb w1 (hD.ext he) hn hn2 hnow 3 dn ds dp dl c1
 rw [if_neg k3] at hE ⊢
 by_cases k4 : dk = 4
 ·subst k4
  rw [if_pos rfl] at hE ⊢
  by_cases c1 : openE o dn = 0
  ·rw [if_pos c1] at hE ⊢
   by_cases c2 : (depAt o dn).leaves ≤ o.now
   ·rw [if_pos c2] at hE; exact absurd rfl hE
   ·rw [if_neg c2]
    exact do_pan bd w 126 4 _ _ _ _ _ _ rfl (by omega) (by omega) rfl Try.call126 fun w1 he => leave_early bd o A cf B cb w1 (hD.ext he) hn hn2 hnow 4 dn ds dp dl c1 c2
  ·rw [if_neg c1]
   exact do_pan bd w 126 4 _ _ _ _ _ _ rfl (by omega) (by omega) rfl Try.call126 fun w1 he => leave_open bd o A cf B cb w1 (hD.ext he) hn hn2 hnow 4 dn ds dp dl c1
 rw [if_neg k4] at hE ⊢
 by_cases k5 : dk = 5
 ·subst k5
  rw [if_pos rfl] at hE ⊢
  exact do_pan bd w 127 5 _ _ _ _ _ _ rfl (by omega) (by omega) rfl Try.call127 fun w1 he => off_open bd o A cf B cb w1 (hD.ext he) hn hn2 hnow 5 dn ds dp dl hE
 rw [if_neg k5] at hE ⊢
 by_cases k6 : dk = 6
 ·subst k6
  rw [if_pos rfl] at hE ⊢
  by_cases c1 : 1 ≤ dn ∧ dn ≤ 1000000 ∧ o.now + dn ≤ 1000000
  ·rw [if_pos c1] at hE; exact absurd rfl hE
  ·rw [if_neg c1]
   exact do_pan bd w 128 6 _ _ _ _ _ _ rfl (by omega) (by omega) rfl Try.call128 fun w1 he => tick_no bd o A cf B cb w1 (hD.ext he) hn hn2 hnow 6 dn ds dp dl c1
 rw [if_neg k6] at hE ⊢
 by_cases k7 : dk = 7
 ·subst k7
  rw [if_pos rfl] at hE ⊢
  by_cases c1 : openE o dn = 0
  ·rw [if_pos c1] at hE ⊢
   by_cases c2 : 0 ≤ ds ∧ ds ≤ 50
   ·rw [if_pos c2] at hE ⊢
    by_cases c3 : manyV o.bk dn 1 ≤ ds
    ·rw [if_pos c3] at hE; exact absurd rfl hE
    ·rw [if_neg c3]
     exact do_pan bd w 129 7 _ _ _ _ _ _ rfl (by omega) (by omega) rfl Try.call129 fun w1 he => seats_full bd o A cf B cb w1 (hD.ext he) hn hn2 hnow 7 dn ds dp dl c1 c2 c3
   ·rw [if_neg c2]
    exact do_pan bd w 129 7 _ _ _ _ _ _ rfl (by omega) (by omega) rfl Try.call129 fun w1 he => seats_arg bd o A cf B cb w1 (hD.ext he) hn hn2 hnow 7 dn ds dp dl c1 c2
  ·rw [if_neg c1]
   exact do_pan bd w 129 7 _ _ _ _ _ _ rfl (by omega) (by omega) rfl Try.call129 fun w1 he => seats_open bd o A cf B cb w1 (hD.ext he) hn hn2 hnow 7 dn ds dp dl c1
 rw [if_neg k7]
 exact do_kind bd w dk dn ds dp dl (by omega) hk
def OpenN (v : Value) (H : Hp) : Prop := ∃ p, v = .tuple #[.pointer p, .bool false] ∧ H = []
def OpenY (o : Off) (v : Value) (H : Hp) : Prop := ∃ bd x y, (x = none → o.fl.length = 0) ∧ (y = none → o.bk.length = 0) ∧ v = .tuple #[.pointer (some ⟨bd, 0, none⟩), .bool true] ∧ H = deskH bd o x y
theorem openN_T (o : Off) (A : Option Addr) (cf : Nat) (B : Option Addr) (cb : Nat) (w : World) (hA : RdS w 4 A o.fl.length (o.fl.map depCells)) (hB : RdS w 3 B o.bk.length (o.bk.map bkCells)) (hnA : A = none → o.fl.length = 0 ∧ cf = 0) (hnB : B = none → o.bk.length = 0 ∧ cb = 0) (hu : ∀ d ∈ o.fl, 0 ≤ d.state) (hn : o.fl.length ≤ 1000000) (hn2 : o.bk.length ≤ 1000000) (h : officeB o = false) : Calls Try.prog 62 #[.agg ⟨offCells o A cf B cb⟩] w fun e w' => ∃ v H', e = .returned v ∧ OpenN v H' ∧ Has w ⟨[], []⟩ H' w' :=
 (open_T o A cf B cb w hA hB hnA hnB hu hn hn2).mono fun e w' ⟨v, H', h1, h2, h3⟩ => ⟨v, H', h1, (by
  rcases h2 with ⟨_, p, hv, hH⟩ | ⟨h4, _⟩
  ·exact ⟨p, hv, hH⟩
  ·rw [h] at h4; cases h4), h3⟩
theorem openY_T (o : Off) (A : Option Addr) (cf : Nat) (B : Option Addr) (cb : Nat) (w : World) (hA : RdS w 4 A o.fl.length (o.fl.map depCells)) (hB : RdS w 3 B o.bk.length (o.bk.map bkCells)) (hnA : A = none → o.fl.length = 0 ∧ cf = 0) (hnB : B = none → o.bk.length = 0 ∧ cb = 0) (hu : ∀ d ∈ o.fl, 0 ≤ d.state) (hn : o.fl.length ≤ 1000000) (hn2 : o.bk.length ≤ 1000000) (h : officeB o = true) : Calls Try.prog 62 #[.agg ⟨offCells o A cf B cb⟩] w fun e w' => ∃ v H', e = .returned v ∧ OpenY o v H' ∧ Has w ⟨[], []⟩ H' w' :=
 (open_T o A cf B cb w hA hB hnA hnB hu hn hn2).mono fun e w' ⟨v, H', h1, h2, h3⟩ => ⟨v, H', h1, (by
  rcases h2 with ⟨h4, _⟩ | ⟨_, h4⟩
  ·rw [h] at h4; cases h4
  ·exact h4), h3⟩
theorem mt_manyTo (bk : List Bk) (f s : Int) (k : Nat) : ((cntTo (mtB f [s]) bk k : Nat) : Int) = manyTo bk f s k := by
 unfold cntTo manyTo
 congr 3
 funext x
 unfold mtB isB
 simp
/-- Pointers into one block. -/
theorem oq_eqPtr {c : Cx} {F : Fr} {H : Hp} {d : Option Tmp} {ty t t' : TypeId} {pos : String} {af : Array Edge} {gd : Option (Nat × Bool)} {x y : Operand} {b o1 o2 e s0 s1 : Nat} {a0 a1 q : Bool} {z0 z1 : List Value} {k1 : TyK} (ht : tyAt c.tys t = some ⟨a0, s0, z0, .ptr e⟩) (he : tyAt c.tys e = some ⟨a1, s1 + 1, z1, k1⟩)
  (hx : ev F x = some (.pointer (some ⟨b, o1, none⟩))) (hy : ev F y = some (.pointer (some ⟨b, o2, none⟩))) (hq : decide (o1 = o2) = q) : OQ c ⟨d, .binOp .eql t x y t', ty, pos, af, gd⟩ F H (.bool q) := .of fun D a w ha _ => by
 have hk := (c.ty ht).kind w
 have hz := (c.ty he).size w
 have hs : (sameAddr ⟨b, o1, none⟩ ⟨b, o2, none⟩).run c.P w = .ok q w := by
  rw [← hq]
  by_cases h : o1 = o2
  ·subst h; simp [sameAddr, Sem.run_pure]
  ·have : (⟨b, o1, none⟩ : Addr) ≠ ⟨b, o2, none⟩ := fun e => h (by cases e; rfl)
   simp [sameAddr, Sem.run_pure, h, this]
 have e0 : (Op.equalIn 10000 t (.pointer (some ⟨b, o1, none⟩)) (.pointer (some ⟨b, o2, none⟩))).run c.P w = .ok q w := by
  have key : ∀ d : Nat, (Op.equalIn (d + 1) t (.pointer (some ⟨b, o1, none⟩)) (.pointer (some ⟨b, o2, none⟩))).run c.P w = .ok q w := fun d => by
   simp only [Op.equalIn, Sem.run_bind, hk, hz, Result.andThen, Sem.run_pure]
   simp [hs]
  exact key 9999
 have e2 : (binOp .eql t (.pointer (some ⟨b, o1, none⟩)) (.pointer (some ⟨b, o2, none⟩))).run c.P w = .ok (.bool q) w := by
  simp only [binOp, Op.equal, Op.maxDepth, Sem.run_bind, e0, Result.andThen, Sem.run_pure]
 have e1 : (eqGuard .eql t x y (.pointer (some ⟨b, o1, none⟩)) (.pointer (some ⟨b, o2, none⟩))).run c.P w = .ok () w := by simp [eqGuard, go_sem]
 simp only [execOp, ha.ev hx, ha.ev hy, Sem.run_bind, e2, e1, Result.andThen, Sem.run_pure]
theorem counts_T (o : Off) (A : Option Addr) (cf : Nat) (B : Option Addr) (cb : Nat) (w : World) (hA : RdS w 4 A o.fl.length (o.fl.map depCells)) (hB : RdS w 3 B o.bk.length (o.bk.map bkCells)) (hnA : A = none → o.fl.length = 0 ∧ cf = 0) (hnB : B = none → o.bk.length = 0 ∧ cb = 0) (hu : ∀ d ∈ o.fl, 0 ≤ d.state) (hn : o.fl.length ≤ 1000000) (hn2 : o.bk.length ≤ 1000000) (f : Int) : Calls Try.prog 20 #[.agg ⟨offCells o A cf B cb⟩, .int .i64 f] w fun e w' => e = .returned (.tuple #[.int .i64 (countsS o f).1, .int .i64 (countsS o f).2.1, .int .i64 (countsS o f).2.2.1, .int .i64 (countsS o f).2.2.2.1, .int .i64 (countsS o f).2.2.2.2]) ∧ Ext w w' := by
 unfold countsS
 cases hv : officeB o with
 | false =>
  simp only [Bool.false_eq_true, if_false]
  refine enterQ (c := cx w 44) Try.func20 rfl rfl rfl rfl ?_
  repeat' (first | (apply oq_fn; exact rfl; try first | exact trivial | (and_intros <;> omega)) | ((with_reducible apply oq_loadAgg); exact rfl; exact rfl) | (with_reducible apply tl_nil) | ((with_reducible apply u_s); (iterate 3 exact rfl); (with_reducible apply os_callF (PV := OpenN) (k := 62) (hc := Try.call62)); exact rfl; exact rfl; exact fun D w1 hw1 => openN_T o A cf B cb w1 (hA.ext hw1.ext.ext) (hB.ext hw1.ext.ext) hnA hnB hu hn hn2 hv; rintro v H' ⟨p, rfl, rfl⟩; (try simp only [List.cons_append, List.nil_append])) | ((with_reducible apply u_q); (iterate 4 exact rfl)) | ((with_reducible apply u_s); (iterate 3 exact rfl)) | ((with_reducible apply os_x); exact rfl) | ((with_reducible apply ox_boxAgg); exact rfl; intro _) | (apply Rd.own; (repeat (first | exact P0 | apply P1 | apply PA)); exact rfl; done) | (with_reducible apply t_seq) | (apply t_region; kernel_rfl) | ((with_reducible apply t_condT); exact rfl) | (with_reducible apply t_ret) | (with_reducible apply t_block) | with_reducible apply q_thenN | with_reducible apply q_thenR | with_reducible apply q_blockR | exact Rdn.zero | apply Rdn.succ | (with_reducible apply end_ret) | exact rvs_nil | (with_reducible apply rvs_cons) | ((with_reducible apply rv_tmp); exact rfl))
  all_goals rfl
 | true =>
  simp only [if_true]
  by_cases hin : 0 ≤ f ∧ f < (o.fl.length : Int)
  ·rw [if_pos hin]
   have hq := allFrom_t (lo := 0) (hi := (o.fl.length : Int) - 1) (z := f) ⟨hin.1, by omega⟩
   refine enterQ (c := cx w 44) Try.func20 rfl rfl rfl rfl ?_
   refine t_cut (ι := Nat) (fun b => [(2, .pointer (some ⟨b, 0, none⟩)), (1, .int .i64 f)]) (fun b => [(b, offCells o A cf B cb, some (25, 7, 1))]) (fun _ => True) ?_ ?_
   ·repeat' (first | (apply oq_fn; exact rfl; try first | exact trivial | (and_intros <;> omega)) | (with_reducible apply tl_nil) | ((with_reducible apply u_q); (iterate 4 exact rfl)) | ((with_reducible apply u_s); (iterate 3 exact rfl)) | ((with_reducible apply os_x); exact rfl) | ((with_reducible apply ox_boxAgg); exact rfl; intro _) | (apply t_region; kernel_rfl))
    all_goals exact ⟨rfl, _, trivial, by (repeat (first | exact FrSub.nil | (apply FrSub.cons; exact rfl))), by (repeat (first | exact HpSub.refl _ | (apply HpSub.consE; (repeat (first | exact P0 | apply P1 | apply PA)); exact rfl) | exact HpSub.nil))⟩
   rintro bo -
   refine t_cut (ι := Nat × Option (Nat × Nat) × Option (Nat × Nat)) (fun z => [(2, .pointer (some ⟨bo, 0, none⟩)), (9, .pointer (some ⟨z.1, 0, none⟩)), (10, .bool true), (1, .int .i64 f)]) (fun z => (z.1, offCells o (clA z.2.1) (clC z.2.1) (clA z.2.2) (clC z.2.2), some (135, 7, 1)) :: (bo, offCells o A cf B cb, some (25, 7, 1)) :: (flH o z.2.1 ++ bkH o z.2.2)) (fun z => (z.2.1 = none → o.fl.length = 0) ∧ (z.2.2 = none → o.bk.length = 0)) ?_ ?_
   ·repeat' (first | (apply oq_fn; exact rfl; try first | exact trivial | (and_intros <;> omega)) | ((with_reducible apply oq_loadAgg); exact rfl; exact rfl) | (with_reducible apply tl_nil) | ((with_reducible apply u_s); (iterate 3 exact rfl); (with_reducible apply os_callF (PV := OpenY o) (k := 62) (hc := Try.call62)); exact rfl; exact rfl; exact fun D w1 hw1 => openY_T o A cf B cb w1 (hA.ext hw1.ext.ext) (hB.ext hw1.ext.ext) hnA hnB hu hn hn2 hv; rintro v H' ⟨bd, x, y, hxn, hyn, rfl, rfl⟩; (try simp only [deskH, List.cons_append, List.nil_append, List.append_assoc])) | ((with_reducible apply u_q); (iterate 4 exact rfl)) | (apply Rd.own; (repeat (first | exact P0 | apply P1 | apply PA)); exact rfl; done) | (apply t_region; kernel_rfl) | exact Rdn.zero | apply Rdn.succ)
    all_goals (refine ⟨by trivial, (bd, x, y), ⟨hxn, hyn⟩, by (repeat (first | exact FrSub.nil | (apply FrSub.cons; exact rfl))), ?_⟩)
    all_goals (rcases x with _ | ⟨g1, c1⟩ <;> rcases y with _ | ⟨g2, c2⟩ <;> simp only [flH, bkH, clH, clA, clC, List.cons_append, List.nil_append, List.append_nil])
    all_goals (repeat (first | exact HpSub.refl _ | (apply HpSub.consE; (repeat (first | exact P0 | apply P1 | apply PA)); exact rfl) | exact HpSub.nil))
   rintro ⟨bd, x, y⟩ ⟨hxn, hyn⟩
   simp only at hxn hyn ⊢
   have HM1 := fun g cp w1 hD1 hS => count_calls bd o (clA x) (clC x) (clA y) (clC y) w1 hD1 hn2 f (some ⟨g, 0, none⟩) 1 cp [1] hS (by omega)
   rw [mt_many] at HM1
   have HM2 := fun g cp w1 hD1 hS => count_calls bd o (clA x) (clC x) (clA y) (clC y) w1 hD1 hn2 f (some ⟨g, 0, none⟩) 1 cp [2] hS (by omega)
   rw [mt_many] at HM2
   have HM3 := fun g cp w1 hD1 hS => count_calls bd o (clA x) (clC x) (clA y) (clC y) w1 hD1 hn2 f (some ⟨g, 0, none⟩) 1 cp [3] hS (by omega)
   rw [mt_many] at HM3
   have HM4 := fun g cp w1 hD1 hS => count_calls bd o (clA x) (clC x) (clA y) (clC y) w1 hD1 hn2 f (some ⟨g, 0, none⟩) 1 cp [4] hS (by omega)
   rw [mt_many] at HM4
   repeat' (first | (apply oq_fn; exact rfl; try first | exact trivial | (and_intros <;> omega)) | ((with_reducible apply oq_load); exact rfl; exact rfl) | ((with_reducible apply oq_call (k := 63) (hc := Try.call63)); exact rfl; exact rfl; exact fun D w1 hw1 => fromOne hq hw1 (by (repeat (first | exact P0 | apply P1 | apply PA)))) | ((with_reducible apply oq_call (k := 64) (hc := Try.call64)); exact rfl; exact rfl; exact fun D w1 hw1 => HM1 _ _ w1 (desk_of hw1 (by (repeat (first | exact HpSub.refl _ | (apply HpSub.consE; (repeat (first | exact P0 | apply P1 | apply PA)); exact rfl) | apply HpSub.skipX | apply HpSub.skipX | exact HpSub.nil))) hxn hyn) (one8 hw1 (by (repeat (first | exact P0 | apply P1 | apply PA))))) | ((with_reducible apply oq_call (k := 64) (hc := Try.call64)); exact rfl; exact rfl; exact fun D w1 hw1 => HM2 _ _ w1 (desk_of hw1 (by (repeat (first | exact HpSub.refl _ | (apply HpSub.consE; (repeat (first | exact P0 | apply P1 | apply PA)); exact rfl) | apply HpSub.skipX | apply HpSub.skipX | exact HpSub.nil))) hxn hyn) (one8 hw1 (by (repeat (first | exact P0 | apply P1 | apply PA))))) | ((with_reducible apply oq_call (k := 64) (hc := Try.call64)); exact rfl; exact rfl; exact fun D w1 hw1 => HM3 _ _ w1 (desk_of hw1 (by (repeat (first | exact HpSub.refl _ | (apply HpSub.consE; (repeat (first | exact P0 | apply P1 | apply PA)); exact rfl) | apply HpSub.skipX | apply HpSub.skipX | exact HpSub.nil))) hxn hyn) (one8 hw1 (by (repeat (first | exact P0 | apply P1 | apply PA))))) | ((with_reducible apply oq_call (k := 64) (hc := Try.call64)); exact rfl; exact rfl; exact fun D w1 hw1 => HM4 _ _ w1 (desk_of hw1 (by (repeat (first | exact HpSub.refl _ | (apply HpSub.consE; (repeat (first | exact P0 | apply P1 | apply PA)); exact rfl) | apply HpSub.skipX | apply HpSub.skipX | exact HpSub.nil))) hxn hyn) (one8 hw1 (by (repeat (first | exact P0 | apply P1 | apply PA))))) | (with_reducible apply tl_nil) | ((with_reducible apply u_q); (iterate 4 exact rfl)) | ((with_reducible apply u_s); (iterate 3 exact rfl)) | ((with_reducible apply os_x); exact rfl) | ((with_reducible apply ox_buildSlice1); (iterate 6 exact rfl); intro _) | (apply Rd.own; (repeat (first | exact P0 | apply P1 | apply PA)); exact rfl; done) | (with_reducible apply t_seq) | (apply t_region; kernel_rfl) | ((with_reducible apply t_condF); exact rfl) | (with_reducible apply t_ret) | (with_reducible apply t_skip) | (with_reducible apply t_block) | with_reducible apply q_thenN | with_reducible apply q_blockN | (with_reducible apply end_ret) | exact rvs_nil | (with_reducible apply rvs_cons) | ((with_reducible apply rv_tmp); exact rfl))
   all_goals rfl
  ·rw [if_neg hin]
   have hq := allFrom_f (lo := 0) (hi := (o.fl.length : Int) - 1) (z := f) (by omega)
   refine enterQ (c := cx w 44) Try.func20 rfl rfl rfl rfl ?_
   refine t_cut (ι := Nat) (fun b => [(2, .pointer (some ⟨b, 0, none⟩)), (1, .int .i64 f)]) (fun b => [(b, offCells o A cf B cb, some (25, 7, 1))]) (fun _ => True) ?_ ?_
   ·repeat' (first | (apply oq_fn; exact rfl; try first | exact trivial | (and_intros <;> omega)) | (with_reducible apply tl_nil) | ((with_reducible apply u_q); (iterate 4 exact rfl)) | ((with_reducible apply u_s); (iterate 3 exact rfl)) | ((with_reducible apply os_x); exact rfl) | ((with_reducible apply ox_boxAgg); exact rfl; intro _) | (apply t_region; kernel_rfl))
    all_goals exact ⟨rfl, _, trivial, by (repeat (first | exact FrSub.nil | (apply FrSub.cons; exact rfl))), by (repeat (first | exact HpSub.refl _ | (apply HpSub.consE; (repeat (first | exact P0 | apply P1 | apply PA)); exact rfl) | exact HpSub.nil))⟩
   rintro bo -
   refine t_cut (ι := Nat × Option (Nat × Nat) × Option (Nat × Nat)) (fun z => [(2, .pointer (some ⟨bo, 0, none⟩)), (9, .pointer (some ⟨z.1, 0, none⟩)), (10, .bool true), (1, .int .i64 f)]) (fun z => (z.1, offCells o (clA z.2.1) (clC z.2.1) (clA z.2.2) (clC z.2.2), some (135, 7, 1)) :: (bo, offCells o A cf B cb, some (25, 7, 1)) :: (flH o z.2.1 ++ bkH o z.2.2)) (fun z => (z.2.1 = none → o.fl.length = 0) ∧ (z.2.2 = none → o.bk.length = 0)) ?_ ?_
   ·repeat' (first | (apply oq_fn; exact rfl; try first | exact trivial | (and_intros <;> omega)) | ((with_reducible apply oq_loadAgg); exact rfl; exact rfl) | (with_reducible apply tl_nil) | ((with_reducible apply u_s); (iterate 3 exact rfl); (with_reducible apply os_callF (PV := OpenY o) (k := 62) (hc := Try.call62)); exact rfl; exact rfl; exact fun D w1 hw1 => openY_T o A cf B cb w1 (hA.ext hw1.ext.ext) (hB.ext hw1.ext.ext) hnA hnB hu hn hn2 hv; rintro v H' ⟨bd, x, y, hxn, hyn, rfl, rfl⟩; (try simp only [deskH, List.cons_append, List.nil_append, List.append_assoc])) | ((with_reducible apply u_q); (iterate 4 exact rfl)) | (apply Rd.own; (repeat (first | exact P0 | apply P1 | apply PA)); exact rfl; done) | (apply t_region; kernel_rfl) | exact Rdn.zero | apply Rdn.succ)
    all_goals (refine ⟨by trivial, (bd, x, y), ⟨hxn, hyn⟩, by (repeat (first | exact FrSub.nil | (apply FrSub.cons; exact rfl))), ?_⟩)
    all_goals (rcases x with _ | ⟨g1, c1⟩ <;> rcases y with _ | ⟨g2, c2⟩ <;> simp only [flH, bkH, clH, clA, clC, List.cons_append, List.nil_append, List.append_nil])
    all_goals (repeat (first | exact HpSub.refl _ | (apply HpSub.consE; (repeat (first | exact P0 | apply P1 | apply PA)); exact rfl) | exact HpSub.nil))
   rintro ⟨bd, x, y⟩ ⟨hxn, hyn⟩
   simp only at hxn hyn ⊢
   repeat' (first | (apply oq_fn; exact rfl; try first | exact trivial | (and_intros <;> omega)) | ((with_reducible apply oq_load); exact rfl; exact rfl) | ((with_reducible apply oq_call (k := 63) (hc := Try.call63)); exact rfl; exact rfl; exact fun D w1 hw1 => fromOne hq hw1 (by (repeat (first | exact P0 | apply P1 | apply PA)))) | (with_reducible apply tl_nil) | ((with_reducible apply u_q); (iterate 4 exact rfl)) | ((with_reducible apply u_s); (iterate 3 exact rfl)) | ((with_reducible apply os_x); exact rfl) | ((with_reducible apply ox_buildSlice1); (iterate 6 exact rfl); intro _) | (apply Rd.own; (repeat (first | exact P0 | apply P1 | apply PA)); exact rfl; done) | (with_reducible apply t_seq) | (apply t_region; kernel_rfl) | ((with_reducible apply t_condT); exact rfl) | ((with_reducible apply t_condF); exact rfl) | (with_reducible apply t_ret) | (with_reducible apply t_block) | with_reducible apply q_thenN | with_reducible apply q_thenR | with_reducible apply q_blockR | (with_reducible apply end_ret) | exact rvs_nil | (with_reducible apply rvs_cons) | ((with_reducible apply rv_tmp); exact rfl))
   all_goals rfl
theorem opurse_T (o : Off) (A : Option Addr) (cf : Nat) (B : Option Addr) (cb : Nat) (w : World) (hA : RdS w 4 A o.fl.length (o.fl.map depCells)) (hB : RdS w 3 B o.bk.length (o.bk.map bkCells)) (hnA : A = none → o.fl.length = 0 ∧ cf = 0) (hnB : B = none → o.bk.length = 0 ∧ cb = 0) (hu : ∀ d ∈ o.fl, 0 ≤ d.state) (hn : o.fl.length ≤ 1000000) (hn2 : o.bk.length ≤ 1000000) : Calls Try.prog 22 #[.agg ⟨offCells o A cf B cb⟩] w fun e w' => e = .returned (.tuple #[.int .i64 (purseS o).1, .int .i64 (purseS o).2.1, .int .i64 (purseS o).2.2.1, .int .i64 (purseS o).2.2.2.1, .int .i64 (purseS o).2.2.2.2]) ∧ Ext w w' := by
 unfold purseS
 cases hv : officeB o with
 | false =>
  simp only [Bool.false_eq_true, if_false]
  refine enterQ (c := cx w 27) Try.func22 rfl rfl rfl rfl ?_
  repeat' (first | (apply oq_fn; exact rfl; try first | exact trivial | (and_intros <;> omega)) | ((with_reducible apply oq_loadAgg); exact rfl; exact rfl) | (with_reducible apply tl_nil) | ((with_reducible apply u_s); (iterate 3 exact rfl); (with_reducible apply os_callF (PV := OpenN) (k := 62) (hc := Try.call62)); exact rfl; exact rfl; exact fun D w1 hw1 => openN_T o A cf B cb w1 (hA.ext hw1.ext.ext) (hB.ext hw1.ext.ext) hnA hnB hu hn hn2 hv; rintro v H' ⟨p, rfl, rfl⟩; (try simp only [List.cons_append, List.nil_append])) | ((with_reducible apply u_q); (iterate 4 exact rfl)) | ((with_reducible apply u_s); (iterate 3 exact rfl)) | ((with_reducible apply os_x); exact rfl) | ((with_reducible apply ox_boxAgg); exact rfl; intro _) | (apply Rd.own; (repeat (first | exact P0 | apply P1 | apply PA)); exact rfl; done) | (with_reducible apply t_seq) | (apply t_region; kernel_rfl) | ((with_reducible apply t_condT); exact rfl) | (with_reducible apply t_ret) | with_reducible apply q_thenN | with_reducible apply q_thenR | exact Rdn.zero | apply Rdn.succ | (with_reducible apply end_ret) | exact rvs_nil | (with_reducible apply rvs_cons) | ((with_reducible apply rv_tmp); exact rfl))
  all_goals rfl
 | true =>
  simp only [if_true]
  obtain ⟨h1, hd, hb, hba, _⟩ := officeB_in hu hv
  have hi := headB_in h1
  have hb2 := fun x hxm => booked_st hd (List.all_eq_true.1 hba x hxm)
  refine enterQ (c := cx w 27) Try.func22 rfl rfl rfl rfl ?_
  refine t_cut (ι := Nat) (fun b => [(1, .pointer (some ⟨b, 0, none⟩))]) (fun b => [(b, offCells o A cf B cb, some (25, 7, 1))]) (fun _ => True) ?_ ?_
  ·repeat' (first | (apply oq_fn; exact rfl; try first | exact trivial | (and_intros <;> omega)) | (with_reducible apply tl_nil) | ((with_reducible apply u_q); (iterate 4 exact rfl)) | ((with_reducible apply u_s); (iterate 3 exact rfl)) | ((with_reducible apply os_x); exact rfl) | ((with_reducible apply ox_boxAgg); exact rfl; intro _) | (apply t_region; kernel_rfl))
   all_goals exact ⟨rfl, _, trivial, by (repeat (first | exact FrSub.nil | (apply FrSub.cons; exact rfl))), by (repeat (first | exact HpSub.refl _ | (apply HpSub.consE; (repeat (first | exact P0 | apply P1 | apply PA)); exact rfl) | exact HpSub.nil))⟩
  rintro bo -
  refine t_cut (ι := Nat × Option (Nat × Nat) × Option (Nat × Nat)) (fun z => [(1, .pointer (some ⟨bo, 0, none⟩)), (7, .pointer (some ⟨z.1, 0, none⟩)), (8, .bool true)]) (fun z => (z.1, offCells o (clA z.2.1) (clC z.2.1) (clA z.2.2) (clC z.2.2), some (135, 7, 1)) :: (bo, offCells o A cf B cb, some (25, 7, 1)) :: (flH o z.2.1 ++ bkH o z.2.2)) (fun z => (z.2.1 = none → o.fl.length = 0) ∧ (z.2.2 = none → o.bk.length = 0)) ?_ ?_
  ·repeat' (first | (apply oq_fn; exact rfl; try first | exact trivial | (and_intros <;> omega)) | ((with_reducible apply oq_loadAgg); exact rfl; exact rfl) | (with_reducible apply tl_nil) | ((with_reducible apply u_s); (iterate 3 exact rfl); (with_reducible apply os_callF (PV := OpenY o) (k := 62) (hc := Try.call62)); exact rfl; exact rfl; exact fun D w1 hw1 => openY_T o A cf B cb w1 (hA.ext hw1.ext.ext) (hB.ext hw1.ext.ext) hnA hnB hu hn hn2 hv; rintro v H' ⟨bd, x, y, hxn, hyn, rfl, rfl⟩; (try simp only [deskH, List.cons_append, List.nil_append, List.append_assoc])) | ((with_reducible apply u_q); (iterate 4 exact rfl)) | (apply Rd.own; (repeat (first | exact P0 | apply P1 | apply PA)); exact rfl; done) | (apply t_region; kernel_rfl) | exact Rdn.zero | apply Rdn.succ)
   all_goals (refine ⟨by trivial, (bd, x, y), ⟨hxn, hyn⟩, by (repeat (first | exact FrSub.nil | (apply FrSub.cons; exact rfl))), ?_⟩)
   all_goals (rcases x with _ | ⟨g1, c1⟩ <;> rcases y with _ | ⟨g2, c2⟩ <;> simp only [flH, bkH, clH, clA, clC, List.cons_append, List.nil_append, List.append_nil])
   all_goals (repeat (first | exact HpSub.refl _ | (apply HpSub.consE; (repeat (first | exact P0 | apply P1 | apply PA)); exact rfl) | exact HpSub.nil))
  rintro ⟨bd, x, y⟩ ⟨hxn, hyn⟩
  simp only at hxn hyn ⊢
  have HS := fun w1 hD1 => purse_calls bd o (clA x) (clC x) (clA y) (clC y) w1 hD1 hd hb hb2 (by omega)
  repeat' (first | (apply oq_fn; exact rfl; try first | exact trivial | (and_intros <;> omega)) | ((with_reducible apply oq_load); exact rfl; exact rfl) | ((with_reducible apply oq_call (k := 68) (hc := Try.call68)); exact rfl; exact rfl; exact fun D w1 hw1 => HS w1 (desk_of hw1 (by (repeat (first | exact HpSub.refl _ | (apply HpSub.consE; (repeat (first | exact P0 | apply P1 | apply PA)); exact rfl) | apply HpSub.skipX | apply HpSub.skipX | exact HpSub.nil))) hxn hyn)) | (with_reducible apply tl_nil) | ((with_reducible apply u_q); (iterate 4 exact rfl)) | ((with_reducible apply u_s0); exact rfl; exact rfl) | ((with_reducible apply u_s); (iterate 3 exact rfl)) | (with_reducible apply v_nil) | ((with_reducible apply v_q); (iterate 3 exact rfl)) | ((with_reducible apply os_x); exact rfl) | ((with_reducible apply os_storeAgg); (iterate 5 exact rfl)) | ((with_reducible apply ox_alloc); exact rfl; intro _) | (apply Rd.own; (repeat (first | exact P0 | apply P1 | apply PA)); exact rfl; done) | (with_reducible apply t_seq) | (apply t_region; kernel_rfl) | (apply t_drawn; kernel_rfl; decide +kernel; try simp only [List.append_eq, List.cons_append, List.nil_append]) | ((with_reducible apply t_condF); exact rfl) | (with_reducible apply t_ret) | (with_reducible apply t_skip) | with_reducible apply q_thenN | exact P0 | ((with_reducible apply Norm.nil); exact rfl) | ((with_reducible apply Norm.cons); exact rfl) | (with_reducible apply end_ret) | exact rvs_nil | (with_reducible apply rvs_cons) | ((with_reducible apply rv_tmp); exact rfl) | exact Nat.le_of_ble_eq_true rfl)
  all_goals rfl
theorem turn_T (o : Off) (A : Option Addr) (cf : Nat) (B : Option Addr) (cb : Nat) (w : World) (hA : RdS w 4 A o.fl.length (o.fl.map depCells)) (hB : RdS w 3 B o.bk.length (o.bk.map bkCells)) (hnA : A = none → o.fl.length = 0 ∧ cf = 0) (hnB : B = none → o.bk.length = 0 ∧ cb = 0) (hu : ∀ d ∈ o.fl, 0 ≤ d.state) (hn : o.fl.length ≤ 1000000) (hn2 : o.bk.length ≤ 1000000) (i : Int) : Calls Try.prog 24 #[.agg ⟨offCells o A cf B cb⟩, .int .i64 i] w fun e w' => e = .returned (.tuple #[.int .i64 (turnS o i).1, .int .i64 (turnS o i).2]) ∧ Ext w w' := by
 unfold turnS
 cases hv : officeB o with
 | false =>
  simp only [Bool.false_eq_true, if_false]
  refine enterQ (c := cx w 55) Try.func24 rfl rfl rfl rfl ?_
  repeat' (first | (apply oq_fn; exact rfl; try first | exact trivial | (and_intros <;> omega)) | ((with_reducible apply oq_loadAgg); exact rfl; exact rfl) | (with_reducible apply tl_nil) | ((with_reducible apply u_s); (iterate 3 exact rfl); (with_reducible apply os_callF (PV := OpenN) (k := 62) (hc := Try.call62)); exact rfl; exact rfl; exact fun D w1 hw1 => openN_T o A cf B cb w1 (hA.ext hw1.ext.ext) (hB.ext hw1.ext.ext) hnA hnB hu hn hn2 hv; rintro v H' ⟨p, rfl, rfl⟩; (try simp only [List.cons_append, List.nil_append])) | ((with_reducible apply u_q); (iterate 4 exact rfl)) | ((with_reducible apply u_s); (iterate 3 exact rfl)) | ((with_reducible apply os_x); exact rfl) | ((with_reducible apply ox_boxAgg); exact rfl; intro _) | (apply Rd.own; (repeat (first | exact P0 | apply P1 | apply PA)); exact rfl; done) | (with_reducible apply t_seq) | (apply t_region; kernel_rfl) | ((with_reducible apply t_condT); exact rfl) | (with_reducible apply t_ret) | with_reducible apply q_thenN | with_reducible apply q_thenR | exact Rdn.zero | apply Rdn.succ | (with_reducible apply end_ret) | exact rvs_nil | (with_reducible apply rvs_cons) | ((with_reducible apply rv_tmp); exact rfl))
  all_goals rfl
 | true =>
  simp only [if_true]
  by_cases hin : 0 ≤ i ∧ i < (o.bk.length : Int)
  ·rw [if_pos hin]
   have hq := allFrom_t (lo := 0) (hi := (o.bk.length : Int) - 1) (z := i) ⟨hin.1, by omega⟩
   obtain ⟨j, rfl⟩ : ∃ j : Nat, i = (j : Int) := ⟨i.toNat, by omega⟩
   rw [Int.toNat_natCast]
   have hj : j < o.bk.length := by omega
   obtain ⟨e, hx⟩ : ∃ e, o.bk[j]? = some e := ⟨_, List.getElem?_eq_getElem hj⟩
   rw [hx]
   simp only
   obtain ⟨r0, r1, r2⟩ := bk_at hx
   by_cases h1 : e.state = 1
   ·rw [if_pos h1]
    refine enterQ (c := cx w 55) Try.func24 rfl rfl rfl rfl ?_
    refine t_cut (ι := Nat) (fun b => [(2, .pointer (some ⟨b, 0, none⟩)), (1, .int .i64 (j : Int))]) (fun b => [(b, offCells o A cf B cb, some (25, 7, 1))]) (fun _ => True) ?_ ?_
    ·repeat' (first | (apply oq_fn; exact rfl; try first | exact trivial | (and_intros <;> omega)) | (with_reducible apply tl_nil) | ((with_reducible apply u_q); (iterate 4 exact rfl)) | ((with_reducible apply u_s); (iterate 3 exact rfl)) | ((with_reducible apply os_x); exact rfl) | ((with_reducible apply ox_boxAgg); exact rfl; intro _) | (apply t_region; kernel_rfl))
     all_goals exact ⟨rfl, _, trivial, by (repeat (first | exact FrSub.nil | (apply FrSub.cons; exact rfl))), by (repeat (first | exact HpSub.refl _ | (apply HpSub.consE; (repeat (first | exact P0 | apply P1 | apply PA)); exact rfl) | exact HpSub.nil))⟩
    rintro bo -
    refine t_cut (ι := Nat × Option (Nat × Nat) × Option (Nat × Nat)) (fun z => [(2, .pointer (some ⟨bo, 0, none⟩)), (6, .pointer (some ⟨z.1, 0, none⟩)), (7, .bool true), (1, .int .i64 (j : Int))]) (fun z => (z.1, offCells o (clA z.2.1) (clC z.2.1) (clA z.2.2) (clC z.2.2), some (135, 7, 1)) :: (bo, offCells o A cf B cb, some (25, 7, 1)) :: (flH o z.2.1 ++ bkH o z.2.2)) (fun z => (z.2.1 = none → o.fl.length = 0) ∧ (z.2.2 = none → o.bk.length = 0)) ?_ ?_
    ·repeat' (first | (apply oq_fn; exact rfl; try first | exact trivial | (and_intros <;> omega)) | ((with_reducible apply oq_loadAgg); exact rfl; exact rfl) | (with_reducible apply tl_nil) | ((with_reducible apply u_s); (iterate 3 exact rfl); (with_reducible apply os_callF (PV := OpenY o) (k := 62) (hc := Try.call62)); exact rfl; exact rfl; exact fun D w1 hw1 => openY_T o A cf B cb w1 (hA.ext hw1.ext.ext) (hB.ext hw1.ext.ext) hnA hnB hu hn hn2 hv; rintro v H' ⟨bd, x, y, hxn, hyn, rfl, rfl⟩; (try simp only [deskH, List.cons_append, List.nil_append, List.append_assoc])) | ((with_reducible apply u_q); (iterate 4 exact rfl)) | (apply Rd.own; (repeat (first | exact P0 | apply P1 | apply PA)); exact rfl; done) | (apply t_region; kernel_rfl) | exact Rdn.zero | apply Rdn.succ)
     all_goals (refine ⟨by trivial, (bd, x, y), ⟨hxn, hyn⟩, by (repeat (first | exact FrSub.nil | (apply FrSub.cons; exact rfl))), ?_⟩)
     all_goals (rcases x with _ | ⟨g1, c1⟩ <;> rcases y with _ | ⟨g2, c2⟩ <;> simp only [flH, bkH, clH, clA, clC, List.cons_append, List.nil_append, List.append_nil])
     all_goals (repeat (first | exact HpSub.refl _ | (apply HpSub.consE; (repeat (first | exact P0 | apply P1 | apply PA)); exact rfl) | exact HpSub.nil))
    rintro ⟨bd, x, y⟩ ⟨hxn, hyn⟩
    simp only at hxn hyn ⊢
    rcases y with _ | ⟨gB, cB⟩
    ·exact absurd (hyn rfl) (by omega)
    try simp only [clA_some, clC_some, flH, bkH, clH_some, List.cons_append, List.nil_append]
    repeat' (first | (focus ((with_reducible apply oq_indexAddrN); (iterate 4 exact rfl); omega)) | (apply oq_fn; exact rfl; try first | exact trivial | (and_intros <;> omega)) | ((with_reducible apply oq_load); exact rfl; exact rfl) | ((with_reducible apply oq_call (k := 63) (hc := Try.call63)); exact rfl; exact rfl; exact fun D w1 hw1 => fromOne hq hw1 (by (repeat (first | exact P0 | apply P1 | apply PA)))) | (with_reducible apply tl_nil) | ((with_reducible apply u_q); (iterate 4 exact rfl)) | ((with_reducible apply u_s0); exact rfl; exact rfl) | ((with_reducible apply u_s); (iterate 3 exact rfl)) | ((with_reducible apply os_x); exact rfl) | ((with_reducible apply os_store); (iterate 4 exact rfl)) | ((with_reducible apply ox_alloc); exact rfl; intro _) | ((with_reducible apply ox_buildSlice1); (iterate 6 exact rfl); intro _) | (apply Rd.own; (repeat (first | exact P0 | apply P1 | apply PA)); first | exact r0 | exact r1 | exact r2 | exact r3; done) | (apply Rd.own; (repeat (first | exact P0 | apply P1 | apply PA)); exact rfl; done) | (with_reducible apply t_seq) | (apply t_region; kernel_rfl) | ((with_reducible apply t_condF); exact rfl) | ((with_reducible apply t_condD); exact rfl; all_goals first | (intro hp; try (exfalso; omega)) | skip) | (with_reducible apply t_ret) | (with_reducible apply t_skip) | (with_reducible apply t_block) | with_reducible apply q_thenN | with_reducible apply q_thenR | with_reducible apply q_blockR | exact P0 | ((with_reducible apply Norm.nil); exact rfl) | ((with_reducible apply Norm.cons); exact rfl) | (with_reducible apply end_ret) | exact rvs_nil | (with_reducible apply rvs_cons) | ((with_reducible apply rv_tmp); exact rfl) | exact Nat.le_of_ble_eq_true rfl)
    all_goals rfl
   ·rw [if_neg h1]
    by_cases h2 : e.state = 2
    ·rw [if_pos h2]
     refine enterQ (c := cx w 55) Try.func24 rfl rfl rfl rfl ?_
     refine t_cut (ι := Nat) (fun b => [(2, .pointer (some ⟨b, 0, none⟩)), (1, .int .i64 (j : Int))]) (fun b => [(b, offCells o A cf B cb, some (25, 7, 1))]) (fun _ => True) ?_ ?_
     ·repeat' (first | (apply oq_fn; exact rfl; try first | exact trivial | (and_intros <;> omega)) | (with_reducible apply tl_nil) | ((with_reducible apply u_q); (iterate 4 exact rfl)) | ((with_reducible apply u_s); (iterate 3 exact rfl)) | ((with_reducible apply os_x); exact rfl) | ((with_reducible apply ox_boxAgg); exact rfl; intro _) | (apply t_region; kernel_rfl))
      all_goals exact ⟨rfl, _, trivial, by (repeat (first | exact FrSub.nil | (apply FrSub.cons; exact rfl))), by (repeat (first | exact HpSub.refl _ | (apply HpSub.consE; (repeat (first | exact P0 | apply P1 | apply PA)); exact rfl) | exact HpSub.nil))⟩
     rintro bo -
     refine t_cut (ι := Nat × Option (Nat × Nat) × Option (Nat × Nat)) (fun z => [(2, .pointer (some ⟨bo, 0, none⟩)), (6, .pointer (some ⟨z.1, 0, none⟩)), (7, .bool true), (1, .int .i64 (j : Int))]) (fun z => (z.1, offCells o (clA z.2.1) (clC z.2.1) (clA z.2.2) (clC z.2.2), some (135, 7, 1)) :: (bo, offCells o A cf B cb, some (25, 7, 1)) :: (flH o z.2.1 ++ bkH o z.2.2)) (fun z => (z.2.1 = none → o.fl.length = 0) ∧ (z.2.2 = none → o.bk.length = 0)) ?_ ?_
     ·repeat' (first | (apply oq_fn; exact rfl; try first | exact trivial | (and_intros <;> omega)) | ((with_reducible apply oq_loadAgg); exact rfl; exact rfl) | (with_reducible apply tl_nil) | ((with_reducible apply u_s); (iterate 3 exact rfl); (with_reducible apply os_callF (PV := OpenY o) (k := 62) (hc := Try.call62)); exact rfl; exact rfl; exact fun D w1 hw1 => openY_T o A cf B cb w1 (hA.ext hw1.ext.ext) (hB.ext hw1.ext.ext) hnA hnB hu hn hn2 hv; rintro v H' ⟨bd, x, y, hxn, hyn, rfl, rfl⟩; (try simp only [deskH, List.cons_append, List.nil_append, List.append_assoc])) | ((with_reducible apply u_q); (iterate 4 exact rfl)) | (apply Rd.own; (repeat (first | exact P0 | apply P1 | apply PA)); exact rfl; done) | (apply t_region; kernel_rfl) | exact Rdn.zero | apply Rdn.succ)
      all_goals (refine ⟨by trivial, (bd, x, y), ⟨hxn, hyn⟩, by (repeat (first | exact FrSub.nil | (apply FrSub.cons; exact rfl))), ?_⟩)
      all_goals (rcases x with _ | ⟨g1, c1⟩ <;> rcases y with _ | ⟨g2, c2⟩ <;> simp only [flH, bkH, clH, clA, clC, List.cons_append, List.nil_append, List.append_nil])
      all_goals (repeat (first | exact HpSub.refl _ | (apply HpSub.consE; (repeat (first | exact P0 | apply P1 | apply PA)); exact rfl) | exact HpSub.nil))
     rintro ⟨bd, x, y⟩ ⟨hxn, hyn⟩
     simp only at hxn hyn ⊢
     rcases y with _ | ⟨gB, cB⟩
     ·exact absurd (hyn rfl) (by omega)
     try simp only [clA_some, clC_some, flH, bkH, clH_some, List.cons_append, List.nil_append]
     repeat' (first | (focus ((with_reducible apply oq_indexAddrN); (iterate 4 exact rfl); omega)) | (apply oq_fn; exact rfl; try first | exact trivial | (and_intros <;> omega)) | ((with_reducible apply oq_load); exact rfl; exact rfl) | ((with_reducible apply oq_call (k := 63) (hc := Try.call63)); exact rfl; exact rfl; exact fun D w1 hw1 => fromOne hq hw1 (by (repeat (first | exact P0 | apply P1 | apply PA)))) | (with_reducible apply tl_nil) | ((with_reducible apply u_s); (iterate 3 exact rfl); (with_reducible apply os_callF (PV := OfV bd e.flight (some ⟨_, 0, none⟩) 1 1) (k := 70) (hc := Try.call70)); exact rfl; exact rfl; exact fun D w1 hw1 => of_T _ _ _ _ _ w1; rintro v H' ⟨b0, b1, b2, rfl, rfl⟩; (try simp only [List.cons_append, List.nil_append])) | ((with_reducible apply u_q); (iterate 4 exact rfl)) | ((with_reducible apply u_s0); exact rfl; exact rfl) | ((with_reducible apply u_s); (iterate 3 exact rfl)) | ((with_reducible apply os_x); exact rfl) | ((with_reducible apply os_store); (iterate 4 exact rfl)) | ((with_reducible apply ox_alloc); exact rfl; intro _) | ((with_reducible apply ox_buildSlice1); (iterate 6 exact rfl); intro _) | (apply Rd.own; (repeat (first | exact P0 | apply P1 | apply PA)); first | exact r0 | exact r1 | exact r2 | exact r3; done) | (apply Rd.own; (repeat (first | exact P0 | apply P1 | apply PA)); exact rfl; done) | (with_reducible apply t_seq) | (apply t_region; kernel_rfl) | ((with_reducible apply t_condF); exact rfl) | ((with_reducible apply t_condD); exact rfl; all_goals first | (intro hp; try (exfalso; omega)) | skip) | (with_reducible apply t_skip) | (with_reducible apply t_block) | with_reducible apply q_thenN | exact P0 | ((with_reducible apply Norm.nil); exact rfl) | ((with_reducible apply Norm.cons); exact rfl) | exact Nat.le_of_ble_eq_true rfl)
     rename_i bq bm _ bn bs
     have hme : mtB e.flight [2] e = true := by unfold mtB; simp [h2]
     refine t_rangeV (m := 1) (α := Ix o.bk.length) (β := Unit) (κ := Nat) (ι := Nat) (encs := fun x => [.pointer (some ⟨gB, 0 + x.1 * 3, none⟩)]) (Rq := fun _ W => OfAt b0 b1 b2 bd (some ⟨gB, 0, none⟩) o.bk.length cB e.flight (some ⟨bs, 0, none⟩) 1 1 [2] W) (G := OfG (some ⟨gB, 0, none⟩) o.bk.length e.flight [2]) (E := OfE (some ⟨gB, 0, none⟩) o.bk.length e.flight [2])
      (hk := (b2, [.slice (some ⟨bs, 0, none⟩) 1 1], some (109, 1, 1)) :: (b1, [.int .i64 e.flight], some (3, 1, 1)) :: (b0, [.pointer (some ⟨bd, 0, none⟩)], some (121, 1, 1)) :: (bs, [.int .u8 2], some (5, 1, 1)) :: (bm, [.pointer (some ⟨gB, 0 + j * 3, none⟩)], some (133, 1, 1)) :: (bd, offCells o (clA x) (clC x) (some ⟨gB, 0, none⟩) cB, some (135, 7, 1)) :: (clH 106 4 (o.fl.map depCells).flatten x ++ [(gB, (o.bk.map bkCells).flatten, some (71, 3, cB))]))
      (fun n => [(bn, [.int .i64 (n : Nat)], some (3, 1, 1))]) (fun pre n => n = cntTo (mtB e.flight [2]) o.bk (bnd pre) ∧ bnd pre ≤ j) (fun _ _ => []) (fun x _ => [(10, .pointer (some ⟨gB, 0 + x.1 * 3, none⟩)), (9, .pointer (some ⟨bn, 0, none⟩)), (8, .pointer (some ⟨bm, 0, none⟩))]) (fun n => [(bn, [.int .i64 (n : Nat)], some (3, 1, 1))])
      (fun k _ n => k = .exit 1 ∧ n = cntTo (mtB e.flight [2]) o.bk j + 1) 0 rfl Try.call100
      (of1_seqV 2 b0 b1 b2 bd gB 0 (some ⟨gB, 0, none⟩) o.bk.length cB e.flight (some ⟨bs, 0, none⟩) 1 1 [2] (fun _ => rfl) hn2 (by omega)) (fun n0 x => OfG.abide _ _ _ _ n0 x) (fun n0 => OfE.abide _ _ _ _ n0) ?rq ?h0 ?sub ?ok ?done ?stop
     case rq =>
      intro pre n D W _ hw
      simp only [List.cons_append, List.nil_append] at hw
      have hD := desk_of (x := x) (y := some (gB, cB)) hw (by (repeat (first | exact HpSub.refl _ | (apply HpSub.consE; (repeat (first | exact P0 | apply P1 | apply PA)); exact rfl) | apply HpSub.skipX | exact HpSub.nil))) hxn (fun h => by cases h)
      exact ⟨hw.cellAt (by (repeat (first | exact P0 | apply P1 | apply PA))) rfl, hw.cellAt (by (repeat (first | exact P0 | apply P1 | apply PA))) rfl, hw.cellAt (by (repeat (first | exact P0 | apply P1 | apply PA))) rfl, one8 hw (by (repeat (first | exact P0 | apply P1 | apply PA))), hD.bks, _, hD.bk⟩
     case h0 => exact ⟨rfl, Nat.zero_le _⟩
     case sub =>
      simp only [List.cons_append, List.nil_append]
      (repeat (first | exact HpSub.refl _ | (apply HpSub.consE; (repeat (first | exact P0 | apply P1 | apply PA)); exact rfl) | apply HpSub.skipX | exact HpSub.nil))
     case ok =>
      refine ⟨fun _ => rfl, rfl, fun x W => .inr ?_, fun x b i n W D hb hw _ y hy => (List.not_mem_nil hy).elim, fun l' pre z n b W D ⟨hi, hbj⟩ hw hG hl' => ?_⟩
      ·refine sl0_region (by kernel_rfl) ?_
       repeat' (first | (apply oq_fn; exact rfl; try first | exact trivial | (and_intros <;> omega)) | (with_reducible apply tl_nil) | ((with_reducible apply u_q); (iterate 4 exact rfl)))
       refine ⟨(), ?_, ?_⟩
       ·(repeat (first | exact FrSub.nil | (apply FrSub.cons; exact rfl)))
       ·(repeat (first | exact HpSub.refl _ | (apply HpSub.consE; (repeat (first | exact P0 | apply P1 | apply PA)); exact rfl) | apply HpSub.skipX | exact HpSub.nil))
      ·obtain ⟨hbe, bk', hr', hm, hno⟩ := hG
       have m0 := hw.off (b := bm) (by simp)
       simp only [List.cons_append, List.nil_append] at hw m0 ⊢
       have hD := desk_of (x := x) (y := some (gB, cB)) hw (by (repeat (first | exact HpSub.refl _ | (apply HpSub.consE; (repeat (first | exact P0 | apply P1 | apply PA)); exact rfl) | apply HpSub.skipX | exact HpSub.nil))) hxn (fun h => by cases h)
       obtain rfl : bk' = o.bk := bk_inj (hr'.inj hD.bk)
       have hzl : z.1 < o.bk.length := z.2
       have hgz := List.getElem?_eq_getElem hzl
       have hzj : z.1 ≤ j := by
        refine Nat.le_of_not_lt fun hlt => ?_
        have := hno j e (behind_iff.2 hbj) hlt hx
        rw [hme] at this; cases this
       have hcz : cntTo (mtB e.flight [2]) o.bk z.1 = n := by rw [hi]; exact cnt_gap (behind_iff.1 hbe) (fun i y h1 h2 h3 => hno i y (behind_iff.2 h1) h2 h3)
       have hle := cnt_le (mtB e.flight [2]) o.bk z.1
       have c0 : W.cell? ⟨bm, 0, none⟩ = some (.pointer (some ⟨gB, 0 + j * 3, none⟩)) := hw.cellAt (by (repeat (first | exact P0 | apply P1 | apply PA))) rfl
       by_cases hzj2 : z.1 = j
       ·have hq1 : decide (0 + z.1 * 3 = 0 + j * 3) = true := by rw [hzj2]; simp
        repeat' (first | ((with_reducible apply oq_eqPtr); (iterate 4 exact rfl); exact hq1) | (apply oq_fn; exact rfl; try first | exact trivial | (and_intros <;> omega)) | ((with_reducible apply oq_load); exact rfl; exact rfl) | (with_reducible apply tl_nil) | ((with_reducible apply u_q); (iterate 4 exact rfl)) | ((with_reducible apply u_s0); exact rfl; exact rfl) | ((with_reducible apply os_store); (iterate 4 exact rfl)) | (apply Rd.own; (repeat (first | exact P0 | apply P1 | apply PA)); exact rfl; done) | (apply Rd.old; (first | (with_reducible assumption) | exact c0 | exact c1 | exact c2 | exact c3 | exact c4 | exact c5 | exact c6 | exact c7 | exact c8 | exact d0 | exact d1 | exact d2 | exact d3 | exact d4 | exact d5); first | exact List.not_mem_nil | exact m0 | exact m1 | exact m2 | exact m3 | exact m4 | exact m5 | exact m6 | exact m7 | exact m8 | exact m9) | (with_reducible apply t_seq) | (apply t_region; kernel_rfl) | ((with_reducible apply t_condT); exact rfl) | (with_reducible apply t_exit) | (with_reducible apply t_block) | with_reducible apply q_thenN | ((with_reducible apply q_blockO); exact rfl) | exact P0 | ((with_reducible apply Norm.nil); exact rfl) | ((with_reducible apply Norm.cons); exact rfl) | exact Nat.le_of_ble_eq_true rfl)
        refine ⟨n + 1, ⟨rfl, by rw [← hcz, hzj2]⟩, ?_⟩
        (repeat (first | exact HpSub.refl _ | (apply HpSub.consE; (repeat (first | exact P0 | apply P1 | apply PA)); first | exact rfl | (simp only [Int.natCast_add, Int.natCast_one])) | apply HpSub.skipX | exact HpSub.nil))
       ·have hq1 : decide (0 + z.1 * 3 = 0 + j * 3) = false := decide_eq_false (by omega)
        repeat' (first | ((with_reducible apply oq_eqPtr); (iterate 4 exact rfl); exact hq1) | (apply oq_fn; exact rfl; try first | exact trivial | (and_intros <;> omega)) | ((with_reducible apply oq_load); exact rfl; exact rfl) | (with_reducible apply tl_nil) | ((with_reducible apply u_q); (iterate 4 exact rfl)) | ((with_reducible apply u_s0); exact rfl; exact rfl) | ((with_reducible apply os_store); (iterate 4 exact rfl)) | (apply Rd.own; (repeat (first | exact P0 | apply P1 | apply PA)); exact rfl; done) | (apply Rd.old; (first | (with_reducible assumption) | exact c0 | exact c1 | exact c2 | exact c3 | exact c4 | exact c5 | exact c6 | exact c7 | exact c8 | exact d0 | exact d1 | exact d2 | exact d3 | exact d4 | exact d5); first | exact List.not_mem_nil | exact m0 | exact m1 | exact m2 | exact m3 | exact m4 | exact m5 | exact m6 | exact m7 | exact m8 | exact m9) | (with_reducible apply t_seq) | (apply t_region; kernel_rfl) | ((with_reducible apply t_condF); exact rfl) | (with_reducible apply t_skip) | (with_reducible apply t_block) | with_reducible apply q_thenN | with_reducible apply q_blockN | exact P0 | ((with_reducible apply Norm.nil); exact rfl) | ((with_reducible apply Norm.cons); exact rfl) | exact Nat.le_of_ble_eq_true rfl)
        refine ⟨n + 1, ⟨by rw [bnd_snoc hbe, cnt_hit hgz (hm _ hgz), hcz], by rw [bnd_snoc hbe]; omega⟩, ?_⟩
        (repeat (first | exact HpSub.refl _ | (apply HpSub.consE; (repeat (first | exact P0 | apply P1 | apply PA)); first | exact rfl | (simp only [Int.natCast_add, Int.natCast_one])) | apply HpSub.skipX | exact HpSub.nil))
     case done =>
      rintro D xs n W ⟨bk', hr', hno⟩ ⟨hi, hbj⟩ hw
      exfalso
      simp only [List.cons_append, List.nil_append] at hw
      have hD := desk_of (x := x) (y := some (gB, cB)) hw (by (repeat (first | exact HpSub.refl _ | (apply HpSub.consE; (repeat (first | exact P0 | apply P1 | apply PA)); exact rfl) | apply HpSub.skipX | exact HpSub.nil))) hxn (fun h => by cases h)
      obtain rfl : bk' = o.bk := bk_inj (hr'.inj hD.bk)
      have := hno j e (behind_iff.2 hbj) hx
      rw [hme] at this; cases this
     case stop =>
      rintro k pre n ⟨rfl, hnv⟩
      simp only [List.cons_append, List.nil_append]
      have hv2 := mt_manyTo o.bk e.flight 2 j
      rw [← hv2]
      obtain ⟨q, hqv⟩ : ∃ q, cntTo (mtB e.flight [2]) o.bk j = q := ⟨_, rfl⟩
      rw [hqv] at hnv ⊢
      subst hnv
      repeat' (first | (apply oq_fn; exact rfl; try first | exact trivial | (and_intros <;> omega)) | ((with_reducible apply oq_load); exact rfl; exact rfl) | (with_reducible apply tl_nil) | ((with_reducible apply u_q); (iterate 4 exact rfl)) | (apply Rd.own; (repeat (first | exact P0 | apply P1 | apply PA)); exact rfl; done) | (with_reducible apply t_seq) | (apply t_region; kernel_rfl) | (with_reducible apply t_ret) | (with_reducible apply t_exit) | with_reducible apply q_thenN | with_reducible apply q_thenR | with_reducible apply q_blockR | ((with_reducible apply q_blockE); exact rfl) | (with_reducible apply end_ret) | exact rvs_nil | (with_reducible apply rvs_cons) | ((with_reducible apply rv_tmp); exact rfl))
      all_goals (simp only [Int.natCast_add, Int.natCast_one]; rfl)
    ·rw [if_neg h2]
     refine enterQ (c := cx w 55) Try.func24 rfl rfl rfl rfl ?_
     refine t_cut (ι := Nat) (fun b => [(2, .pointer (some ⟨b, 0, none⟩)), (1, .int .i64 (j : Int))]) (fun b => [(b, offCells o A cf B cb, some (25, 7, 1))]) (fun _ => True) ?_ ?_
     ·repeat' (first | (apply oq_fn; exact rfl; try first | exact trivial | (and_intros <;> omega)) | (with_reducible apply tl_nil) | ((with_reducible apply u_q); (iterate 4 exact rfl)) | ((with_reducible apply u_s); (iterate 3 exact rfl)) | ((with_reducible apply os_x); exact rfl) | ((with_reducible apply ox_boxAgg); exact rfl; intro _) | (apply t_region; kernel_rfl))
      all_goals exact ⟨rfl, _, trivial, by (repeat (first | exact FrSub.nil | (apply FrSub.cons; exact rfl))), by (repeat (first | exact HpSub.refl _ | (apply HpSub.consE; (repeat (first | exact P0 | apply P1 | apply PA)); exact rfl) | exact HpSub.nil))⟩
     rintro bo -
     refine t_cut (ι := Nat × Option (Nat × Nat) × Option (Nat × Nat)) (fun z => [(2, .pointer (some ⟨bo, 0, none⟩)), (6, .pointer (some ⟨z.1, 0, none⟩)), (7, .bool true), (1, .int .i64 (j : Int))]) (fun z => (z.1, offCells o (clA z.2.1) (clC z.2.1) (clA z.2.2) (clC z.2.2), some (135, 7, 1)) :: (bo, offCells o A cf B cb, some (25, 7, 1)) :: (flH o z.2.1 ++ bkH o z.2.2)) (fun z => (z.2.1 = none → o.fl.length = 0) ∧ (z.2.2 = none → o.bk.length = 0)) ?_ ?_
     ·repeat' (first | (apply oq_fn; exact rfl; try first | exact trivial | (and_intros <;> omega)) | ((with_reducible apply oq_loadAgg); exact rfl; exact rfl) | (with_reducible apply tl_nil) | ((with_reducible apply u_s); (iterate 3 exact rfl); (with_reducible apply os_callF (PV := OpenY o) (k := 62) (hc := Try.call62)); exact rfl; exact rfl; exact fun D w1 hw1 => openY_T o A cf B cb w1 (hA.ext hw1.ext.ext) (hB.ext hw1.ext.ext) hnA hnB hu hn hn2 hv; rintro v H' ⟨bd, x, y, hxn, hyn, rfl, rfl⟩; (try simp only [deskH, List.cons_append, List.nil_append, List.append_assoc])) | ((with_reducible apply u_q); (iterate 4 exact rfl)) | (apply Rd.own; (repeat (first | exact P0 | apply P1 | apply PA)); exact rfl; done) | (apply t_region; kernel_rfl) | exact Rdn.zero | apply Rdn.succ)
      all_goals (refine ⟨by trivial, (bd, x, y), ⟨hxn, hyn⟩, by (repeat (first | exact FrSub.nil | (apply FrSub.cons; exact rfl))), ?_⟩)
      all_goals (rcases x with _ | ⟨g1, c1⟩ <;> rcases y with _ | ⟨g2, c2⟩ <;> simp only [flH, bkH, clH, clA, clC, List.cons_append, List.nil_append, List.append_nil])
      all_goals (repeat (first | exact HpSub.refl _ | (apply HpSub.consE; (repeat (first | exact P0 | apply P1 | apply PA)); exact rfl) | exact HpSub.nil))
     rintro ⟨bd, x, y⟩ ⟨hxn, hyn⟩
     simp only at hxn hyn ⊢
     rcases y with _ | ⟨gB, cB⟩
     ·exact absurd (hyn rfl) (by omega)
     try simp only [clA_some, clC_some, flH, bkH, clH_some, List.cons_append, List.nil_append]
     repeat' (first | (focus ((with_reducible apply oq_indexAddrN); (iterate 4 exact rfl); omega)) | (apply oq_fn; exact rfl; try first | exact trivial | (and_intros <;> omega)) | ((with_reducible apply oq_load); exact rfl; exact rfl) | ((with_reducible apply oq_call (k := 63) (hc := Try.call63)); exact rfl; exact rfl; exact fun D w1 hw1 => fromOne hq hw1 (by (repeat (first | exact P0 | apply P1 | apply PA)))) | (with_reducible apply tl_nil) | ((with_reducible apply u_q); (iterate 4 exact rfl)) | ((with_reducible apply u_s0); exact rfl; exact rfl) | ((with_reducible apply u_s); (iterate 3 exact rfl)) | ((with_reducible apply os_x); exact rfl) | ((with_reducible apply os_store); (iterate 4 exact rfl)) | ((with_reducible apply ox_alloc); exact rfl; intro _) | ((with_reducible apply ox_buildSlice1); (iterate 6 exact rfl); intro _) | (apply Rd.own; (repeat (first | exact P0 | apply P1 | apply PA)); first | exact r0 | exact r1 | exact r2 | exact r3; done) | (apply Rd.own; (repeat (first | exact P0 | apply P1 | apply PA)); exact rfl; done) | (with_reducible apply t_seq) | (apply t_region; kernel_rfl) | ((with_reducible apply t_condF); exact rfl) | ((with_reducible apply t_condD); exact rfl; all_goals first | (intro hp; try (exfalso; omega)) | skip) | (with_reducible apply t_ret) | (with_reducible apply t_skip) | (with_reducible apply t_block) | with_reducible apply q_thenN | with_reducible apply q_blockN | exact P0 | ((with_reducible apply Norm.nil); exact rfl) | ((with_reducible apply Norm.cons); exact rfl) | (with_reducible apply end_ret) | exact rvs_nil | (with_reducible apply rvs_cons) | ((with_reducible apply rv_tmp); exact rfl) | exact Nat.le_of_ble_eq_true rfl)
     all_goals rfl
  ·rw [if_neg hin]
   have hq := allFrom_f (lo := 0) (hi := (o.bk.length : Int) - 1) (z := i) (by omega)
   refine enterQ (c := cx w 55) Try.func24 rfl rfl rfl rfl ?_
   refine t_cut (ι := Nat) (fun b => [(2, .pointer (some ⟨b, 0, none⟩)), (1, .int .i64 i)]) (fun b => [(b, offCells o A cf B cb, some (25, 7, 1))]) (fun _ => True) ?_ ?_
   ·repeat' (first | (apply oq_fn; exact rfl; try first | exact trivial | (and_intros <;> omega)) | (with_reducible apply tl_nil) | ((with_reducible apply u_q); (iterate 4 exact rfl)) | ((with_reducible apply u_s); (iterate 3 exact rfl)) | ((with_reducible apply os_x); exact rfl) | ((with_reducible apply ox_boxAgg); exact rfl; intro _) | (apply t_region; kernel_rfl))
    all_goals exact ⟨rfl, _, trivial, by (repeat (first | exact FrSub.nil | (apply FrSub.cons; exact rfl))), by (repeat (first | exact HpSub.refl _ | (apply HpSub.consE; (repeat (first | exact P0 | apply P1 | apply PA)); exact rfl) | exact HpSub.nil))⟩
   rintro bo -
   refine t_cut (ι := Nat × Option (Nat × Nat) × Option (Nat × Nat)) (fun z => [(2, .pointer (some ⟨bo, 0, none⟩)), (6, .pointer (some ⟨z.1, 0, none⟩)), (7, .bool true), (1, .int .i64 i)]) (fun z => (z.1, offCells o (clA z.2.1) (clC z.2.1) (clA z.2.2) (clC z.2.2), some (135, 7, 1)) :: (bo, offCells o A cf B cb, some (25, 7, 1)) :: (flH o z.2.1 ++ bkH o z.2.2)) (fun z => (z.2.1 = none → o.fl.length = 0) ∧ (z.2.2 = none → o.bk.length = 0)) ?_ ?_
   ·repeat' (first | (apply oq_fn; exact rfl; try first | exact trivial | (and_intros <;> omega)) | ((with_reducible apply oq_loadAgg); exact rfl; exact rfl) | (with_reducible apply tl_nil) | ((with_reducible apply u_s); (iterate 3 exact rfl); (with_reducible apply os_callF (PV := OpenY o) (k := 62) (hc := Try.call62)); exact rfl; exact rfl; exact fun D w1 hw1 => openY_T o A cf B cb w1 (hA.ext hw1.ext.ext) (hB.ext hw1.ext.ext) hnA hnB hu hn hn2 hv; rintro v H' ⟨bd, x, y, hxn, hyn, rfl, rfl⟩; (try simp only [deskH, List.cons_append, List.nil_append, List.append_assoc])) | ((with_reducible apply u_q); (iterate 4 exact rfl)) | (apply Rd.own; (repeat (first | exact P0 | apply P1 | apply PA)); exact rfl; done) | (apply t_region; kernel_rfl) | exact Rdn.zero | apply Rdn.succ)
    all_goals (refine ⟨by trivial, (bd, x, y), ⟨hxn, hyn⟩, by (repeat (first | exact FrSub.nil | (apply FrSub.cons; exact rfl))), ?_⟩)
    all_goals (rcases x with _ | ⟨g1, c1⟩ <;> rcases y with _ | ⟨g2, c2⟩ <;> simp only [flH, bkH, clH, clA, clC, List.cons_append, List.nil_append, List.append_nil])
    all_goals (repeat (first | exact HpSub.refl _ | (apply HpSub.consE; (repeat (first | exact P0 | apply P1 | apply PA)); exact rfl) | exact HpSub.nil))
   rintro ⟨bd, x, y⟩ ⟨hxn, hyn⟩
   simp only at hxn hyn ⊢
   repeat' (first | (apply oq_fn; exact rfl; try first | exact trivial | (and_intros <;> omega)) | ((with_reducible apply oq_load); exact rfl; exact rfl) | ((with_reducible apply oq_call (k := 63) (hc := Try.call63)); exact rfl; exact rfl; exact fun D w1 hw1 => fromOne hq hw1 (by (repeat (first | exact P0 | apply P1 | apply PA)))) | (with_reducible apply tl_nil) | ((with_reducible apply u_q); (iterate 4 exact rfl)) | ((with_reducible apply u_s); (iterate 3 exact rfl)) | ((with_reducible apply os_x); exact rfl) | ((with_reducible apply ox_buildSlice1); (iterate 6 exact rfl); intro _) | (apply Rd.own; (repeat (first | exact P0 | apply P1 | apply PA)); exact rfl; done) | (with_reducible apply t_seq) | (apply t_region; kernel_rfl) | ((with_reducible apply t_condT); exact rfl) | ((with_reducible apply t_condF); exact rfl) | (with_reducible apply t_ret) | (with_reducible apply t_skip) | with_reducible apply q_thenN | with_reducible apply q_thenR | (with_reducible apply end_ret) | exact rvs_nil | (with_reducible apply rvs_cons) | ((with_reducible apply rv_tmp); exact rfl))
   all_goals rfl
def zeroO : Off := ⟨0, 0, 0, 0, 0, [], []⟩
/-- What Do answers: the error; the office. -/
def doE (o : Off) (d : Deal) : Int := if officeB o = true then doneE o d else 84
def doR (o : Off) (d : Deal) : Off := if officeB o = true ∧ doneE o d = 0 then doneO o d else zeroO
def AnyV (p : Off) (e : Int) (v : Value) (H : Hp) : Prop := ∃ x y, (x = none → p.fl.length = 0) ∧ (y = none → p.bk.length = 0) ∧ v = .tuple #[.agg ⟨offCells p (clA x) (clC x) (clA y) (clC y)⟩, .int .i64 e] ∧ H = flH p x ++ bkH p y
theorem cDo_T (o : Off) (A : Option Addr) (cf : Nat) (B : Option Addr) (cb : Nat) (w : World) (hA : RdS w 4 A o.fl.length (o.fl.map depCells)) (hB : RdS w 3 B o.bk.length (o.bk.map bkCells)) (hnA : A = none → o.fl.length = 0 ∧ cf = 0) (hnB : B = none → o.bk.length = 0 ∧ cb = 0) (hu : ∀ d ∈ o.fl, 0 ≤ d.state) (hn : o.fl.length ≤ 1000000) (hn2 : o.bk.length ≤ 1000000) (d : Deal) (hk : 0 ≤ d.kind ∧ d.kind ≤ 255) : Calls Try.prog 37 #[.agg ⟨offCells o A cf B cb⟩, .agg ⟨dealCells d⟩] w fun e w' => ∃ v H', e = .returned v ∧ AnyV (doR o d) (doE o d) v H' ∧ Has w ⟨[], []⟩ H' w' := by
 unfold doR doE
 cases hv : officeB o with
 | false =>
  simp only [Bool.false_eq_true, false_and, if_false]
  refine enterF (c := cx w 28) Try.func37 rfl rfl rfl rfl ?_
  repeat' (first | (apply oq_fn; exact rfl; try first | exact trivial | (and_intros <;> omega)) | ((with_reducible apply oq_loadAgg); exact rfl; exact rfl) | ((with_reducible apply oq_build); (iterate 3 exact rfl)) | (with_reducible apply tl_nil) | ((with_reducible apply u_s); (iterate 3 exact rfl); (with_reducible apply os_callF (PV := OpenN) (k := 62) (hc := Try.call62)); exact rfl; exact rfl; exact fun D w1 hw1 => openN_T o A cf B cb w1 (hA.ext hw1.ext.ext) (hB.ext hw1.ext.ext) hnA hnB hu hn hn2 hv; rintro v H' ⟨p, rfl, rfl⟩; (try simp only [List.cons_append, List.nil_append])) | ((with_reducible apply u_q); (iterate 4 exact rfl)) | ((with_reducible apply u_s0); exact rfl; exact rfl) | ((with_reducible apply u_s); (iterate 3 exact rfl)) | ((with_reducible apply os_x); exact rfl) | ((with_reducible apply os_storeAgg); (iterate 5 exact rfl)) | ((with_reducible apply ox_alloc); exact rfl; intro _) | ((with_reducible apply ox_boxAgg); exact rfl; intro _) | (apply Rd.own; (repeat (first | exact P0 | apply P1 | apply PA)); exact rfl; done) | (with_reducible apply t_seq) | (apply t_region; kernel_rfl) | ((with_reducible apply t_condT); exact rfl) | (with_reducible apply t_ret) | with_reducible apply q_thenN | with_reducible apply q_thenR | exact P0 | exact Rdn.zero | apply Rdn.succ | ((with_reducible apply Norm.nil); exact rfl) | ((with_reducible apply Norm.cons); exact rfl) | (with_reducible apply end_ret) | exact rvs_nil | (with_reducible apply rvs_cons) | ((with_reducible apply rv_tmp); exact rfl) | ((with_reducible apply rv_cellAgg); exact rfl; exact rfl) | exact Nat.le_of_ble_eq_true rfl)
  all_goals exact ⟨_, ⟨none, none, (fun _ => rfl), (fun _ => rfl), rfl, rfl⟩, HpSub.nil⟩
 | true =>
  have hO := okO hu hv
  simp only [true_and, if_true]
  by_cases hE : doneE o d = 0
  ·rw [if_pos hE, hE]
   refine enterF (c := cx w 28) Try.func37 rfl rfl rfl rfl ?_
   refine t_cut (ι := Nat × Nat × Nat) (fun z => [(2, .pointer (some ⟨z.1, 0, none⟩)), (3, .pointer (some ⟨z.2.1, 0, none⟩)), (4, .pointer (some ⟨z.2.2, 0, none⟩))]) (fun z => (z.2.2, [.int .i64 0, .int .i64 0, .int .i64 0, .slice none 0 0, .slice none 0 0, .int .i64 0, .int .i64 0], some (25, 7, 1)) :: (z.2.1, dealCells d, some (63, 5, 1)) :: (z.1, offCells o A cf B cb, some (25, 7, 1)) :: []) (fun _ => True) ?_ ?_
   ·repeat' (first | (apply oq_fn; exact rfl; try first | exact trivial | (and_intros <;> omega)) | (with_reducible apply tl_nil) | ((with_reducible apply u_q); (iterate 4 exact rfl)) | ((with_reducible apply u_s); (iterate 3 exact rfl)) | ((with_reducible apply os_x); exact rfl) | ((with_reducible apply ox_alloc); exact rfl; intro _) | ((with_reducible apply ox_boxAgg); exact rfl; intro _) | (apply t_region; kernel_rfl))
    all_goals exact ⟨rfl, (_, _, _), trivial, by (repeat (first | exact FrSub.nil | (apply FrSub.cons; exact rfl))), by (repeat (first | exact HpSub.refl _ | (apply HpSub.consE; (repeat (first | exact P0 | apply P1 | apply PA)); exact rfl) | exact HpSub.nil))⟩
   rintro ⟨b2, b3, b4⟩ -
   refine t_cut (ι := Nat × Option (Nat × Nat) × Option (Nat × Nat)) (fun z => [(3, .pointer (some ⟨b3, 0, none⟩)), (4, .pointer (some ⟨b4, 0, none⟩)), (6, .pointer (some ⟨z.1, 0, none⟩)), (7, .bool true)]) (fun z => (z.1, offCells o (clA z.2.1) (clC z.2.1) (clA z.2.2) (clC z.2.2), some (135, 7, 1)) :: (b4, [.int .i64 0, .int .i64 0, .int .i64 0, .slice none 0 0, .slice none 0 0, .int .i64 0, .int .i64 0], some (25, 7, 1)) :: (b3, dealCells d, some (63, 5, 1)) :: (flH o z.2.1 ++ bkH o z.2.2)) (fun z => (z.2.1 = none → o.fl.length = 0) ∧ (z.2.2 = none → o.bk.length = 0)) ?_ ?_
   ·repeat' (first | (apply oq_fn; exact rfl; try first | exact trivial | (and_intros <;> omega)) | ((with_reducible apply oq_loadAgg); exact rfl; exact rfl) | (with_reducible apply tl_nil) | ((with_reducible apply u_s); (iterate 3 exact rfl); (with_reducible apply os_callF (PV := OpenY o) (k := 62) (hc := Try.call62)); exact rfl; exact rfl; exact fun D w1 hw1 => openY_T o A cf B cb w1 (hA.ext hw1.ext.ext) (hB.ext hw1.ext.ext) hnA hnB hu hn hn2 hv; rintro v H' ⟨bd, x, y, hxn, hyn, rfl, rfl⟩; (try simp only [deskH, List.cons_append, List.nil_append, List.append_assoc])) | ((with_reducible apply u_q); (iterate 4 exact rfl)) | (apply Rd.own; (repeat (first | exact P0 | apply P1 | apply PA)); exact rfl; done) | (apply t_region; kernel_rfl) | exact Rdn.zero | apply Rdn.succ)
    all_goals (refine ⟨by trivial, (bd, x, y), ⟨hxn, hyn⟩, by (repeat (first | exact FrSub.nil | (apply FrSub.cons; exact rfl))), ?_⟩)
    all_goals (rcases x with _ | ⟨g1, c1⟩ <;> rcases y with _ | ⟨g2, c2⟩ <;> simp only [flH, bkH, clH, clA, clC, List.cons_append, List.nil_append, List.append_nil])
    all_goals (repeat (first | exact HpSub.refl _ | (apply HpSub.consE; (repeat (first | exact P0 | apply P1 | apply PA)); exact rfl) | exact HpSub.nil))
   rintro ⟨bd, x, y⟩ ⟨hxn, hyn⟩
   simp only at hxn hyn ⊢
   repeat' (first | ((with_reducible apply oq_neqF); exact rfl; exact rfl; omega) | (apply oq_fn; exact rfl; try first | exact trivial | (and_intros <;> omega)) | ((with_reducible apply oq_loadAgg); exact rfl; exact rfl) | (with_reducible apply tl_nil) | ((with_reducible apply u_s); (iterate 3 exact rfl); (with_reducible apply os_callM (PV := fun v H => v = .int .i64 0 ∧ AtW bd (doneO o d) H) (G := deskH bd o x y) (R := [(b4, [.int .i64 0, .int .i64 0, .int .i64 0, .slice none 0 0, .slice none 0 0, .int .i64 0, .int .i64 0], some (25, 7, 1))]) (k := 79) (hc := Try.call79)); exact rfl; exact rfl; (focus (unfold deskH flH bkH; rcases x with _ | ⟨gF, cF⟩ <;> rcases y with _ | ⟨gB, cB⟩ <;> simp only [clH, clA, clC, List.nil_append, List.cons_append, List.append_nil] <;> ((repeat (first | exact HpSub.refl _ | (apply HpSub.consE; (repeat (first | exact P0 | apply P1 | apply PA)); exact rfl) | apply HpSub.skipX | apply HpSub.skipX | exact HpSub.nil))))); exact (fun D w1 hw1 hwG => do_ok bd o x y hxn hyn hO w1 hwG d hE); rintro v H1 ⟨rfl, x', y', hx', hy', rfl⟩; (simp only [deskH, List.cons_append, List.nil_append, List.append_assoc])) | ((with_reducible apply u_q); (iterate 4 exact rfl)) | ((with_reducible apply u_s0); exact rfl; exact rfl) | ((with_reducible apply os_storeAgg); (iterate 5 exact rfl)) | (apply Rd.own; (repeat (first | exact P0 | apply P1 | apply PA)); exact rfl; done) | (with_reducible apply t_seq) | (apply t_region; kernel_rfl) | ((with_reducible apply t_condF); exact rfl) | (with_reducible apply t_ret) | (with_reducible apply t_skip) | with_reducible apply q_thenN | exact P0 | (first | (with_reducible apply P1) | (with_reducible apply PA)) | exact Rdn.zero | apply Rdn.succ | ((with_reducible apply Norm.nil); exact rfl) | ((with_reducible apply Norm.cons); exact rfl) | (with_reducible apply end_ret) | exact rvs_nil | (with_reducible apply rvs_cons) | ((with_reducible apply rv_tmp); exact rfl) | ((with_reducible apply rv_cellAgg); exact rfl; exact rfl) | exact Nat.le_of_ble_eq_true rfl)
   all_goals (refine ⟨_, ⟨x', y', hx', hy', rfl, rfl⟩, ?_⟩)
   all_goals (unfold flH bkH; rcases x' with _ | ⟨gF, cF⟩ <;> rcases y' with _ | ⟨gB, cB⟩ <;> simp only [clH, clA, clC, List.nil_append, List.cons_append, List.append_nil])
   all_goals (repeat (first | exact HpSub.refl _ | (apply HpSub.consE; (repeat (first | exact P0 | apply P1 | apply PA)); exact rfl) | apply HpSub.skipX | exact HpSub.nil))
  ·rw [if_neg hE]
   obtain ⟨z, hz⟩ : ∃ z, doneE o d = z := ⟨_, rfl⟩
   have HD := fun bd A' cf' B' cb' w1 hD => do_no bd o A' cf' B' cb' w1 hD hO d hk hE
   rw [hz] at hE HD ⊢
   refine enterF (c := cx w 28) Try.func37 rfl rfl rfl rfl ?_
   refine t_cut (ι := Nat × Nat × Nat) (fun z => [(2, .pointer (some ⟨z.1, 0, none⟩)), (3, .pointer (some ⟨z.2.1, 0, none⟩)), (4, .pointer (some ⟨z.2.2, 0, none⟩))]) (fun z => (z.2.2, [.int .i64 0, .int .i64 0, .int .i64 0, .slice none 0 0, .slice none 0 0, .int .i64 0, .int .i64 0], some (25, 7, 1)) :: (z.2.1, dealCells d, some (63, 5, 1)) :: (z.1, offCells o A cf B cb, some (25, 7, 1)) :: []) (fun _ => True) ?_ ?_
   ·repeat' (first | (apply oq_fn; exact rfl; try first | exact trivial | (and_intros <;> omega)) | (with_reducible apply tl_nil) | ((with_reducible apply u_q); (iterate 4 exact rfl)) | ((with_reducible apply u_s); (iterate 3 exact rfl)) | ((with_reducible apply os_x); exact rfl) | ((with_reducible apply ox_alloc); exact rfl; intro _) | ((with_reducible apply ox_boxAgg); exact rfl; intro _) | (apply t_region; kernel_rfl))
    all_goals exact ⟨rfl, (_, _, _), trivial, by (repeat (first | exact FrSub.nil | (apply FrSub.cons; exact rfl))), by (repeat (first | exact HpSub.refl _ | (apply HpSub.consE; (repeat (first | exact P0 | apply P1 | apply PA)); exact rfl) | exact HpSub.nil))⟩
   rintro ⟨b2, b3, b4⟩ -
   refine t_cut (ι := Nat × Option (Nat × Nat) × Option (Nat × Nat)) (fun z => [(3, .pointer (some ⟨b3, 0, none⟩)), (4, .pointer (some ⟨b4, 0, none⟩)), (6, .pointer (some ⟨z.1, 0, none⟩)), (7, .bool true)]) (fun z => (z.1, offCells o (clA z.2.1) (clC z.2.1) (clA z.2.2) (clC z.2.2), some (135, 7, 1)) :: (b4, [.int .i64 0, .int .i64 0, .int .i64 0, .slice none 0 0, .slice none 0 0, .int .i64 0, .int .i64 0], some (25, 7, 1)) :: (b3, dealCells d, some (63, 5, 1)) :: (flH o z.2.1 ++ bkH o z.2.2)) (fun z => (z.2.1 = none → o.fl.length = 0) ∧ (z.2.2 = none → o.bk.length = 0)) ?_ ?_
   ·repeat' (first | (apply oq_fn; exact rfl; try first | exact trivial | (and_intros <;> omega)) | ((with_reducible apply oq_loadAgg); exact rfl; exact rfl) | (with_reducible apply tl_nil) | ((with_reducible apply u_s); (iterate 3 exact rfl); (with_reducible apply os_callF (PV := OpenY o) (k := 62) (hc := Try.call62)); exact rfl; exact rfl; exact fun D w1 hw1 => openY_T o A cf B cb w1 (hA.ext hw1.ext.ext) (hB.ext hw1.ext.ext) hnA hnB hu hn hn2 hv; rintro v H' ⟨bd, x, y, hxn, hyn, rfl, rfl⟩; (try simp only [deskH, List.cons_append, List.nil_append, List.append_assoc])) | ((with_reducible apply u_q); (iterate 4 exact rfl)) | (apply Rd.own; (repeat (first | exact P0 | apply P1 | apply PA)); exact rfl; done) | (apply t_region; kernel_rfl) | exact Rdn.zero | apply Rdn.succ)
    all_goals (refine ⟨by trivial, (bd, x, y), ⟨hxn, hyn⟩, by (repeat (first | exact FrSub.nil | (apply FrSub.cons; exact rfl))), ?_⟩)
    all_goals (rcases x with _ | ⟨g1, c1⟩ <;> rcases y with _ | ⟨g2, c2⟩ <;> simp only [flH, bkH, clH, clA, clC, List.cons_append, List.nil_append, List.append_nil])
    all_goals (repeat (first | exact HpSub.refl _ | (apply HpSub.consE; (repeat (first | exact P0 | apply P1 | apply PA)); exact rfl) | exact HpSub.nil))
   rintro ⟨bd, x, y⟩ ⟨hxn, hyn⟩
   simp only at hxn hyn ⊢
   repeat' (first | ((with_reducible apply oq_neqT); exact rfl; exact rfl; omega) | (apply oq_fn; exact rfl; try first | exact trivial | (and_intros <;> omega)) | ((with_reducible apply oq_loadAgg); exact rfl; exact rfl) | ((with_reducible apply oq_call (k := 79) (hc := Try.call79)); exact rfl; exact rfl; exact fun D w1 hw1 => HD bd _ _ _ _ w1 (desk_of (x := x) (y := y) hw1 (by (repeat (first | exact HpSub.refl _ | (apply HpSub.consE; (repeat (first | exact P0 | apply P1 | apply PA)); exact rfl) | apply HpSub.skipX | apply HpSub.skipX | exact HpSub.nil))) hxn hyn)) | ((with_reducible apply oq_build); (iterate 3 exact rfl)) | (with_reducible apply tl_nil) | ((with_reducible apply u_q); (iterate 4 exact rfl)) | ((with_reducible apply u_s0); exact rfl; exact rfl) | ((with_reducible apply os_storeAgg); (iterate 5 exact rfl)) | (apply Rd.own; (repeat (first | exact P0 | apply P1 | apply PA)); exact rfl; done) | (with_reducible apply t_seq) | (apply t_region; kernel_rfl) | ((with_reducible apply t_condT); exact rfl) | ((with_reducible apply t_condF); exact rfl) | (with_reducible apply t_ret) | (with_reducible apply t_skip) | with_reducible apply q_thenN | with_reducible apply q_thenR | exact P0 | (first | (with_reducible apply P1) | (with_reducible apply PA)) | exact Rdn.zero | apply Rdn.succ | ((with_reducible apply Norm.nil); exact rfl) | ((with_reducible apply Norm.cons); exact rfl) | (with_reducible apply end_ret) | exact rvs_nil | (with_reducible apply rvs_cons) | ((with_reducible apply rv_tmp); exact rfl) | ((with_reducible apply rv_cellAgg); exact rfl; exact rfl) | exact Nat.le_of_ble_eq_true rfl)
   all_goals exact ⟨_, ⟨none, none, (fun _ => rfl), (fun _ => rfl), rfl, rfl⟩, HpSub.nil⟩
end Go.Proofs.Ytmlmgipngbndgaa
namespace Go.Proofs.Ytmlmgipngbndgaa
/-- The office after the first k deals. -/
def stV (o : Off) (l : List Deal) (k : Nat) : Off := (l.take k).foldl doneO o
/-- The first k deals are done. -/
def okTo (o : Off) (l : List Deal) (k : Nat) : Prop := ∀ j d, j < k → l[j]? = some d → doneE (stV o l j) d = 0
theorem stV_succ {o : Off} {l : List Deal} {k : Nat} {d : Deal} (h : l[k]? = some d) : stV o l (k + 1) = doneO (stV o l k) d := by
 unfold stV
 rw [List.take_add_one, h, List.foldl_append]
 rfl
theorem okTo_zero (o : Off) (l : List Deal) : okTo o l 0 := fun j d h => by omega
theorem okTo_succ {o : Off} {l : List Deal} {k : Nat} {d : Deal} (h : okTo o l k) (hd : l[k]? = some d) (hE : doneE (stV o l k) d = 0) : okTo o l (k + 1) := fun j e hj he => by
 by_cases hjk : j = k
 ·subst hjk
  obtain rfl : d = e := by rw [hd] at he; exact Option.some.inj he
  exact hE
 ·exact h j e (by omega) he
theorem stV_ok {o : Off} (hv : OkO o) {l : List Deal} : ∀ {k : Nat}, k ≤ l.length → okTo o l k → OkO (stV o l k)
 | 0, _, _ => hv
 | k + 1, hk, h => by
  obtain ⟨d, hd⟩ : ∃ d, l[k]? = some d := ⟨_, List.getElem?_eq_getElem (by omega)⟩
  rw [stV_succ hd]
  exact done_okO (stV_ok hv (by omega) fun j e hj he => h j e (by omega) he) d (h k d (by omega) hd)
/-- What Play answers for a valid office. -/
def runV (o : Off) : List Deal → Off × Int × Int
 | [] => (o, 0, 0)
 | d :: l => if doneE o d = 0 then (if (runV (doneO o d) l).2.2 = 0 then runV (doneO o d) l else (zeroO, (runV (doneO o d) l).2.1 + 1, (runV (doneO o d) l).2.2)) else (zeroO, 0, doneE o d)
theorem run_all {o : Off} : ∀ {l : List Deal}, okTo o l l.length → runV o l = (stV o l l.length, 0, 0)
 | [], _ => rfl
 | d :: l, h => by
  have h0 : doneE o d = 0 := h 0 d (by simp) rfl
  have ih := run_all (o := doneO o d) (l := l) fun j e hj he => h (j + 1) e (by simpa using hj) he
  unfold runV
  rw [if_pos h0, ih]
  rfl
theorem run_bad : ∀ {l : List Deal} {o : Off} {k : Nat} {d : Deal}, okTo o l k → l[k]? = some d → ¬ doneE (stV o l k) d = 0 → runV o l = (zeroO, (k : Int), doneE (stV o l k) d)
 | [], o, k, d, _, hd, _ => by simp at hd
 | a :: l, o, 0, d, h, hd, hE => by
  obtain rfl : a = d := by simpa using hd
  unfold runV
  rw [if_neg (show ¬ doneE o a = 0 from hE)]
  rfl
 | a :: l, o, k + 1, d, h, hd, hE => by
  have h0 : doneE o a = 0 := h 0 a (by omega) rfl
  have ih := run_bad (l := l) (o := doneO o a) (k := k) (d := d) (fun j e hj he => h (j + 1) e (by omega) he) (by simpa using hd) hE
  unfold runV
  have hE' : ¬ doneE (stV (doneO o a) l k) d = 0 := hE
  rw [if_pos h0, ih]
  simp only [hE', if_false]
  rfl
def playV (o : Off) (l : List Deal) : Off × Int × Int := if officeB o = true then (if l.length ≤ 200 then runV o l else (zeroO, 0, 4)) else (zeroO, 0, 84)
def AnyP (r : Off × Int × Int) (v : Value) (H : Hp) : Prop := ∃ x y, (x = none → r.1.fl.length = 0) ∧ (y = none → r.1.bk.length = 0) ∧ v = .tuple #[.agg ⟨offCells r.1 (clA x) (clC x) (clA y) (clC y)⟩, .int .i64 r.2.1, .int .i64 r.2.2] ∧ H = flH r.1 x ++ bkH r.1 y
theorem deal_read {w : World} {A : Option Addr} {n : Nat} {l : List Deal} (h : RdS w 5 A n (l.map dealCells)) {i : Nat} (hi : i < n) :
  ∃ b o x, A = some ⟨b, o, none⟩ ∧ b < w.heap.size ∧ l[i]? = some x ∧ w.cell? ⟨b, o + i * 5, none⟩ = some (.int .u8 x.kind) ∧ w.cell? ⟨b, o + i * 5 + 1, none⟩ = some (.int .i64 x.n) ∧ w.cell? ⟨b, o + i * 5 + 2, none⟩ = some (.int .i64 x.seats) ∧ w.cell? ⟨b, o + i * 5 + 3, none⟩ = some (.int .i64 x.price) ∧ w.cell? ⟨b, o + i * 5 + 4, none⟩ = some (.int .i64 x.leaves) := by
 obtain ⟨b, o, cs, hA, hb, hx, _, hc⟩ := h.row hi
 simp only [List.getElem?_map, Option.map_eq_some_iff] at hx
 obtain ⟨x, hx, rfl⟩ := hx
 exact ⟨b, o, x, hA, hb, hx, hc 0 _ rfl, hc 1 _ rfl, hc 2 _ rfl, hc 3 _ rfl, hc 4 _ rfl⟩
end Go.Proofs.Ytmlmgipngbndgaa
namespace Go.Proofs.Ytmlmgipngbndgaa
open Go.RowKit
attribute [local irreducible] OQ OS OX Rd T TL GX GL AL AI RV wpG SAny Calls
theorem play_T (o : Off) (A : Option Addr) (cf : Nat) (B : Option Addr) (cb : Nat) (w : World) (hA : RdS w 4 A o.fl.length (o.fl.map depCells)) (hB : RdS w 3 B o.bk.length (o.bk.map bkCells)) (hnA : A = none → o.fl.length = 0 ∧ cf = 0) (hnB : B = none → o.bk.length = 0 ∧ cb = 0) (hu : ∀ d ∈ o.fl, 0 ≤ d.state) (hn : o.fl.length ≤ 1000000) (hn2 : o.bk.length ≤ 1000000) (l : List Deal) (L : Option Addr) (nl cl : Nat) (hL : RdS w 5 L nl (l.map dealCells)) (hln : nl ≤ 1000000) (hlk : ∀ d ∈ l, 0 ≤ d.kind ∧ d.kind ≤ 255) : Calls Try.prog 34 #[.agg ⟨offCells o A cf B cb⟩, .slice L nl cl] w fun e w' => ∃ v H', e = .returned v ∧ AnyP (playV o l) v H' ∧ Has w ⟨[], []⟩ H' w' := by
 have hll := hL.len
 simp only [List.length_map] at hll
 unfold playV
 cases hv : officeB o with
 | false =>
  simp only [Bool.false_eq_true, if_false]
  refine enterF (c := cx w 44) Try.func34 rfl rfl rfl rfl ?_
  repeat' (first | (apply oq_fn; exact rfl; try first | exact trivial | (and_intros <;> omega)) | ((with_reducible apply oq_loadAgg); exact rfl; exact rfl) | ((with_reducible apply oq_build); (iterate 3 exact rfl)) | (with_reducible apply tl_nil) | ((with_reducible apply u_s); (iterate 3 exact rfl); (with_reducible apply os_callF (PV := OpenN) (k := 62) (hc := Try.call62)); exact rfl; exact rfl; exact fun D w1 hw1 => openN_T o A cf B cb w1 (hA.ext hw1.ext.ext) (hB.ext hw1.ext.ext) hnA hnB hu hn hn2 hv; rintro v H' ⟨p, rfl, rfl⟩; (try simp only [List.cons_append, List.nil_append])) | ((with_reducible apply u_q); (iterate 4 exact rfl)) | ((with_reducible apply u_s0); exact rfl; exact rfl) | ((with_reducible apply u_s); (iterate 3 exact rfl)) | ((with_reducible apply os_x); exact rfl) | ((with_reducible apply os_storeAgg); (iterate 5 exact rfl)) | ((with_reducible apply ox_alloc); exact rfl; intro _) | ((with_reducible apply ox_boxAgg); exact rfl; intro _) | (apply Rd.own; (repeat (first | exact P0 | apply P1 | apply PA)); exact rfl; done) | (with_reducible apply t_seq) | (apply t_region; kernel_rfl) | ((with_reducible apply t_condT); exact rfl) | (with_reducible apply t_ret) | with_reducible apply q_thenN | with_reducible apply q_thenR | exact P0 | exact Rdn.zero | apply Rdn.succ | ((with_reducible apply Norm.nil); exact rfl) | ((with_reducible apply Norm.cons); exact rfl) | (with_reducible apply end_ret) | exact rvs_nil | (with_reducible apply rvs_cons) | ((with_reducible apply rv_tmp); exact rfl) | ((with_reducible apply rv_cellAgg); exact rfl; exact rfl) | exact Nat.le_of_ble_eq_true rfl)
  all_goals exact ⟨_, ⟨none, none, (fun _ => rfl), (fun _ => rfl), rfl, rfl⟩, HpSub.nil⟩
 | true =>
  have hO0 := okO hu hv
  simp only [if_true]
  by_cases h200 : l.length ≤ 200
  ·rw [if_pos h200]
   refine enterF (c := cx w 44) Try.func34 rfl rfl rfl rfl ?_
   refine t_cut (ι := Nat × Nat) (fun z => [(1, .slice L nl cl), (2, .pointer (some ⟨z.1, 0, none⟩)), (4, .pointer (some ⟨z.2, 0, none⟩))]) (fun z => (z.2, [.int .i64 0, .int .i64 0, .int .i64 0, .slice none 0 0, .slice none 0 0, .int .i64 0, .int .i64 0], some (25, 7, 1)) :: (z.1, offCells o A cf B cb, some (25, 7, 1)) :: []) (fun _ => True) ?_ ?_
   ·repeat' (first | (apply oq_fn; exact rfl; try first | exact trivial | (and_intros <;> omega)) | (with_reducible apply tl_nil) | ((with_reducible apply u_q); (iterate 4 exact rfl)) | ((with_reducible apply u_s); (iterate 3 exact rfl)) | ((with_reducible apply os_x); exact rfl) | ((with_reducible apply ox_alloc); exact rfl; intro _) | ((with_reducible apply ox_boxAgg); exact rfl; intro _) | (apply t_region; kernel_rfl))
    all_goals exact ⟨rfl, (_, _), trivial, by (repeat (first | exact FrSub.nil | (apply FrSub.cons; exact rfl))), by (repeat (first | exact HpSub.refl _ | (apply HpSub.consE; (repeat (first | exact P0 | apply P1 | apply PA)); exact rfl) | exact HpSub.nil))⟩
   rintro ⟨b2, b4⟩ -
   refine t_cut (ι := Nat × Option (Nat × Nat) × Option (Nat × Nat)) (fun z => [(1, .slice L nl cl), (4, .pointer (some ⟨b4, 0, none⟩)), (7, .pointer (some ⟨z.1, 0, none⟩)), (8, .bool true)]) (fun z => (b4, [.int .i64 0, .int .i64 0, .int .i64 0, .slice none 0 0, .slice none 0 0, .int .i64 0, .int .i64 0], some (25, 7, 1)) :: deskH z.1 o z.2.1 z.2.2) (fun z => (z.2.1 = none → o.fl.length = 0) ∧ (z.2.2 = none → o.bk.length = 0)) ?_ ?_
   ·repeat' (first | (apply oq_fn; exact rfl; try first | exact trivial | (and_intros <;> omega)) | ((with_reducible apply oq_loadAgg); exact rfl; exact rfl) | (with_reducible apply tl_nil) | ((with_reducible apply u_s); (iterate 3 exact rfl); (with_reducible apply os_callF (PV := OpenY o) (k := 62) (hc := Try.call62)); exact rfl; exact rfl; exact fun D w1 hw1 => openY_T o A cf B cb w1 (hA.ext hw1.ext.ext) (hB.ext hw1.ext.ext) hnA hnB hu hn hn2 hv; rintro v H' ⟨bd, x, y, hxn, hyn, rfl, rfl⟩; (try simp only [deskH, List.cons_append, List.nil_append, List.append_assoc])) | ((with_reducible apply u_q); (iterate 4 exact rfl)) | (apply Rd.own; (repeat (first | exact P0 | apply P1 | apply PA)); exact rfl; done) | (apply t_region; kernel_rfl) | exact Rdn.zero | apply Rdn.succ)
    all_goals (refine ⟨by trivial, (bd, x, y), ⟨hxn, hyn⟩, by (repeat (first | exact FrSub.nil | (apply FrSub.cons; exact rfl))), ?_⟩)
    all_goals ((try unfold deskH); rcases x with _ | ⟨g1, c1⟩ <;> rcases y with _ | ⟨g2, c2⟩ <;> simp only [flH, bkH, clH, clA, clC, List.cons_append, List.nil_append, List.append_nil])
    all_goals (repeat (first | exact HpSub.refl _ | (apply HpSub.consE; (repeat (first | exact P0 | apply P1 | apply PA)); exact rfl) | exact HpSub.nil))
   rintro ⟨bd, x0, y0⟩ ⟨hx0, hy0⟩
   simp only at hx0 hy0 ⊢
   repeat' (first | ((with_reducible apply oq_gtrF); exact rfl; exact rfl; omega) | (apply oq_fn; exact rfl; try first | exact trivial | (and_intros <;> omega)) | (with_reducible apply tl_nil) | ((with_reducible apply u_q); (iterate 4 exact rfl)) | (with_reducible apply t_seq) | (apply t_region; kernel_rfl) | ((with_reducible apply t_condF); exact rfl) | (with_reducible apply t_skip) | (with_reducible apply t_block) | with_reducible apply q_thenN)
   apply t_loopK (GH := []) (ι := Nat × Option (Nat × Nat) × Option (Nat × Nat)) [4, 7, 24, 25, 40, 41, 42, 43] (fun z => [(26, .int .i64 (z.1 : Nat))]) (fun z => (b4, [.int .i64 0, .int .i64 0, .int .i64 0, .slice none 0 0, .slice none 0 0, .int .i64 0, .int .i64 0], some (25, 7, 1)) :: deskH bd (stV o l z.1) z.2.1 z.2.2) (fun z => z.1 ≤ nl ∧ okTo o l z.1 ∧ (z.2.1 = none → (stV o l z.1).fl.length = 0) ∧ (z.2.2 = none → (stV o l z.1).bk.length = 0)) (fun z => nl - z.1) ((0, x0, y0))
   (repeat (first | exact KeepF.nil | (apply KeepF.cons; exact rfl) | apply KeepF.skip))
   (repeat (first | exact FrSub.nil | (apply FrSub.cons; exact rfl)))
   (rw [List.append_nil]; exact HpSub.refl _)
   ·exact ⟨Nat.zero_le _, okTo_zero _ _, hx0, hy0⟩
   rintro ⟨k, x, y⟩ ⟨hkl, hok, hx, hy⟩
   simp only at hkl hok hx hy
   try simp only [List.cons_append, List.nil_append]
   rw [List.append_nil]
   have hO := stV_ok hO0 (by omega) hok
   by_cases hlt : k < nl
   ·obtain ⟨b1, o1, d, rfl, _, hd, c0, c1, c2, c3, c4⟩ := deal_read hL hlt
    have hdk := hlk d (List.mem_of_getElem? hd)
    by_cases hE : doneE (stV o l k) d = 0
    ·repeat' (first | (focus ((with_reducible apply oq_indexAddrN); (iterate 4 exact rfl); omega)) | ((with_reducible apply oq_lssT); exact rfl; exact rfl; omega) | ((with_reducible apply oq_neqF); exact rfl; exact rfl; omega) | (apply oq_fn; exact rfl; try first | exact trivial | (and_intros <;> omega)) | ((with_reducible apply oq_loadAgg); exact rfl; exact rfl) | (with_reducible apply tl_nil) | ((with_reducible apply u_s); (iterate 3 exact rfl); (with_reducible apply os_callM (PV := fun v H => v = .int .i64 0 ∧ AtW bd (doneO (stV o l k) d) H) (G := deskH bd (stV o l k) x y) (R := [(b4, [.int .i64 0, .int .i64 0, .int .i64 0, .slice none 0 0, .slice none 0 0, .int .i64 0, .int .i64 0], some (25, 7, 1))]) (k := 79) (hc := Try.call79)); exact rfl; exact rfl; (focus ((try unfold deskH); (try unfold flH bkH); rcases x with _ | ⟨gF, cF⟩ <;> rcases y with _ | ⟨gB, cB⟩ <;> simp only [clH, clA, clC, List.nil_append, List.cons_append, List.append_nil] <;> ((repeat (first | exact HpSub.refl _ | (apply HpSub.consE; (repeat (first | exact P0 | apply P1 | apply PA)); exact rfl) | apply HpSub.skipX | apply HpSub.skipX | exact HpSub.nil))))); exact (fun D w1 hw1 hwG => do_ok bd (stV o l k) x y hx hy hO w1 hwG d hE); rintro v H1 ⟨rfl, x', y', hx', hy', rfl⟩) | ((with_reducible apply u_q); (iterate 4 exact rfl)) | ((with_reducible apply u_s0); exact rfl; exact rfl) | ((with_reducible apply u_s); (iterate 3 exact rfl)) | ((with_reducible apply os_x); exact rfl) | ((with_reducible apply os_storeAgg); (iterate 5 exact rfl)) | ((with_reducible apply ox_alloc); exact rfl; intro _) | (apply Rd.own; (repeat (first | exact P0 | apply P1 | apply PA)); exact rfl; done) | (apply Rd.old; (first | (with_reducible assumption) | exact c0 | exact c1 | exact c2 | exact c3 | exact c4 | exact c5 | exact c6 | exact c7 | exact c8 | exact d0 | exact d1 | exact d2 | exact d3 | exact d4 | exact d5); first | exact List.not_mem_nil | exact m0 | exact m1 | exact m2 | exact m3 | exact m4 | exact m5 | exact m6 | exact m7 | exact m8 | exact m9) | (with_reducible apply t_seq) | (apply t_region; kernel_rfl) | ((with_reducible apply t_condT); exact rfl) | ((with_reducible apply t_condF); exact rfl) | (with_reducible apply t_skip) | (with_reducible apply t_block) | with_reducible apply q_thenN | with_reducible apply q_blockN | exact P0 | exact Rdn.zero | apply Rdn.succ | ((with_reducible apply Norm.nil); exact rfl) | ((with_reducible apply Norm.cons); exact rfl) | exact Nat.le_of_ble_eq_true rfl)
     refine ⟨(k + 1, x', y'), ⟨(by simp only; omega), okTo_succ hok hd hE, (by simp only; rw [stV_succ hd]; exact hx'), (by simp only; rw [stV_succ hd]; exact hy')⟩, (by simp only; omega), ?_, ?_⟩
     ·try simp only [List.cons_append, List.nil_append]
      (repeat (first | exact FrSub.nil | (apply FrSub.cons; exact rfl)))
     ·simp only [stV_succ hd]
      (try unfold deskH); (try unfold flH bkH); rcases x' with _ | ⟨gF, cF⟩ <;> rcases y' with _ | ⟨gB, cB⟩ <;> simp only [clH, clA, clC, List.nil_append, List.cons_append, List.append_nil] <;> ((repeat (first | exact HpSub.refl _ | (apply HpSub.consE; (repeat (first | exact P0 | apply P1 | apply PA)); exact rfl) | apply HpSub.skipX | exact HpSub.nil)))
    ·have HD := fun A' cf' B' cb' w1 hD => do_no bd (stV o l k) A' cf' B' cb' w1 hD hO d hdk hE
     obtain ⟨z, hz⟩ : ∃ z, doneE (stV o l k) d = z := ⟨_, rfl⟩
     have hrun := run_bad hok hd hE
     rw [hz] at HD hE hrun
     rw [hrun]
     repeat' (first | (focus ((with_reducible apply oq_indexAddrN); (iterate 4 exact rfl); omega)) | ((with_reducible apply oq_lssT); exact rfl; exact rfl; omega) | ((with_reducible apply oq_neqT); exact rfl; exact rfl; omega) | (apply oq_fn; exact rfl; try first | exact trivial | (and_intros <;> omega)) | ((with_reducible apply oq_loadAgg); exact rfl; exact rfl) | ((with_reducible apply oq_call (k := 79) (hc := Try.call79)); exact rfl; exact rfl; exact fun D w1 hw1 => HD _ _ _ _ w1 (desk_of (o := stV o l k) (x := x) (y := y) hw1 (by (try unfold deskH); (try unfold flH bkH); rcases x with _ | ⟨gF, cF⟩ <;> rcases y with _ | ⟨gB, cB⟩ <;> simp only [clH, clA, clC, List.nil_append, List.cons_append, List.append_nil] <;> ((repeat (first | exact HpSub.refl _ | (apply HpSub.consE; (repeat (first | exact P0 | apply P1 | apply PA)); exact rfl) | apply HpSub.skipX | apply HpSub.skipX | exact HpSub.nil)))) hx hy)) | ((with_reducible apply oq_build); (iterate 3 exact rfl)) | (with_reducible apply tl_nil) | ((with_reducible apply u_q); (iterate 4 exact rfl)) | ((with_reducible apply u_s0); exact rfl; exact rfl) | ((with_reducible apply u_s); (iterate 3 exact rfl)) | ((with_reducible apply os_x); exact rfl) | ((with_reducible apply os_storeAgg); (iterate 5 exact rfl)) | ((with_reducible apply ox_alloc); exact rfl; intro _) | (apply Rd.own; (repeat (first | exact P0 | apply P1 | apply PA)); exact rfl; done) | (apply Rd.old; (first | (with_reducible assumption) | exact c0 | exact c1 | exact c2 | exact c3 | exact c4 | exact c5 | exact c6 | exact c7 | exact c8 | exact d0 | exact d1 | exact d2 | exact d3 | exact d4 | exact d5); first | exact List.not_mem_nil | exact m0 | exact m1 | exact m2 | exact m3 | exact m4 | exact m5 | exact m6 | exact m7 | exact m8 | exact m9) | (with_reducible apply t_seq) | (apply t_region; kernel_rfl) | ((with_reducible apply t_condT); exact rfl) | (with_reducible apply t_ret) | (with_reducible apply t_skip) | (with_reducible apply t_block) | with_reducible apply q_thenN | with_reducible apply q_thenR | with_reducible apply q_blockR | exact P0 | (first | (with_reducible apply P1) | (with_reducible apply PA)) | exact Rdn.zero | apply Rdn.succ | ((with_reducible apply Norm.nil); exact rfl) | ((with_reducible apply Norm.cons); exact rfl) | (with_reducible apply end_ret) | exact rvs_nil | (with_reducible apply rvs_cons) | ((with_reducible apply rv_tmp); exact rfl) | ((with_reducible apply rv_cellAgg); exact rfl; exact rfl) | exact Nat.le_of_ble_eq_true rfl)
     all_goals exact ⟨_, ⟨none, none, (fun _ => rfl), (fun _ => rfl), rfl, rfl⟩, HpSub.nil⟩
   ·have hkn : k = l.length := by omega
    subst hkn
    rw [run_all hok]
    unfold deskH; simp only [List.cons_append, List.append_nil]
    repeat' (first | ((with_reducible apply oq_lssF); exact rfl; exact rfl; omega) | (apply oq_fn; exact rfl; try first | exact trivial | (and_intros <;> omega)) | ((with_reducible apply oq_loadAgg); exact rfl; exact rfl) | (with_reducible apply tl_nil) | ((with_reducible apply u_q); (iterate 4 exact rfl)) | ((with_reducible apply u_s0); exact rfl; exact rfl) | ((with_reducible apply os_storeAgg); (iterate 5 exact rfl)) | (apply Rd.own; (repeat (first | exact P0 | apply P1 | apply PA)); exact rfl; done) | (with_reducible apply t_seq) | (apply t_region; kernel_rfl) | ((with_reducible apply t_condF); exact rfl) | (with_reducible apply t_ret) | (with_reducible apply t_exit) | with_reducible apply q_thenN | with_reducible apply q_thenE | ((with_reducible apply q_blockE); exact rfl) | exact P0 | exact Rdn.zero | apply Rdn.succ | ((with_reducible apply Norm.nil); exact rfl) | ((with_reducible apply Norm.cons); exact rfl) | (with_reducible apply end_ret) | exact rvs_nil | (with_reducible apply rvs_cons) | ((with_reducible apply rv_tmp); exact rfl) | ((with_reducible apply rv_cellAgg); exact rfl; exact rfl) | exact Nat.le_of_ble_eq_true rfl)
    all_goals (refine ⟨_, ⟨x, y, hx, hy, rfl, rfl⟩, ?_⟩)
    all_goals ((try unfold deskH); (try unfold flH bkH); rcases x with _ | ⟨gF, cF⟩ <;> rcases y with _ | ⟨gB, cB⟩ <;> simp only [clH, clA, clC, List.nil_append, List.cons_append, List.append_nil] <;> ((repeat (first | exact HpSub.refl _ | (apply HpSub.consE; (repeat (first | exact P0 | apply P1 | apply PA)); exact rfl) | apply HpSub.skipX | exact HpSub.nil))))
  ·rw [if_neg h200]
   refine enterF (c := cx w 44) Try.func34 rfl rfl rfl rfl ?_
   refine t_cut (ι := Nat × Nat) (fun z => [(1, .slice L nl cl), (2, .pointer (some ⟨z.1, 0, none⟩)), (4, .pointer (some ⟨z.2, 0, none⟩))]) (fun z => (z.2, [.int .i64 0, .int .i64 0, .int .i64 0, .slice none 0 0, .slice none 0 0, .int .i64 0, .int .i64 0], some (25, 7, 1)) :: (z.1, offCells o A cf B cb, some (25, 7, 1)) :: []) (fun _ => True) ?_ ?_
   ·repeat' (first | (apply oq_fn; exact rfl; try first | exact trivial | (and_intros <;> omega)) | (with_reducible apply tl_nil) | ((with_reducible apply u_q); (iterate 4 exact rfl)) | ((with_reducible apply u_s); (iterate 3 exact rfl)) | ((with_reducible apply os_x); exact rfl) | ((with_reducible apply ox_alloc); exact rfl; intro _) | ((with_reducible apply ox_boxAgg); exact rfl; intro _) | (apply t_region; kernel_rfl))
    all_goals exact ⟨rfl, (_, _), trivial, by (repeat (first | exact FrSub.nil | (apply FrSub.cons; exact rfl))), by (repeat (first | exact HpSub.refl _ | (apply HpSub.consE; (repeat (first | exact P0 | apply P1 | apply PA)); exact rfl) | exact HpSub.nil))⟩
   rintro ⟨b2, b4⟩ -
   refine t_cut (ι := Nat × Option (Nat × Nat) × Option (Nat × Nat)) (fun z => [(1, .slice L nl cl), (4, .pointer (some ⟨b4, 0, none⟩)), (7, .pointer (some ⟨z.1, 0, none⟩)), (8, .bool true)]) (fun z => (b4, [.int .i64 0, .int .i64 0, .int .i64 0, .slice none 0 0, .slice none 0 0, .int .i64 0, .int .i64 0], some (25, 7, 1)) :: deskH z.1 o z.2.1 z.2.2) (fun z => (z.2.1 = none → o.fl.length = 0) ∧ (z.2.2 = none → o.bk.length = 0)) ?_ ?_
   ·repeat' (first | (apply oq_fn; exact rfl; try first | exact trivial | (and_intros <;> omega)) | ((with_reducible apply oq_loadAgg); exact rfl; exact rfl) | (with_reducible apply tl_nil) | ((with_reducible apply u_s); (iterate 3 exact rfl); (with_reducible apply os_callF (PV := OpenY o) (k := 62) (hc := Try.call62)); exact rfl; exact rfl; exact fun D w1 hw1 => openY_T o A cf B cb w1 (hA.ext hw1.ext.ext) (hB.ext hw1.ext.ext) hnA hnB hu hn hn2 hv; rintro v H' ⟨bd, x, y, hxn, hyn, rfl, rfl⟩; (try simp only [deskH, List.cons_append, List.nil_append, List.append_assoc])) | ((with_reducible apply u_q); (iterate 4 exact rfl)) | (apply Rd.own; (repeat (first | exact P0 | apply P1 | apply PA)); exact rfl; done) | (apply t_region; kernel_rfl) | exact Rdn.zero | apply Rdn.succ)
    all_goals (refine ⟨by trivial, (bd, x, y), ⟨hxn, hyn⟩, by (repeat (first | exact FrSub.nil | (apply FrSub.cons; exact rfl))), ?_⟩)
    all_goals ((try unfold deskH); rcases x with _ | ⟨g1, c1⟩ <;> rcases y with _ | ⟨g2, c2⟩ <;> simp only [flH, bkH, clH, clA, clC, List.cons_append, List.nil_append, List.append_nil])
    all_goals (repeat (first | exact HpSub.refl _ | (apply HpSub.consE; (repeat (first | exact P0 | apply P1 | apply PA)); exact rfl) | exact HpSub.nil))
   rintro ⟨bd, x0, y0⟩ ⟨hx0, hy0⟩
   simp only at hx0 hy0 ⊢
   repeat' (first | ((with_reducible apply oq_gtrT); exact rfl; exact rfl; omega) | (apply oq_fn; exact rfl; try first | exact trivial | (and_intros <;> omega)) | ((with_reducible apply oq_build); (iterate 3 exact rfl)) | (with_reducible apply tl_nil) | ((with_reducible apply u_q); (iterate 4 exact rfl)) | ((with_reducible apply u_s0); exact rfl; exact rfl) | ((with_reducible apply os_storeAgg); (iterate 5 exact rfl)) | (apply Rd.own; (repeat (first | exact P0 | apply P1 | apply PA)); exact rfl; done) | (with_reducible apply t_seq) | (apply t_region; kernel_rfl) | ((with_reducible apply t_condT); exact rfl) | ((with_reducible apply t_condF); exact rfl) | (with_reducible apply t_ret) | (with_reducible apply t_skip) | with_reducible apply q_thenN | with_reducible apply q_thenR | exact P0 | exact Rdn.zero | apply Rdn.succ | ((with_reducible apply Norm.nil); exact rfl) | ((with_reducible apply Norm.cons); exact rfl) | (with_reducible apply end_ret) | exact rvs_nil | (with_reducible apply rvs_cons) | ((with_reducible apply rv_tmp); exact rfl) | ((with_reducible apply rv_cellAgg); exact rfl; exact rfl) | exact Nat.le_of_ble_eq_true rfl)
   all_goals exact ⟨_, ⟨none, none, (fun _ => rfl), (fun _ => rfl), rfl, rfl⟩, HpSub.nil⟩
end Go.Proofs.Ytmlmgipngbndgaa
namespace Go.Proofs.Ytmlmgipngbndgaa
open Go.RowKit
theorem HpSub.skipApp {G R X : Hp} (h : HpSub R X) : HpSub (G ++ R) X := by
 induction G with
 | nil => exact h
 | cons x G ih => exact HpSub.skipX ih
theorem HpSub.appC {A H G : Hp} (h : HpSub H G) : HpSub (A ++ H) (A ++ G) := by
 induction A with
 | nil => exact h
 | cons x A ih => obtain ⟨b, C, g⟩ := x; exact HpSub.cons P0 ih
section
variable {c : Cx} {F : Fr} {H : Hp} {d : Option Tmp} {ty t : TypeId} {pos : String} {af : Array Edge} {g : Option (Nat × Bool)} {x y : Operand} {a0 a1 : Bool} {s0 s1 : Nat} {z0 z1 : List Value} {k1 : TyK}
theorem oq_sliceHG {e len cap h : Nat} {L : Option Addr} (hn : L = none → len = 0 ∧ cap = 0) (ht : tyAt c.tys t = some ⟨a0, s0, z0, .slice e⟩) (he : tyAt c.tys e = some ⟨a1, s1, z1, k1⟩)
  (hx : ev F x = some (.slice L len cap)) (hy : ev F y = some (.int .i64 (h : Nat))) (h1 : h ≤ cap) :
  OQ c ⟨d, .slice t x none (some y) none, ty, pos, af, g⟩ F H (.slice L h cap) := .of fun D a w ha _ => by
 have hk := (c.ty ht).kind w
 have hs := (c.ty he).size w
 simp only [execOp, Option.map, ha.ev hx, ha.ev hy]
 rcases L with _ | ⟨b, o, q⟩
 ·obtain ⟨rfl, rfl⟩ := hn rfl
  obtain rfl : h = 0 := by omega
  simp [Instr.sliceAt, Instr.slice, Instr.sliceBounds, Instr.sliceBound, asIntOf, Sem.run_bind, hk, hs, Result.andThen, go_sem, add_eq]
 ·by_cases h2 : cap = 0
  ·subst h2
   simp [Instr.sliceAt, Instr.slice, Instr.sliceBounds, Instr.sliceBound, asIntOf, Sem.run_bind, hk, hs, h1, Result.andThen, go_sem, add_eq]
  ·simp [Instr.sliceAt, Instr.slice, Instr.sliceBounds, Instr.sliceBound, asIntOf, Sem.run_bind, hk, hs, h1, h2, Result.andThen, go_sem, add_eq]
end
end Go.Proofs.Ytmlmgipngbndgaa
