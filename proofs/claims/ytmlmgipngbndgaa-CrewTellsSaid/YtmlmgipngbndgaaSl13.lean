/- Calls that write a block of the caller's; structs compared. -/
import Derived.Test.YtmlmgipngbndgaaSl12
import Derived.Test.YtmlmgipngbndgaaTys
import Derived.Laws.StructEq
namespace Go.Proofs.Ytmlmgipngbndgaa
set_option linter.unusedVariables false
set_option linter.unusedSimpArgs false
open Go.RowKit
section
variable {c : Cx} {F : Fr} {H H' : Hp} {K : Value → Hp → Prop} {d : Option Tmp} {ty : TypeId} {pos : String} {af : Array Edge} {g : Option (Nat × Bool)} {C C' : List Value} {b : Nat} {tg : Tg} {v : Value}
/-- A call that writes block b, and else only adds to the world. -/
theorem os_callW {f : Operand} {args : Array Operand} {T : Array TypeId} {k : Nat} {fst cap vs : List Value} (hf : ev F f = some (.func (.func k) ⟨fst⟩ ⟨cap⟩)) (hc : ∀ (a : Array Value) (w : World), (callFunc k a).run c.P w = .ok (.enter k a) w)
    (ha : evs F args.toList = some vs) (hp : Pick H b C tg H') (h : ∀ D w, Has c.w0 ⟨c.M, D⟩ H w → Calls c.P k ⟨fst ++ vs ++ cap⟩ w fun e w' => e = .returned v ∧ ExtM [b] w w' ∧ Blk w' b C' tg)
    (hk : K v ((b, C', tg) :: H')) : OS c ⟨d, .call ⟨.value f, args, T⟩, ty, pos, af, g⟩ F H K :=
  os_call hf hc ha fun D w hw => (h D w hw).mono fun e w' ⟨h1, h2, h3⟩ => ⟨v, _, h1, hk, (hw.perm hp.perm).wrote h2 h3⟩
/-- A function that writes block b, and else only adds to the world. -/
theorem enterW {k : FuncId} {fn : Func} {code : Code} {rs : List ResultVar} {args : List Value} {V : Value} (hf : c.P.funcs[k]? = some fn) (hb : fn.body = some code) (hrs : fn.results = ⟨rs⟩) (hN : c.N = args.length + (fn.ntmps - args.length)) (hM : c.M = [b]) (hB : Blk c.w0 b C tg)
    (h : T c (WS.own c.P) code (endQ c rs fun v H => v = V ∧ HpSub H [(b, C', tg)]) (frOf 0 args) [(b, C, tg)]) : Calls c.P k ⟨args⟩ c.w0 fun e w' => e = .returned V ∧ ExtM [b] c.w0 w' ∧ Blk w' b C' tg := by
  refine (enter hf hb hrs hN (fun d v hv => (look_frOf args 0 d v hv).2) ?_ h).mono fun e w' ⟨v, H', h1, ⟨h2, h3⟩, h4⟩ => ⟨by rw [h1, h2], ?_, ?_⟩
  · rw [hM]
    refine ⟨ExtM.refl _ _, fun x hx => ?_, by simp, List.nodup_nil, fun k hk => (List.not_mem_nil hk).elim⟩
    obtain rfl : x = _ := by simpa using hx
    exact ⟨.inr (by simp), hB⟩
  · have := h4.ext; rw [hM] at this; exact this
  · exact ((h4.sub h3).blk _ (List.mem_cons_self ..)).2
end
theorem eqF_cons {P : Program} {w : World} {d : Nat} {xs ys : Array Value} {f : Field} {fs : List Field} {u v : Value} {q : Bool} (hn : (f.name == "_") = false) (hx : (part f.type xs f.offset).run P w = .ok u w) (hy : (part f.type ys f.offset).run P w = .ok v w)
    (he : (Op.equalIn d f.type u v).run P w = .ok q w) : (Op.eqFields d xs ys (f :: fs)).run P w = if q then (Op.eqFields d xs ys fs).run P w else .ok false w := by
  have hn' : f.name ≠ "_" := by simpa using hn
  simp only [Op.eqFields, hn', ne_eq, not_false_eq_true, if_true, Sem.run_bind, hx, hy, he, Result.andThen_ok]
  cases q <;> simp [Sem.run_pure]
theorem part_cell {P : Program} {w : World} {t o : Nat} {xs : List Value} {v : Value} (ha : (isAgg t).run P w = .ok false w) (hv : xs[o]? = some v) : (part t ⟨xs⟩ o).run P w = .ok v w := by
  simp [part, Sem.run_bind, ha, Result.andThen, go_sem, hv]
theorem part_agg {P : Program} {w : World} {t o n : Nat} {xs vs : List Value} (ha : (isAgg t).run P w = .ok true w) (hs : (sizeOf t).run P w = .ok n w) (hv : (xs.drop o).take n = vs) : (part t ⟨xs⟩ o).run P w = .ok (.agg ⟨vs⟩) w := by
  subst hv
  simp [part, Sem.run_bind, ha, hs, Result.andThen, go_sem]
theorem eq_int3 {w : World} {d : Nat} {a b : Int} : (Op.equalIn (d + 1) 3 (.int .i64 a) (.int .i64 b)).run Try.prog w = .ok (decide (a = b)) w := by
  rw [run_equalIn_int w d 3 .i64 .i64 a b Try.underlying3]
  rfl
theorem eqF_int {w : World} {d o : Nat} {xs ys : List Value} {f : Field} {fs : List Field} {a b : Int} {q : Bool} (hn : (f.name == "_") = false) (ht : f.type = 3) (ho : f.offset = o) (hx : xs[o]? = some (.int .i64 a)) (hy : ys[o]? = some (.int .i64 b))
    (hr : (Op.eqFields (d + 1) ⟨xs⟩ ⟨ys⟩ fs).run Try.prog w = .ok q w) : (Op.eqFields (d + 1) ⟨xs⟩ ⟨ys⟩ (f :: fs)).run Try.prog w = .ok (decide (a = b) && q) w := by
  rw [eqF_cons hn (by rw [ht, ho]; exact part_cell (Try.isAgg3 w) hx) (by rw [ht, ho]; exact part_cell (Try.isAgg3 w) hy) (by rw [ht]; exact eq_int3), hr]
  by_cases h : a = b <;> simp [h]
theorem eqF_nil {w : World} {d : Nat} {xs ys : Array Value} : (Op.eqFields d xs ys []).run Try.prog w = .ok true w := by simp [Op.eqFields, Sem.run_pure]
section
variable {w : World} {N : Nat} {F : Fr} {H : Hp} {M : List Nat} {d : Option Tmp} {ty t' : TypeId} {pos : String} {af : Array Edge} {g : Option (Nat × Bool)} {x y : Operand} {a0 a1 a2 a3 a4 b0 b1 b2 b3 b4 : Int}
theorem oq_eqS {t : TypeId} {xs ys : Array Value} {q : Bool} (hm : Try.prog.eqGuardType Try.prog.depth t = false) (he : ∀ w, (Op.equalIn 10000 t (.agg xs) (.agg ys)).run Try.prog w = .ok q w) (hx : ev F x = some (.agg xs)) (hy : ev F y = some (.agg ys)) :
    OQ (cxM M w N) ⟨d, .binOp .eql t x y t', ty, pos, af, g⟩ F H (.bool q) := .of fun D a w ha _ => by
  simp only [execOp, ha.ev hx, ha.ev hy, Sem.run_bind, run_eqGuard_agg _ _ _ _ _ _ _ hm, Result.andThen]
  rw [run_eql_struct, he]
  rfl
theorem oq_neS {t : TypeId} {xs ys : Array Value} {q : Bool} (hm : Try.prog.eqGuardType Try.prog.depth t = false) (he : ∀ w, (Op.equalIn 10000 t (.agg xs) (.agg ys)).run Try.prog w = .ok q w) (hx : ev F x = some (.agg xs)) (hy : ev F y = some (.agg ys)) :
    OQ (cxM M w N) ⟨d, .binOp .neq t x y t', ty, pos, af, g⟩ F H (.bool (!q)) := .of fun D a w ha _ => by
  simp only [execOp, ha.ev hx, ha.ev hy, Sem.run_bind, run_eqGuard_agg _ _ _ _ _ _ _ hm, Result.andThen]
  rw [run_neq_struct, he]
  rfl
end
/-- A slice that is not nil. -/
theorem oq_eqNil {c : Cx} {F : Fr} {H : Hp} {d : Option Tmp} {ty t t' : TypeId} {pos : String} {af : Array Edge} {g : Option (Nat × Bool)} {x y : Operand} {p : Addr} {n cp e s0 : Nat} {a0 : Bool} {z0 : List Value} (ht : tyAt c.tys t = some ⟨a0, s0, z0, .slice e⟩)
    (hx : ev F x = some (.slice (some p) n cp)) (hy : ev F y = some (.slice none 0 0)) : OQ c ⟨d, .binOp .eql t x y t', ty, pos, af, g⟩ F H (.bool false) := .of fun D a w ha _ => by
  have hk := (c.ty ht).kind w
  have e0 : (Op.equalIn 10000 t (.slice (some p) n cp) (.slice none 0 0)).run c.P w = .ok false w := by
    have key : ∀ d : Nat, (Op.equalIn (d + 1) t (.slice (some p) n cp) (.slice none 0 0)).run c.P w = .ok false w := fun d => by
      simp only [Op.equalIn, Sem.run_bind, hk, Result.andThen, Sem.run_pure]
    exact key 9999
  have e : (binOp .eql t (.slice (some p) n cp) (.slice none 0 0)).run c.P w = .ok (.bool false) w := by
    simp only [binOp, Op.equal, Op.maxDepth, Sem.run_bind, e0, Result.andThen, Sem.run_pure]
  have e1 : (eqGuard .eql t x y (.slice (some p) n cp) (.slice none 0 0)).run c.P w = .ok () w := by simp [eqGuard, go_sem]
  simp only [execOp, ha.ev hx, ha.ev hy, Sem.run_bind, e, e1, Result.andThen, Sem.run_pure]
end Go.Proofs.Ytmlmgipngbndgaa
