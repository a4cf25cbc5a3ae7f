/- A part of the proof: rules for walks, and contracts of functions (2). -/
import Derived.Test.YtmlmgipngbndgaaX18A
import Derived.Test.YtmlmgipngbndgaaChecked
import Derived.Laws.StructEq
import Derived.Laws.MakeOwn
set_option linter.unusedVariables false
set_option linter.unusedSimpArgs false
set_option maxRecDepth 100000
set_option maxHeartbeats 2000000
namespace Go.Proofs.Ytmlmgipngbndgaa
open Go.RowKit
section
variable {c : Cx} {F : Fr} {H : Hp} {d : Option Tmp} {ty t : TypeId} {pos : String} {af : Array Edge} {g : Option (Nat × Bool)} {x y : Operand}
theorem oq_sliceL {a0 a1 : Bool} {s0 s1 e b o len cap l : Nat} {z0 z1 : List Value} {k1 : TyK} {k : IntKind} {li : Int} (ht : tyAt c.tys t = some ⟨a0, s0, z0, .slice e⟩) (he : tyAt c.tys e = some ⟨a1, s1, z1, k1⟩)
  (hx : ev F x = some (.slice (some ⟨b, o, none⟩) len cap)) (hy : ev F y = some (.int k li)) (hl : li = l) (h1 : l ≤ len) (h2 : cap ≠ l) :
  OQ c ⟨d, .slice t x (some y) none none, ty, pos, af, g⟩ F H (.slice (some ⟨b, o + l * s1, none⟩) (len - l) (cap - l)) := .of fun D a w ha _ => by
 subst hl
 have hk := (c.ty ht).kind w
 have hs := (c.ty he).size w
 simp only [execOp, Option.map, ha.ev hx, ha.ev hy]
 simp [Instr.sliceAt, Instr.slice, Instr.sliceBounds, Instr.sliceBound, asIntOf, Sem.run_bind, hk, hs, h1, h2, Result.andThen, go_sem, add_eq]
end
section
variable {c : Cx} {F : Fr} {H : Hp} {d : Option Tmp} {ty t t' : TypeId} {pos : String} {af : Array Edge} {g : Option (Nat × Bool)} {x y : Operand} {m n : Int}
theorem oq_shr1U {k' : IntKind} (hx : ev F x = some (.int .u64 m)) (hy : ev F y = some (.int k' 1)) (_ : 0 ≤ m) : OQ c ⟨d, .binOp .shr t x y t', ty, pos, af, g⟩ F H (.int .u64 (m / 2)) := by
 have := oq_shr (c := c) (d := d) (ty := ty) (t := t) (t' := t') (pos := pos) (af := af) (g := g) (H := H) hx hy (by omega)
 rw [show (2 : Int) ^ (min (1 : Int).toNat IntKind.u64.bits) = 2 from rfl, Int.fdiv_eq_ediv_of_nonneg _ (by omega)] at this
 exact this
end
section
variable {c : Cx} {S : WS c.P} {Q : QS} {F : Fr} {H : Hp}
end
section
variable {c : Cx} {F : Fr} {H : Hp} {d : Option Tmp} {ty t t' : TypeId} {pos : String} {af : Array Edge} {g : Option (Nat × Bool)} {x y : Operand} {m n k : Int} {v u : Value}
theorem OQ.as {o : Oper} (h : OQ c o F H u) (e : u = v) : OQ c o F H v := e ▸ h
theorem oq_subE (hx : ev F x = some (.int .i64 m)) (hy : ev F y = some (.int .i64 n)) (e : m - n = k ∧ -9223372036854775808 ≤ k ∧ k ≤ 9223372036854775807) : OQ c ⟨d, .binOp .sub t x y t', ty, pos, af, g⟩ F H (.int .i64 k) :=
 (oq_sub hx hy ⟨by omega, by omega⟩).as (by rw [e.1])
theorem oq_addE (hx : ev F x = some (.int .i64 m)) (hy : ev F y = some (.int .i64 n)) (e : m + n = k ∧ -9223372036854775808 ≤ k ∧ k ≤ 9223372036854775807) : OQ c ⟨d, .binOp .add t x y t', ty, pos, af, g⟩ F H (.int .i64 k) :=
 (oq_add hx hy ⟨by omega, by omega⟩).as (by rw [e.1])
theorem oq_shr1N {k' : IntKind} {a : Nat} (hx : ev F x = some (.int .u64 m)) (hy : ev F y = some (.int k' 1)) (e : m = (a : Int)) : OQ c ⟨d, .binOp .shr t x y t', ty, pos, af, g⟩ F H (.int .u64 ((a / 2 : Nat) : Int)) :=
 (oq_shr1U hx hy (by omega)).as (by subst e; simp)
end
def FOk (P : Program) : List Field → List (Nat × Nat × Bool) → Prop
 | [], [] => True
 | d :: ds, (off, n, g) :: fs => d.offset = off ∧ (∀ w, (sizeOf d.type).run P w = .ok n w) ∧ (∀ w, (isAgg d.type).run P w = .ok g w) ∧ FOk P ds fs
 | _, _ => False
theorem FOk.len {P : Program} {ds : Array Field} {fs : List (Nat × Nat × Bool)} (h : FOk P ds.toList fs) : ds.size = fs.length := by
 have : ∀ (l : List Field) (fs : List (Nat × Nat × Bool)), FOk P l fs → l.length = fs.length := by
  intro l
  induction l with
  | nil => intro fs h; cases fs with | nil => rfl | cons a b => exact h.elim
  | cons d l ih => intro fs h; cases fs with | nil => exact h.elim | cons a b => obtain ⟨x, y, z⟩ := a; simp [ih b h.2.2.2]
 simpa using this _ _ h
theorem FOk.at_ {P : Program} : ∀ {ds : List Field} {fs : List (Nat × Nat × Bool)}, FOk P ds fs → ∀ (f off n : Nat) (g : Bool), fs[f]? = some (off, n, g) →
   ∃ d : Field, ds[f]? = some d ∧ d.offset = off ∧ (∀ w, (sizeOf d.type).run P w = .ok n w) ∧ ∀ w, (isAgg d.type).run P w = .ok g w
 | [], [], _, f, off, n, g, h => by simp at h
 | [], _ :: _, h, _, _, _, _, _ => h.elim
 | _ :: _, [], h, _, _, _, _, _ => h.elim
 | d :: ds, (off', n', g') :: fs, h, 0, off, n, g, hf => by
  obtain ⟨rfl, rfl, rfl⟩ : off' = off ∧ n' = n ∧ g' = g := by simpa using hf
  exact ⟨d, rfl, h.1, h.2.1, h.2.2.1⟩
 | d :: ds, (off', n', g') :: fs, h, f + 1, off, n, g, hf => by
  obtain ⟨d', h1, h2⟩ := FOk.at_ h.2.2.2 f off n g (by simpa using hf)
  exact ⟨d', by simpa using h1, h2⟩
theorem struct_ok {P : Program} {t : Nat} {ds : Array Field} {fs : List (Nat × Nat × Bool)} (hu : ∀ w, (underlying t).run P w = .ok (.struct ds) w) (h : FOk P ds.toList fs) : KindOk P t (.struct fs) :=
 ⟨ds, hu, h.len, fun f off n g hf => by
  obtain ⟨d, h1, h2⟩ := h.at_ f off n g hf
  exact ⟨d, by simpa using h1, h2⟩⟩
theorem ty_ok3 : TyOk Try.prog 3 ⟨false, 1, [(.int .i64 0)], .int .i64⟩ := ⟨Try.isAgg3, Try.sizeOf3, fun w => ⟨_, Try.zeroValue3 w, rfl⟩, rfl, Try.runUnderlying3⟩ -- int
theorem ty_ok4 : TyOk Try.prog 4 ⟨false, 1, [(.bool false)], .other⟩ := ⟨Try.isAgg4, Try.sizeOf4, fun w => ⟨_, Try.zeroValue4 w, rfl⟩, rfl, trivial⟩ -- bool
theorem ty_ok5 : TyOk Try.prog 5 ⟨false, 1, [(.int .u8 0)], .int .u8⟩ := ⟨Try.isAgg5, Try.sizeOf5, fun w => ⟨_, Try.zeroValue5 w, rfl⟩, rfl, Try.runUnderlying5⟩ -- uint8
theorem ty_ok20 : TyOk Try.prog 20 ⟨false, 1, [.nilIface], .other⟩ := ⟨Try.isAgg20, Try.sizeOf20, fun w => ⟨_, Try.zeroValue20 w, rfl⟩, rfl, trivial⟩ -- interface {}
theorem ty_ok22 : TyOk Try.prog 22 ⟨false, 1, [(.slice none 0 0)], .slice 106⟩ := ⟨Try.isAgg22, Try.sizeOf22, fun w => ⟨_, Try.zeroValue22 w, rfl⟩, rfl, Try.runUnderlying22⟩ -- []api.Departure
theorem ty_ok23 : TyOk Try.prog 23 ⟨false, 1, [(.slice none 0 0)], .slice 71⟩ := ⟨Try.isAgg23, Try.sizeOf23, fun w => ⟨_, Try.zeroValue23 w, rfl⟩, rfl, Try.runUnderlying23⟩ -- []api.Booking
theorem ty_ok25 : TyOk Try.prog 25 ⟨true, 7, [.int .i64 0, .int .i64 0, .int .i64 0, .slice none 0 0, .slice none 0 0, .int .i64 0, .int .i64 0], .struct [(0, 1, false), (1, 1, false), (2, 1, false), (3, 1, false), (4, 1, false), (5, 1, false), (6, 1, false)]⟩ := ⟨Try.isAgg25, Try.sizeOf25, fun w => ⟨_, Try.zeroValue25 w, rfl⟩, rfl, struct_ok Try.runUnderlying25 ⟨rfl, Try.sizeOf3, Try.isAgg3, ⟨rfl, Try.sizeOf3, Try.isAgg3, ⟨rfl, Try.sizeOf3, Try.isAgg3, ⟨rfl, Try.sizeOf22, Try.isAgg22, ⟨rfl, Try.sizeOf23, Try.isAgg23, ⟨rfl, Try.sizeOf3, Try.isAgg3, ⟨rfl, Try.sizeOf3, Try.isAgg3, trivial⟩⟩⟩⟩⟩⟩⟩⟩ -- api.Office
theorem ty_ok27 : TyOk Try.prog 27 ⟨false, 1, [(.int .i64 0)], .int .i64⟩ := ⟨Try.isAgg27, Try.sizeOf27, fun w => ⟨_, Try.zeroValue27 w, rfl⟩, rfl, Try.runUnderlying27⟩ -- api.Errno
theorem ty_ok40 : TyOk Try.prog 40 ⟨true, 3, [.int .i64 0, .int .i64 0, .int .i64 0], .struct [(0, 1, false), (1, 1, false), (2, 1, false)]⟩ := ⟨Try.isAgg40, Try.sizeOf40, fun w => ⟨_, Try.zeroValue40 w, rfl⟩, rfl, struct_ok Try.runUnderlying40 ⟨rfl, Try.sizeOf3, Try.isAgg3, ⟨rfl, Try.sizeOf3, Try.isAgg3, ⟨rfl, Try.sizeOf3, Try.isAgg3, trivial⟩⟩⟩⟩ -- api.Care
theorem ty_ok41 : TyOk Try.prog 41 ⟨false, 1, [(.slice none 0 0)], .slice 3⟩ := ⟨Try.isAgg41, Try.sizeOf41, fun w => ⟨_, Try.zeroValue41 w, rfl⟩, rfl, Try.runUnderlying41⟩ -- []int
theorem ty_ok54 : TyOk Try.prog 54 ⟨false, 1, [(.slice none 0 0)], .slice 63⟩ := ⟨Try.isAgg54, Try.sizeOf54, fun w => ⟨_, Try.zeroValue54 w, rfl⟩, rfl, Try.runUnderlying54⟩ -- []api.Deal
theorem ty_ok63 : TyOk Try.prog 63 ⟨true, 5, [.int .u8 0, .int .i64 0, .int .i64 0, .int .i64 0, .int .i64 0], .struct [(0, 1, false), (1, 1, false), (2, 1, false), (3, 1, false), (4, 1, false)]⟩ := ⟨Try.isAgg63, Try.sizeOf63, fun w => ⟨_, Try.zeroValue63 w, rfl⟩, rfl, struct_ok Try.runUnderlying63 ⟨rfl, Try.sizeOf5, Try.isAgg5, ⟨rfl, Try.sizeOf3, Try.isAgg3, ⟨rfl, Try.sizeOf3, Try.isAgg3, ⟨rfl, Try.sizeOf3, Try.isAgg3, ⟨rfl, Try.sizeOf3, Try.isAgg3, trivial⟩⟩⟩⟩⟩⟩ -- api.Deal
theorem ty_ok71 : TyOk Try.prog 71 ⟨true, 3, [.int .i64 0, .int .u8 0, .int .i64 0], .struct [(0, 1, false), (1, 1, false), (2, 1, false)]⟩ := ⟨Try.isAgg71, Try.sizeOf71, fun w => ⟨_, Try.zeroValue71 w, rfl⟩, rfl, struct_ok Try.runUnderlying71 ⟨rfl, Try.sizeOf3, Try.isAgg3, ⟨rfl, Try.sizeOf5, Try.isAgg5, ⟨rfl, Try.sizeOf3, Try.isAgg3, trivial⟩⟩⟩⟩ -- api.Booking
theorem ty_ok74 : TyOk Try.prog 74 ⟨true, 4, [.int .i64 0, .int .i64 0, .int .i64 0, .int .i64 0], .struct [(0, 1, false), (1, 1, false), (2, 1, false), (3, 1, false)]⟩ := ⟨Try.isAgg74, Try.sizeOf74, fun w => ⟨_, Try.zeroValue74 w, rfl⟩, rfl, struct_ok Try.runUnderlying74 ⟨rfl, Try.sizeOf3, Try.isAgg3, ⟨rfl, Try.sizeOf3, Try.isAgg3, ⟨rfl, Try.sizeOf3, Try.isAgg3, ⟨rfl, Try.sizeOf3, Try.isAgg3, trivial⟩⟩⟩⟩⟩ -- api.Duty
theorem ty_ok75 : TyOk Try.prog 75 ⟨false, 1, [(.slice none 0 0)], .slice 101⟩ := ⟨Try.isAgg75, Try.sizeOf75, fun w => ⟨_, Try.zeroValue75 w, rfl⟩, rfl, Try.runUnderlying75⟩ -- []api.Shift
theorem ty_ok77 : TyOk Try.prog 77 ⟨false, 1, [(.slice none 0 0)], .slice 99⟩ := ⟨Try.isAgg77, Try.sizeOf77, fun w => ⟨_, Try.zeroValue77 w, rfl⟩, rfl, Try.runUnderlying77⟩ -- []api.Tired
theorem ty_ok89 : TyOk Try.prog 89 ⟨false, 1, [(.slice none 0 0)], .slice 114⟩ := ⟨Try.isAgg89, Try.sizeOf89, fun w => ⟨_, Try.zeroValue89 w, rfl⟩, rfl, Try.runUnderlying89⟩ -- []api.Trip
theorem ty_ok90 : TyOk Try.prog 90 ⟨false, 1, [(.slice none 0 0)], .slice 41⟩ := ⟨Try.isAgg90, Try.sizeOf90, fun w => ⟨_, Try.zeroValue90 w, rfl⟩, rfl, Try.runUnderlying90⟩ -- [][]int
theorem ty_ok99 : TyOk Try.prog 99 ⟨true, 3, [.int .i64 0, .int .i64 0, .int .i64 0], .struct [(0, 1, false), (1, 1, false), (2, 1, false)]⟩ := ⟨Try.isAgg99, Try.sizeOf99, fun w => ⟨_, Try.zeroValue99 w, rfl⟩, rfl, struct_ok Try.runUnderlying99 ⟨rfl, Try.sizeOf3, Try.isAgg3, ⟨rfl, Try.sizeOf3, Try.isAgg3, ⟨rfl, Try.sizeOf3, Try.isAgg3, trivial⟩⟩⟩⟩ -- api.Tired
theorem ty_ok101 : TyOk Try.prog 101 ⟨true, 3, [.int .i64 0, .int .i64 0, .int .i64 0], .struct [(0, 1, false), (1, 1, false), (2, 1, false)]⟩ := ⟨Try.isAgg101, Try.sizeOf101, fun w => ⟨_, Try.zeroValue101 w, rfl⟩, rfl, struct_ok Try.runUnderlying101 ⟨rfl, Try.sizeOf3, Try.isAgg3, ⟨rfl, Try.sizeOf3, Try.isAgg3, ⟨rfl, Try.sizeOf3, Try.isAgg3, trivial⟩⟩⟩⟩ -- api.Shift
theorem ty_ok106 : TyOk Try.prog 106 ⟨true, 4, [.int .i64 0, .int .i64 0, .int .i64 0, .int .u8 0], .struct [(0, 1, false), (1, 1, false), (2, 1, false), (3, 1, false)]⟩ := ⟨Try.isAgg106, Try.sizeOf106, fun w => ⟨_, Try.zeroValue106 w, rfl⟩, rfl, struct_ok Try.runUnderlying106 ⟨rfl, Try.sizeOf3, Try.isAgg3, ⟨rfl, Try.sizeOf3, Try.isAgg3, ⟨rfl, Try.sizeOf3, Try.isAgg3, ⟨rfl, Try.sizeOf5, Try.isAgg5, trivial⟩⟩⟩⟩⟩ -- api.Departure
theorem ty_ok109 : TyOk Try.prog 109 ⟨false, 1, [(.slice none 0 0)], .slice 5⟩ := ⟨Try.isAgg109, Try.sizeOf109, fun w => ⟨_, Try.zeroValue109 w, rfl⟩, rfl, Try.runUnderlying109⟩ -- []uint8
theorem ty_ok114 : TyOk Try.prog 114 ⟨true, 3, [.int .i64 0, .int .i64 0, .int .i64 0], .struct [(0, 1, false), (1, 1, false), (2, 1, false)]⟩ := ⟨Try.isAgg114, Try.sizeOf114, fun w => ⟨_, Try.zeroValue114 w, rfl⟩, rfl, struct_ok Try.runUnderlying114 ⟨rfl, Try.sizeOf3, Try.isAgg3, ⟨rfl, Try.sizeOf3, Try.isAgg3, ⟨rfl, Try.sizeOf3, Try.isAgg3, trivial⟩⟩⟩⟩ -- api.Trip
theorem ty_ok121 : TyOk Try.prog 121 ⟨false, 1, [(.pointer none)], .ptr 135⟩ := ⟨Try.isAgg121, Try.sizeOf121, fun w => ⟨_, Try.zeroValue121 w, rfl⟩, rfl, Try.runUnderlying121⟩ -- *crew.desk
theorem ty_ok129 : TyOk Try.prog 129 ⟨true, 4, [.int .i64 0, .int .i64 0, .int .i64 0, .int .i64 0], .struct [(0, 1, false), (1, 1, false), (2, 1, false), (3, 1, false)]⟩ := ⟨Try.isAgg129, Try.sizeOf129, fun w => ⟨_, Try.zeroValue129 w, rfl⟩, rfl, struct_ok Try.runUnderlying129 ⟨rfl, Try.sizeOf3, Try.isAgg3, ⟨rfl, Try.sizeOf3, Try.isAgg3, ⟨rfl, Try.sizeOf3, Try.isAgg3, ⟨rfl, Try.sizeOf3, Try.isAgg3, trivial⟩⟩⟩⟩⟩ -- crew.purse
theorem ty_ok133 : TyOk Try.prog 133 ⟨false, 1, [(.pointer none)], .ptr 71⟩ := ⟨Try.isAgg133, Try.sizeOf133, fun w => ⟨_, Try.zeroValue133 w, rfl⟩, rfl, Try.runUnderlying133⟩ -- *api.Booking
theorem ty_ok135 : TyOk Try.prog 135 ⟨true, 7, [.int .i64 0, .int .i64 0, .int .i64 0, .slice none 0 0, .slice none 0 0, .int .i64 0, .int .i64 0], .struct [(0, 7, true)]⟩ := ⟨Try.isAgg135, Try.sizeOf135, fun w => ⟨_, Try.zeroValue135 w, rfl⟩, rfl, struct_ok Try.runUnderlying135 ⟨rfl, Try.sizeOf25, Try.isAgg25, trivial⟩⟩ -- crew.desk
theorem ty_ok145 : TyOk Try.prog 145 ⟨false, 1, [.nilFunc], .other⟩ := ⟨Try.isAgg145, Try.sizeOf145, fun w => ⟨_, Try.zeroValue145 w, rfl⟩, rfl, trivial⟩ -- func(int) bool
theorem ty_ok150 : TyOk Try.prog 150 ⟨false, 1, [.nilFunc], .other⟩ := ⟨Try.isAgg150, Try.sizeOf150, fun w => ⟨_, Try.zeroValue150 w, rfl⟩, rfl, trivial⟩ -- func(api.Trip) bool
theorem ty_ok152 : TyOk Try.prog 152 ⟨false, 1, [.nilFunc], .other⟩ := ⟨Try.isAgg152, Try.sizeOf152, fun w => ⟨_, Try.zeroValue152 w, rfl⟩, rfl, trivial⟩ -- func(int, int, []api.Shift) bool
theorem ty_ok165 : TyOk Try.prog 165 ⟨false, 1, [(.int .u64 0)], .int .u64⟩ := ⟨Try.isAgg165, Try.sizeOf165, fun w => ⟨_, Try.zeroValue165 w, rfl⟩, rfl, Try.runUnderlying165⟩ -- uint
theorem ty_ok169 : TyOk Try.prog 169 ⟨true, 1, [.int .i64 0], .struct [(0, 1, false)]⟩ := ⟨Try.isAgg169, Try.sizeOf169, fun w => ⟨_, Try.zeroValue169 w, rfl⟩, rfl, struct_ok Try.runUnderlying169 ⟨rfl, Try.sizeOf27, Try.isAgg27, trivial⟩⟩ -- crew.refusal
theorem ty_ok171 : TyOk Try.prog 171 ⟨false, 1, [.nilFunc], .other⟩ := ⟨Try.isAgg171, Try.sizeOf171, fun w => ⟨_, Try.zeroValue171 w, rfl⟩, rfl, trivial⟩ -- func(*crew.desk, api.Deal)
theorem ty_ok172 : TyOk Try.prog 172 ⟨true, 8, [.nilFunc, .nilFunc, .nilFunc, .nilFunc, .nilFunc, .nilFunc, .nilFunc, .nilFunc], .array 8 171⟩ := ⟨Try.isAgg172, Try.sizeOf172, fun w => ⟨_, Try.zeroValue172 w, rfl⟩, rfl, Try.runUnderlying172⟩ -- [8]func(*crew.desk, api.Deal)
theorem ty_ok178 : TyOk Try.prog 178 ⟨false, 1, [(.slice none 0 0)], .slice 27⟩ := ⟨Try.isAgg178, Try.sizeOf178, fun w => ⟨_, Try.zeroValue178 w, rfl⟩, rfl, Try.runUnderlying178⟩ -- []api.Errno
theorem ty_ok180 : TyOk Try.prog 180 ⟨false, 1, [.nilFunc], .other⟩ := ⟨Try.isAgg180, Try.sizeOf180, fun w => ⟨_, Try.zeroValue180 w, rfl⟩, rfl, trivial⟩ -- func(api.Shift, api.Shift) int
theorem ty_ok181 : TyOk Try.prog 181 ⟨true, 2, [.int .i64 0, .bool false], .struct [(0, 1, false), (1, 1, false)]⟩ := ⟨Try.isAgg181, Try.sizeOf181, fun w => ⟨_, Try.zeroValue181 w, rfl⟩, rfl, struct_ok Try.runUnderlying181 ⟨rfl, Try.sizeOf3, Try.isAgg3, ⟨rfl, Try.sizeOf4, Try.isAgg4, trivial⟩⟩⟩ -- struct { kind int; is bool }
theorem ty_ok182 : TyOk Try.prog 182 ⟨true, 6, [.int .i64 0, .bool false, .int .i64 0, .bool false, .int .i64 0, .bool false], .array 3 181⟩ := ⟨Try.isAgg182, Try.sizeOf182, fun w => ⟨_, Try.zeroValue182 w, rfl⟩, rfl, Try.runUnderlying182⟩ -- [3]struct { kind int; is bool }
theorem ty_ok187 : TyOk Try.prog 187 ⟨true, 3, [.slice none 0 0, .slice none 0 0, .slice none 0 0], .array 3 109⟩ := ⟨Try.isAgg187, Try.sizeOf187, fun w => ⟨_, Try.zeroValue187 w, rfl⟩, rfl, Try.runUnderlying187⟩ -- [3][]uint8
theorem ty_ok190 : TyOk Try.prog 190 ⟨false, 1, [(.int .u32 0)], .int .u32⟩ := ⟨Try.isAgg190, Try.sizeOf190, fun w => ⟨_, Try.zeroValue190 w, rfl⟩, rfl, Try.runUnderlying190⟩ -- uint32
theorem ty_ok193 : TyOk Try.prog 193 ⟨false, 1, [(.int .u64 0)], .int .u64⟩ := ⟨Try.isAgg193, Try.sizeOf193, fun w => ⟨_, Try.zeroValue193 w, rfl⟩, rfl, Try.runUnderlying193⟩ -- uint64
def tys : List (Nat × TyI) := [(3, ⟨false, 1, [(.int .i64 0)], .int .i64⟩),
 (4, ⟨false, 1, [(.bool false)], .other⟩),
 (5, ⟨false, 1, [(.int .u8 0)], .int .u8⟩),
 (20, ⟨false, 1, [.nilIface], .other⟩),
 (22, ⟨false, 1, [(.slice none 0 0)], .slice 106⟩),
 (23, ⟨false, 1, [(.slice none 0 0)], .slice 71⟩),
 (25, ⟨true, 7, [.int .i64 0, .int .i64 0, .int .i64 0, .slice none 0 0, .slice none 0 0, .int .i64 0, .int .i64 0], .struct [(0, 1, false), (1, 1, false), (2, 1, false), (3, 1, false), (4, 1, false), (5, 1, false), (6, 1, false)]⟩),
 (27, ⟨false, 1, [(.int .i64 0)], .int .i64⟩),
 (40, ⟨true, 3, [.int .i64 0, .int .i64 0, .int .i64 0], .struct [(0, 1, false), (1, 1, false), (2, 1, false)]⟩),
 (41, ⟨false, 1, [(.slice none 0 0)], .slice 3⟩),
 (54, ⟨false, 1, [(.slice none 0 0)], .slice 63⟩),
 (63, ⟨true, 5, [.int .u8 0, .int .i64 0, .int .i64 0, .int .i64 0, .int .i64 0], .struct [(0, 1, false), (1, 1, false), (2, 1, false), (3, 1, false), (4, 1, false)]⟩),
 (71, ⟨true, 3, [.int .i64 0, .int .u8 0, .int .i64 0], .struct [(0, 1, false), (1, 1, false), (2, 1, false)]⟩),
 (74, ⟨true, 4, [.int .i64 0, .int .i64 0, .int .i64 0, .int .i64 0], .struct [(0, 1, false), (1, 1, false), (2, 1, false), (3, 1, false)]⟩),
 (75, ⟨false, 1, [(.slice none 0 0)], .slice 101⟩),
 (77, ⟨false, 1, [(.slice none 0 0)], .slice 99⟩),
 (89, ⟨false, 1, [(.slice none 0 0)], .slice 114⟩),
 (90, ⟨false, 1, [(.slice none 0 0)], .slice 41⟩),
 (99, ⟨true, 3, [.int .i64 0, .int .i64 0, .int .i64 0], .struct [(0, 1, false), (1, 1, false), (2, 1, false)]⟩),
 (101, ⟨true, 3, [.int .i64 0, .int .i64 0, .int .i64 0], .struct [(0, 1, false), (1, 1, false), (2, 1, false)]⟩),
 (106, ⟨true, 4, [.int .i64 0, .int .i64 0, .int .i64 0, .int .u8 0], .struct [(0, 1, false), (1, 1, false), (2, 1, false), (3, 1, false)]⟩),
 (109, ⟨false, 1, [(.slice none 0 0)], .slice 5⟩),
 (114, ⟨true, 3, [.int .i64 0, .int .i64 0, .int .i64 0], .struct [(0, 1, false), (1, 1, false), (2, 1, false)]⟩),
 (121, ⟨false, 1, [(.pointer none)], .ptr 135⟩),
 (129, ⟨true, 4, [.int .i64 0, .int .i64 0, .int .i64 0, .int .i64 0], .struct [(0, 1, false), (1, 1, false), (2, 1, false), (3, 1, false)]⟩),
 (133, ⟨false, 1, [(.pointer none)], .ptr 71⟩),
 (135, ⟨true, 7, [.int .i64 0, .int .i64 0, .int .i64 0, .slice none 0 0, .slice none 0 0, .int .i64 0, .int .i64 0], .struct [(0, 7, true)]⟩),
 (145, ⟨false, 1, [.nilFunc], .other⟩),
 (150, ⟨false, 1, [.nilFunc], .other⟩),
 (152, ⟨false, 1, [.nilFunc], .other⟩),
 (165, ⟨false, 1, [(.int .u64 0)], .int .u64⟩),
 (169, ⟨true, 1, [.int .i64 0], .struct [(0, 1, false)]⟩),
 (171, ⟨false, 1, [.nilFunc], .other⟩),
 (172, ⟨true, 8, [.nilFunc, .nilFunc, .nilFunc, .nilFunc, .nilFunc, .nilFunc, .nilFunc, .nilFunc], .array 8 171⟩),
 (178, ⟨false, 1, [(.slice none 0 0)], .slice 27⟩),
 (180, ⟨false, 1, [.nilFunc], .other⟩),
 (181, ⟨true, 2, [.int .i64 0, .bool false], .struct [(0, 1, false), (1, 1, false)]⟩),
 (182, ⟨true, 6, [.int .i64 0, .bool false, .int .i64 0, .bool false, .int .i64 0, .bool false], .array 3 181⟩),
 (187, ⟨true, 3, [.slice none 0 0, .slice none 0 0, .slice none 0 0], .array 3 109⟩),
 (190, ⟨false, 1, [(.int .u32 0)], .int .u32⟩),
 (193, ⟨false, 1, [(.int .u64 0)], .int .u64⟩)]
theorem tys_ok : ∀ x ∈ tys, TyOk Try.prog x.1 x.2 := by
 unfold tys
 refine List.forall_mem_cons.2 ⟨ty_ok3, ?_⟩
 refine List.forall_mem_cons.2 ⟨ty_ok4, ?_⟩
 refine List.forall_mem_cons.2 ⟨ty_ok5, ?_⟩
 refine List.forall_mem_cons.2 ⟨ty_ok20, ?_⟩
 refine List.forall_mem_cons.2 ⟨ty_ok22, ?_⟩
 refine List.forall_mem_cons.2 ⟨ty_ok23, ?_⟩
 refine List.forall_mem_cons.2 ⟨ty_ok25, ?_⟩
 refine List.forall_mem_cons.2 ⟨ty_ok27, ?_⟩
 refine List.forall_mem_cons.2 ⟨ty_ok40, ?_⟩
 refine List.forall_mem_cons.2 ⟨ty_ok41, ?_⟩
 refine List.forall_mem_cons.2 ⟨ty_ok54, ?_⟩
 refine List.forall_mem_cons.2 ⟨ty_ok63, ?_⟩
 refine List.forall_mem_cons.2 ⟨ty_ok71, ?_⟩
 refine List.forall_mem_cons.2 ⟨ty_ok74, ?_⟩
 refine List.forall_mem_cons.2 ⟨ty_ok75, ?_⟩
 refine List.forall_mem_cons.2 ⟨ty_ok77, ?_⟩
 refine List.forall_mem_cons.2 ⟨ty_ok89, ?_⟩
 refine List.forall_mem_cons.2 ⟨ty_ok90, ?_⟩
 refine List.forall_mem_cons.2 ⟨ty_ok99, ?_⟩
 refine List.forall_mem_cons.2 ⟨ty_ok101, ?_⟩
 refine List.forall_mem_cons.2 ⟨ty_ok106, ?_⟩
 refine List.forall_mem_cons.2 ⟨ty_ok109, ?_⟩
 refine List.forall_mem_cons.2 ⟨ty_ok114, ?_⟩
 refine List.forall_mem_cons.2 ⟨ty_ok121, ?_⟩
 refine List.forall_mem_cons.2 ⟨ty_ok129, ?_⟩
 refine List.forall_mem_cons.2 ⟨ty_ok133, ?_⟩
 refine List.forall_mem_cons.2 ⟨ty_ok135, ?_⟩
 refine List.forall_mem_cons.2 ⟨ty_ok145, ?_⟩
 refine List.forall_mem_cons.2 ⟨ty_ok150, ?_⟩
 refine List.forall_mem_cons.2 ⟨ty_ok152, ?_⟩
 refine List.forall_mem_cons.2 ⟨ty_ok165, ?_⟩
 refine List.forall_mem_cons.2 ⟨ty_ok169, ?_⟩
 refine List.forall_mem_cons.2 ⟨ty_ok171, ?_⟩
 refine List.forall_mem_cons.2 ⟨ty_ok172, ?_⟩
 refine List.forall_mem_cons.2 ⟨ty_ok178, ?_⟩
 refine List.forall_mem_cons.2 ⟨ty_ok180, ?_⟩
 refine List.forall_mem_cons.2 ⟨ty_ok181, ?_⟩
 refine List.forall_mem_cons.2 ⟨ty_ok182, ?_⟩
 refine List.forall_mem_cons.2 ⟨ty_ok187, ?_⟩
 refine List.forall_mem_cons.2 ⟨ty_ok190, ?_⟩
 refine List.forall_mem_cons.2 ⟨ty_ok193, ?_⟩
 exact fun x hx => (List.not_mem_nil hx).elim
theorem app_ok22 : AppOk Try.prog 22 106 4 32 := ⟨Try.underlying22, ⟨Try.t106, _, (by kernel_rfl), rfl, rfl, rfl, rfl⟩, by decide⟩
theorem app_ok23 : AppOk Try.prog 23 71 3 24 := ⟨Try.underlying23, ⟨Try.t71, _, (by kernel_rfl), rfl, rfl, rfl, rfl⟩, by decide⟩
theorem app_ok41 : AppOk Try.prog 41 3 1 8 := ⟨Try.underlying41, ⟨Try.t3, _, (by kernel_rfl), rfl, rfl, rfl, rfl⟩, by decide⟩
theorem app_ok75 : AppOk Try.prog 75 101 3 24 := ⟨Try.underlying75, ⟨Try.t101, _, (by kernel_rfl), rfl, rfl, rfl, rfl⟩, by decide⟩
theorem app_ok77 : AppOk Try.prog 77 99 3 24 := ⟨Try.underlying77, ⟨Try.t99, _, (by kernel_rfl), rfl, rfl, rfl, rfl⟩, by decide⟩
theorem app_ok90 : AppOk Try.prog 90 41 1 24 := ⟨Try.underlying90, ⟨Try.t41, _, (by kernel_rfl), rfl, rfl, rfl, rfl⟩, by decide⟩
/-- The setting of a walk that only adds to the world. -/
@[reducible] noncomputable def cx (w : World) (N : Nat) : Cx := ⟨Try.prog, tys, tys_ok, w, [], N⟩
/-- The setting of a walk that may write the blocks M. -/
@[reducible] noncomputable def cxM (M : List Nat) (w : World) (N : Nat) : Cx := ⟨Try.prog, tys, tys_ok, w, M, N⟩
section
variable {c : Cx} {F : Fr} {H H' : Hp} {K : Value → Hp → Prop} {d : Option Tmp} {ty : TypeId} {pos : String} {af : Array Edge} {g : Option (Nat × Bool)} {C C' : List Value} {b : Nat} {tg : Tg} {v : Value}
/-- A call that writes block b, and else only adds to the world. -/
theorem os_callW {f : Operand} {args : Array Operand} {T : Array TypeId} {k : Nat} {fst cap vs : List Value} (hf : ev F f = some (.func (.func k) ⟨fst⟩ ⟨cap⟩)) (hc : ∀ (a : Array Value) (w : World), (callFunc k a).run c.P w = .ok (.enter k a) w)
  (ha : evs F args.toList = some vs) (hp : Pick H b C tg H') (h : ∀ D w, Has c.w0 ⟨c.M, D⟩ H w → Calls c.P k ⟨fst ++ vs ++ cap⟩ w fun e w' => e = .returned v ∧ ExtM [b] w w' ∧ Blk w' b C' tg)
  (hk : K v ((b, C', tg) :: H')) : OS c ⟨d, .call ⟨.value f, args, T⟩, ty, pos, af, g⟩ F H K :=
 os_call hf hc ha fun D w hw => (h D w hw).mono fun e w' ⟨h1, h2, h3⟩ => ⟨v, _, h1, hk, (hw.perm hp.perm).wrote h2 h3⟩
/-- A function that writes block b, and else only adds to the world. -/
theorem enterW {k : FuncId} {fn : Func} {code : Code} {rs : List ResultVar} {args : List Value} {V : Value} (hf : c.P.funcs[k]? = some fn) (hb : fn.body = some code) (hrs : fn.results = ⟨rs⟩) (hN : c.N = args.length + (fn.ntmps - args.length)) (hM : c.M = [b]) (hB : Blk c.w0 b C tg)
  (h : T c (WS.own c.P) code (endQ c rs fun v H => v = V ∧ HpSub H [(b, C', tg)]) (frOf 0 args) [(b, C, tg)]) : Calls c.P k ⟨args⟩ c.w0 fun e w' => e = .returned V ∧ ExtM [b] c.w0 w' ∧ Blk w' b C' tg := by
 refine (enter hf hb hrs hN (fun d v hv => (look_frOf args 0 d v hv).2) ?_ h).mono fun e w' ⟨v, H', h1, ⟨h2, h3⟩, h4⟩ => ⟨by rw [h1, h2], ?_, ?_⟩
 ·rw [hM]
  refine ⟨ExtM.refl _ _, fun x hx => ?_, by simp, List.nodup_nil, fun k hk => (List.not_mem_nil hk).elim⟩
  obtain rfl : x = _ := by simpa using hx
  exact ⟨.inr (by simp), hB⟩
 ·have := h4.ext; rw [hM] at this; exact this
 ·exact ((h4.sub h3).blk _ (List.mem_cons_self ..)).2
end
theorem eqF_cons {P : Program} {w : World} {d : Nat} {xs ys : Array Value} {f : Field} {fs : List Field} {u v : Value} {q : Bool} (hn : (f.name == "_") = false) (hx : (part f.type xs f.offset).run P w = .ok u w) (hy : (part f.type ys f.offset).run P w = .ok v w)
  (he : (Op.equalIn d f.type u v).run P w = .ok q w) : (Op.eqFields d xs ys (f :: fs)).run P w = if q then (Op.eqFields d xs ys fs).run P w else .ok false w := by
 have hn' : f.name ≠ "_" := by simpa using hn
 simp only [Op.eqFields, hn', ne_eq, not_false_eq_true, if_true, Sem.run_bind, hx, hy, he, Result.andThen_ok]
 cases q <;> simp [Sem.run_pure]
theorem part_cell {P : Program} {w : World} {t o : Nat} {xs : List Value} {v : Value} (ha : (isAgg t).run P w = .ok false w) (hv : xs[o]? = some v) : (part t ⟨xs⟩ o).run P w = .ok v w := by
 simp [part, Sem.run_bind, ha, Result.andThen, go_sem, hv]
theorem eq_int3 {w : World} {d : Nat} {a b : Int} : (Op.equalIn (d + 1) 3 (.int .i64 a) (.int .i64 b)).run Try.prog w = .ok (decide (a = b)) w := by
 rw [run_equalIn_int w d 3 .i64 .i64 a b Try.underlying3]
 rfl
theorem eqF_int {w : World} {d o : Nat} {xs ys : List Value} {f : Field} {fs : List Field} {a b : Int} {q : Bool} (hn : (f.name == "_") = false) (ht : f.type = 3) (ho : f.offset = o) (hx : xs[o]? = some (.int .i64 a)) (hy : ys[o]? = some (.int .i64 b))
  (hr : (Op.eqFields (d + 1) ⟨xs⟩ ⟨ys⟩ fs).run Try.prog w = .ok q w) : (Op.eqFields (d + 1) ⟨xs⟩ ⟨ys⟩ (f :: fs)).run Try.prog w = .ok (decide (a = b) && q) w := by
 rw [eqF_cons hn (by rw [ht, ho]; exact part_cell (Try.isAgg3 w) hx) (by rw [ht, ho]; exact part_cell (Try.isAgg3 w) hy) (by rw [ht]; exact eq_int3), hr]
 by_cases h : a = b <;> simp [h]
theorem eqF_nil {w : World} {d : Nat} {xs ys : Array Value} : (Op.eqFields d xs ys []).run Try.prog w = .ok true w := by simp [Op.eqFields, Sem.run_pure]
section
variable {w : World} {N : Nat} {F : Fr} {H : Hp} {M : List Nat} {d : Option Tmp} {ty t' : TypeId} {pos : String} {af : Array Edge} {g : Option (Nat × Bool)} {x y : Operand} {a0 a1 a2 a3 a4 b0 b1 b2 b3 b4 : Int}
theorem oq_neS {t : TypeId} {xs ys : Array Value} {q : Bool} (hm : Try.prog.eqGuardType Try.prog.depth t = false) (he : ∀ w, (Op.equalIn 10000 t (.agg xs) (.agg ys)).run Try.prog w = .ok q w) (hx : ev F x = some (.agg xs)) (hy : ev F y = some (.agg ys)) :
  OQ (cxM M w N) ⟨d, .binOp .neq t x y t', ty, pos, af, g⟩ F H (.bool (!q)) := .of fun D a w ha _ => by
 simp only [execOp, ha.ev hx, ha.ev hy, Sem.run_bind, run_eqGuard_agg _ _ _ _ _ _ _ hm, Result.andThen]
 rw [run_neq_struct, he]
 rfl
end
/-- A slice that is not nil. -/
theorem oq_eqNil {c : Cx} {F : Fr} {H : Hp} {d : Option Tmp} {ty t t' : TypeId} {pos : String} {af : Array Edge} {g : Option (Nat × Bool)} {x y : Operand} {p : Addr} {n cp e s0 : Nat} {a0 : Bool} {z0 : List Value} (ht : tyAt c.tys t = some ⟨a0, s0, z0, .slice e⟩)
  (hx : ev F x = some (.slice (some p) n cp)) (hy : ev F y = some (.slice none 0 0)) : OQ c ⟨d, .binOp .eql t x y t', ty, pos, af, g⟩ F H (.bool false) := .of fun D a w ha _ => by
 have hk := (c.ty ht).kind w
 have e0 : (Op.equalIn 10000 t (.slice (some p) n cp) (.slice none 0 0)).run c.P w = .ok false w := by
  have key : ∀ d : Nat, (Op.equalIn (d + 1) t (.slice (some p) n cp) (.slice none 0 0)).run c.P w = .ok false w := fun d => by
   simp only [Op.equalIn, Sem.run_bind, hk, Result.andThen, Sem.run_pure]
  exact key 9999
 have e : (binOp .eql t (.slice (some p) n cp) (.slice none 0 0)).run c.P w = .ok (.bool false) w := by
  simp only [binOp, Op.equal, Op.maxDepth, Sem.run_bind, e0, Result.andThen, Sem.run_pure]
 have e1 : (eqGuard .eql t x y (.slice (some p) n cp) (.slice none 0 0)).run c.P w = .ok () w := by simp [eqGuard, go_sem]
 simp only [execOp, ha.ev hx, ha.ev hy, Sem.run_bind, e, e1, Result.andThen, Sem.run_pure]
/-- All that the listed operations wait for is listed. -/
def downB (ops : List Oper) (listed : Array Bool) : Bool := go ops 0
where
 go : List Oper → Nat → Bool
 | [], _ => true
 | o :: r, k => (!listed.getD k false || o.after.all fun e => !Region.binds .any e || listed.getD e.on false) && go r (k + 1)
theorem downB_go {listed : Array Bool} : ∀ {ops : List Oper} {k j : Nat} {o : Oper}, downB.go listed ops k = true → ops[j]? = some o → listed.getD (k + j) false = true → ∀ e ∈ o.after, Region.binds .any e = true → listed.getD e.on false = true
 | [], _, _, _, _, h, _ => by simp at h
 | o' :: r, k, 0, o, h, ho, hl => by
  unfold downB.go at h
  obtain rfl : o' = o := by simpa using ho
  intro e he hb
  simp only [Bool.and_eq_true, Bool.or_eq_true, Bool.not_eq_true', Array.all_eq_true_iff_forall_mem] at h
  rcases h.1 with h1 | h1
  ·rw [show k + 0 = k from rfl, h1] at hl; cases hl
  ·rcases h1 e he with h2 | h2
   ·rw [h2] at hb; cases hb
   ·exact h2
 | o' :: r, k, j + 1, o, h, ho, hl => by
  unfold downB.go at h
  simp only [Bool.and_eq_true] at h
  exact downB_go (k := k + 1) (j := j) h.2 (by simpa using ho) (by rw [show k + 1 + j = k + (j + 1) by omega]; exact hl)
theorem downB_spec {l : List Oper} {listed : Array Bool} (h : downB l listed = true) : Down ⟨l⟩ listed := fun k o hk ho e he hb =>
 downB_go (k := 0) (j := k) h (by simpa using ho) (by simpa using hk) e he hb
theorem al_more {c : Cx} {l ql : List Oper} {cov : Array Bool} {H0 H : Hp} {n : Nat} {listed : Array Bool} {R : Fr → Hp → Prop} {F : Fr} (q : List Nat) (m : Nat) (hB : (Region.noSelect ⟨l⟩ && downB l listed && lexOk ⟨l⟩ cov q listed) = true) (hn : n = m + q.length) (hq : pickOps l q = some ql) (hs : HpSub H H0)
  (h : GX c ⟨l⟩ ql (fun F' => AL c ⟨l⟩ cov H0 m (listedBy q listed) R F' H0) F H0) : AL c ⟨l⟩ cov H0 n listed R F H := fun D a w ha hw => by
 subst hn
 simp only [Bool.and_eq_true] at hB
 exact SAnyI_lex (Has.up (M := ⟨c.M, D⟩)) hB.1.1 m q listed a hB.2 (downB_spec hB.1.2) (wpGI_mono (fun a' ⟨F', h1, h2⟩ w' hw' => h1 D a' w' h2 hw') q a (h q (pickOps_spec hq) D a ha)) w (hw.sub hs)
section
variable {c : Cx} {F : Fr} {H : Hp} {d : Option Tmp} {ty t : TypeId} {pos : String} {af : Array Edge} {g : Option (Nat × Bool)} {x y z : Operand}
end
theorem madeCells_rows (zs : List Value) : ∀ n : Nat, (madeCells zs.toArray (n * zs.length)).toList = (List.replicate n zs).flatten := by
 intro n
 have key : (List.range (n * zs.length)).map (fun j => zs[j % zs.length]!) = (List.replicate n zs).flatten := by
  induction n with
  | zero => simp
  | succ n ih =>
   rw [Nat.succ_mul, Nat.add_comm, List.range_add, List.map_append, List.map_map, List.replicate_succ, List.flatten_cons, ← ih]
   congr 1
   ·refine List.ext_getElem (by simp) fun i h1 h2 => ?_
    simp at h1
    simp [Nat.mod_eq_of_lt h1, h1]
   ·refine List.map_congr_left fun j _ => ?_
    simp
 rw [← key]
 simp [madeCells]
theorem ox_make {c : Cx} {F : Fr} {H : Hp} {K : Value → Hp → Prop} {d : Option Tmp} {ty : TypeId} {pos : String} {af : Array Edge} {g : Option (Nat × Bool)} {x y : Operand} {t e size bytes n : Nat} {z : Value} {zs : List Value} (hk : AppOk c.P t e size bytes) (hz : (c.P.info? e).map (fun i => i.zero) = some (some z)) (hzs : z.cells = zs.toArray) (hl : zs.length = size)
  (hx : ev F x = some (.int .i64 (n : Int))) (hy : ev F y = some (.int .i64 (n : Int))) (hb : bytes * n ≤ 281474976710656) (hn : n ≤ maxLen) (k : ∀ b, K (.slice (some ⟨b, 0, none⟩) n n) ((b, (List.replicate n zs).flatten, some (e, size, n)) :: H)) : OX c ⟨d, .makeSlice t x y, ty, pos, af, g⟩ F H K := by
 intro D a w ha hw
 obtain ⟨i, z', k1, k2, k3, k4, k5⟩ := hk.info
 have hz' : i.zero = some z := by rw [k1] at hz; simpa using hz
 have hn' : (n : Int) ≤ 9223372036854775807 := by unfold maxLen at hn; omega
 have hb' : (i.bytes : Int) * (n : Int) ≤ 281474976710656 := by
  have h : ((i.bytes * n : Nat) : Int) ≤ 281474976710656 := by rw [k4]; omega
  rwa [Int.natCast_mul] at h
 have hr := run_make (P := c.P) w t e i z hk.und k1 hz' .i64 .i64 n n (by omega) (Int.le_refl _) hb' hn'
 simp only [Int.toNat_natCast, k3, hzs] at hr
 have hc : (madeCells zs.toArray (n * size)) = ((List.replicate n zs).flatten).toArray := by
  rw [← Array.toList_inj, ← hl, madeCells_rows]
 rw [hc] at hr
 have : (execOp a.eval ⟨d, .makeSlice t x y, ty, pos, af, g⟩).run c.P w = .ok (.value (.slice (some ⟨w.heap.size, 0, none⟩) n n)) (w.alloc (.cells ((List.replicate n zs).flatten).toArray e)) := by
  simp [execOp, ha.ev hx, ha.ev hy, Sem.run_bind, Sem.run_pure, Result.andThen, hr]
 rw [this]
 exact ⟨⟨_, k w.heap.size, hw.fresh ((Ext.refl w).alloc _) (Nat.le_refl _) (Blk.row w _ e size n (by simp [hl]) hn)⟩, (Ext.refl w).alloc _⟩
section
variable {c : Cx} {S : WS c.P} {Q : QS} {F : Fr} {H : Hp}
end
end Go.Proofs.Ytmlmgipngbndgaa
namespace Go.Proofs.Ytmlmgipngbndgaa
open Go.RowKit
attribute [local irreducible] OQ OS OX Rd T TL GX GL AL AI RV wpG SAny Calls
def inCells (z : Int) : List Value := [.int .i64 z]
theorem in_read {w : World} {A : Option Addr} {n : Nat} {l : List Int} (h : RdS w 1 A n (l.map inCells)) {i : Nat} (hi : i < n) :
  ∃ b o x, A = some ⟨b, o, none⟩ ∧ b < w.heap.size ∧ l[i]? = some x ∧ w.cell? ⟨b, o + i * 1, none⟩ = some (.int .i64 x) := by
 obtain ⟨b, o, cs, hA, hb, hx, _, hc⟩ := h.row hi
 simp only [List.getElem?_map, Option.map_eq_some_iff] at hx
 obtain ⟨x, hx, rfl⟩ := hx
 exact ⟨b, o, x, hA, hb, hx, hc 0 _ rfl⟩
def idxV {α : Type} (p : α → Bool) (l : List α) : Int := match l.findIdx? p with | some i => (i : Int) | none => -1
theorem idxV_some {α : Type} {p : α → Bool} {l : List α} {k : Nat} {x : α} (h : l[k]? = some x) (hp : p x = true) (hb : ∀ y ∈ l.take k, p y = false) : idxV p l = (k : Int) := by
 have : l.findIdx? p = some k := by
  rw [List.findIdx?_eq_some_iff_getElem]
  obtain ⟨hk, rfl⟩ := List.getElem?_eq_some_iff.1 h
  refine ⟨hk, hp, fun j hj => ?_⟩
  have := hb l[j] (List.mem_iff_getElem.2 ⟨j, by simp; omega, by simp⟩)
  simp [this]
 unfold idxV; rw [this]
theorem idxV_none {α : Type} {p : α → Bool} {l : List α} (hb : ∀ y ∈ l, p y = false) : idxV p l = -1 := by
 have : l.findIdx? p = none := List.findIdx?_eq_none_iff.2 hb
 unfold idxV; rw [this]
theorem idxV_any {α : Type} {p : α → Bool} {l : List α} : decide (0 ≤ idxV p l) = l.any p := by
 unfold idxV
 cases h : l.findIdx? p with
 | some i =>
  obtain ⟨hi, hp, _⟩ := List.findIdx?_eq_some_iff_getElem.1 h
  have h2 : l.any p = true := List.any_eq_true.2 ⟨l[i], List.getElem_mem hi, hp⟩
  rw [h2]
  simp
 | none =>
  have := List.findIdx?_eq_none_iff.1 h
  have h2 : l.any p = false := by
   rw [Bool.eq_false_iff, Ne, List.any_eq_true]
   rintro ⟨x, hx, hp⟩
   rw [this x hx] at hp; cases hp
  rw [h2]
  rfl
theorem indexInt_calls (f : Nat) (caps : List Value) (p : Int → Bool) (A : Option Addr) (n c : Nat) (l : List Int) (w : World) (hr : RdS w 1 A n (l.map inCells)) (hn : n ≤ 1000000) (hc : ∀ (a : Array Value) (w : World), (callFunc f a).run Try.prog w = .ok (.enter f a) w)
  (hf : ∀ x ∈ l, ∀ w1, Ext w w1 → Calls Try.prog f ⟨.int .i64 x :: caps⟩ w1 fun e w' => e = .returned (.bool (p x)) ∧ Ext w1 w') :
  Calls Try.prog 76 #[.slice A n c, .func (.func f) #[] ⟨caps⟩] w fun e w' => e = .returned (.int .i64 (idxV p l)) ∧ Ext w w' := by
 have hl := hr.len
 simp only [List.length_map] at hl
 
 refine enterQ (c := cx w 19) Try.func76 rfl rfl rfl rfl ?_
 repeat' (first | (apply oq_fn; exact rfl; try first | exact trivial | (and_intros <;> omega)) | (with_reducible apply tl_nil) | ((with_reducible apply u_q); (iterate 4 exact rfl)) | (with_reducible apply t_seq) | (apply t_region; kernel_rfl) | (with_reducible apply t_block) | with_reducible apply q_thenN)
 apply t_loopK (ι := Nat) [0, 1, 7] (fun k => [(8, .int .i64 (k : Nat))]) (fun _ => []) (fun k => k ≤ n ∧ ∀ x ∈ l.take k, p x = false) (fun k => n - k) (0)
 (repeat (first | exact KeepF.nil | (apply KeepF.cons; exact rfl) | apply KeepF.skip))
 (repeat (first | exact FrSub.nil | (apply FrSub.cons; exact rfl)))
 (repeat (first | exact HpSub.refl _ | (apply HpSub.consE; (repeat (first | exact P0 | apply P1)); exact rfl) | exact HpSub.nil))
 ·exact ⟨by omega, by simp⟩
 rintro k ⟨hk, hkp⟩
 try simp only [List.cons_append, List.nil_append]
 by_cases hlt : k < n
 ·obtain ⟨b1, o1, x, rfl, _, hx, c0⟩ := in_read hr hlt
  have hfx := hf x (List.mem_of_getElem? hx)
  cases hpx : p x with
  | true =>
   rw [hpx] at hfx
   repeat' (first | (focus ((with_reducible apply oq_indexAddrN); (iterate 4 exact rfl); omega)) | (apply oq_fn; exact rfl; try first | exact trivial | (and_intros <;> omega)) | ((with_reducible apply oq_load); exact rfl; exact rfl) | ((with_reducible apply oq_call (k := f) (hc := hc)); exact rfl; exact rfl; exact fun D w1 hw1 => hfx w1 hw1.ext.ext) | (with_reducible apply tl_nil) | ((with_reducible apply u_q); (iterate 4 exact rfl)) | (apply Rd.old; (first | (with_reducible assumption) | exact c0 | exact c1 | exact c2 | exact c3 | exact c4 | exact c5 | exact c6 | exact c7 | exact c8 | exact d0 | exact d1 | exact d2 | exact d3 | exact d4 | exact d5); first | exact List.not_mem_nil | exact m0 | exact m1 | exact m2 | exact m3 | exact m4 | exact m5 | exact m6 | exact m7 | exact m8 | exact m9) | (with_reducible apply t_seq) | (apply t_region; kernel_rfl) | ((with_reducible apply t_condT); exact rfl) | ((with_reducible apply t_condD); exact rfl; all_goals first | (intro hp; try (exfalso; omega)) | skip) | (with_reducible apply t_ret) | (with_reducible apply t_skip) | (with_reducible apply t_block) | with_reducible apply q_thenN | with_reducible apply q_thenR | with_reducible apply q_blockR | (with_reducible apply end_ret) | exact rvs_nil | (with_reducible apply rvs_cons) | ((with_reducible apply rv_tmp); exact rfl))
   rw [idxV_some hx hpx hkp]; rfl
  | false =>
   rw [hpx] at hfx
   repeat' (first | (focus ((with_reducible apply oq_indexAddrN); (iterate 4 exact rfl); omega)) | (apply oq_fn; exact rfl; try first | exact trivial | (and_intros <;> omega)) | ((with_reducible apply oq_load); exact rfl; exact rfl) | ((with_reducible apply oq_call (k := f) (hc := hc)); exact rfl; exact rfl; exact fun D w1 hw1 => hfx w1 hw1.ext.ext) | (with_reducible apply tl_nil) | ((with_reducible apply u_q); (iterate 4 exact rfl)) | (apply Rd.old; (first | (with_reducible assumption) | exact c0 | exact c1 | exact c2 | exact c3 | exact c4 | exact c5 | exact c6 | exact c7 | exact c8 | exact d0 | exact d1 | exact d2 | exact d3 | exact d4 | exact d5); first | exact List.not_mem_nil | exact m0 | exact m1 | exact m2 | exact m3 | exact m4 | exact m5 | exact m6 | exact m7 | exact m8 | exact m9) | (with_reducible apply t_seq) | (apply t_region; kernel_rfl) | ((with_reducible apply t_condF); exact rfl) | ((with_reducible apply t_condD); exact rfl; all_goals first | (intro hp; try (exfalso; omega)) | skip) | (with_reducible apply t_skip) | (with_reducible apply t_block) | with_reducible apply q_thenN | with_reducible apply q_blockN)
   refine ⟨k + 1, ⟨by omega, fun y hy => ?_⟩, by omega, ?_, ?_⟩
   ·rw [List.take_add_one, hx, List.mem_append] at hy
    rcases hy with hy | hy
    ·exact hkp y hy
    ·obtain rfl : y = x := by simpa using hy
     exact hpx
   ·try simp only [List.cons_append, List.nil_append]
    (repeat (first | exact FrSub.nil | (apply FrSub.cons; exact rfl)))
   ·try simp only [List.cons_append, List.nil_append]
    (repeat (first | exact HpSub.refl _ | (apply HpSub.consE; (repeat (first | exact P0 | apply P1)); exact rfl) | exact HpSub.nil))
 ·repeat' (first | (apply oq_fn; exact rfl; try first | exact trivial | (and_intros <;> omega)) | (with_reducible apply tl_nil) | ((with_reducible apply u_q); (iterate 4 exact rfl)) | (with_reducible apply t_seq) | (apply t_region; kernel_rfl) | ((with_reducible apply t_condD); exact rfl; all_goals first | (intro hp; try (exfalso; omega)) | skip) | (with_reducible apply t_ret) | (with_reducible apply t_exit) | with_reducible apply q_thenN | with_reducible apply q_thenE | ((with_reducible apply q_blockE); exact rfl) | (with_reducible apply end_ret) | exact rvs_nil | (with_reducible apply rvs_cons) | ((with_reducible apply rv_tmp); exact rfl))
  rw [idxV_none (fun y hy => hkp y (by rw [List.take_of_length_le (by omega)]; exact hy))]; rfl
theorem containsInt_calls (f : Nat) (caps : List Value) (p : Int → Bool) (A : Option Addr) (n c : Nat) (l : List Int) (w : World) (hr : RdS w 1 A n (l.map inCells)) (hn : n ≤ 1000000) (hc : ∀ (a : Array Value) (w : World), (callFunc f a).run Try.prog w = .ok (.enter f a) w)
  (hf : ∀ x ∈ l, ∀ w1, Ext w w1 → Calls Try.prog f ⟨.int .i64 x :: caps⟩ w1 fun e w' => e = .returned (.bool (p x)) ∧ Ext w1 w') : Calls Try.prog 96 #[.slice A n c, .func (.func f) #[] ⟨caps⟩] w fun e w' => e = .returned (.bool (l.any p)) ∧ Ext w w' := by
 
 refine enterQ (c := cx w 9) Try.func96 rfl rfl rfl rfl ?_
 repeat' (first | (apply oq_fn; exact rfl; try first | exact trivial | (and_intros <;> omega)) | ((with_reducible apply oq_call (k := 76) (hc := Try.call76)); exact rfl; exact rfl; exact fun D w1 hw1 => indexInt_calls f caps p A n c l w1 (hr.ext hw1.ext.ext) hn hc (fun x hx w2 h2 => hf x hx w2 (hw1.ext.ext.trans h2))) | (with_reducible apply tl_nil) | ((with_reducible apply u_q); (iterate 4 exact rfl)) | (with_reducible apply t_seq) | (apply t_region; kernel_rfl) | (with_reducible apply t_ret) | with_reducible apply q_thenN | (with_reducible apply end_ret) | exact rvs_nil | (with_reducible apply rvs_cons) | ((with_reducible apply rv_tmp); exact rfl))
 all_goals (rw [← idxV_any]; rfl)
theorem indexOf_calls (z : Int) (A : Option Addr) (n c : Nat) (l : List Int) (w : World) (hr : RdS w 1 A n (l.map inCells)) (hn : n ≤ 1000000)  :
  Calls Try.prog 102 #[.slice A n c, .int .i64 z] w fun e w' => e = .returned (.int .i64 (idxV (fun x => decide (z = x)) l)) ∧ Ext w w' := by
 have hl := hr.len
 simp only [List.length_map] at hl
 
 refine enterQ (c := cx w 19) Try.func102 rfl rfl rfl rfl ?_
 repeat' (first | (apply oq_fn; exact rfl; try first | exact trivial | (and_intros <;> omega)) | (with_reducible apply tl_nil) | ((with_reducible apply u_q); (iterate 4 exact rfl)) | (with_reducible apply t_seq) | (apply t_region; kernel_rfl) | (with_reducible apply t_block) | with_reducible apply q_thenN)
 apply t_loopK (ι := Nat) [0, 1, 7] (fun k => [(8, .int .i64 (k : Nat))]) (fun _ => []) (fun k => k ≤ n ∧ ∀ x ∈ l.take k, (fun x => decide (z = x)) x = false) (fun k => n - k) (0)
 (repeat (first | exact KeepF.nil | (apply KeepF.cons; exact rfl) | apply KeepF.skip))
 (repeat (first | exact FrSub.nil | (apply FrSub.cons; exact rfl)))
 (repeat (first | exact HpSub.refl _ | (apply HpSub.consE; (repeat (first | exact P0 | apply P1)); exact rfl) | exact HpSub.nil))
 ·exact ⟨by omega, by simp⟩
 rintro k ⟨hk, hkp⟩
 try simp only [List.cons_append, List.nil_append]
 by_cases hlt : k < n
 ·obtain ⟨b1, o1, x, rfl, _, hx, c0⟩ := in_read hr hlt
  
  cases hpx : (fun x => decide (z = x)) x with
  | true =>
   have hpe := hpx; simp only [decide_eq_true_eq, decide_eq_false_iff_not] at hpe
   repeat' (first | (focus ((with_reducible apply oq_indexAddrN); (iterate 4 exact rfl); omega)) | (apply oq_fn; exact rfl; try first | exact trivial | (and_intros <;> omega)) | ((with_reducible apply oq_load); exact rfl; exact rfl) | (with_reducible apply tl_nil) | ((with_reducible apply u_q); (iterate 4 exact rfl)) | (apply Rd.old; (first | (with_reducible assumption) | exact c0 | exact c1 | exact c2 | exact c3 | exact c4 | exact c5 | exact c6 | exact c7 | exact c8 | exact d0 | exact d1 | exact d2 | exact d3 | exact d4 | exact d5); first | exact List.not_mem_nil | exact m0 | exact m1 | exact m2 | exact m3 | exact m4 | exact m5 | exact m6 | exact m7 | exact m8 | exact m9) | (with_reducible apply t_seq) | (apply t_region; kernel_rfl) | ((with_reducible apply t_condD); exact rfl; all_goals first | (intro hp; try (exfalso; omega)) | skip) | (with_reducible apply t_ret) | (with_reducible apply t_skip) | (with_reducible apply t_block) | with_reducible apply q_thenN | with_reducible apply q_thenR | with_reducible apply q_blockR | (with_reducible apply end_ret) | exact rvs_nil | (with_reducible apply rvs_cons) | ((with_reducible apply rv_tmp); exact rfl))
   rw [idxV_some hx hpx hkp]; rfl
  | false =>
   have hpe := hpx; simp only [decide_eq_true_eq, decide_eq_false_iff_not] at hpe
   repeat' (first | (focus ((with_reducible apply oq_indexAddrN); (iterate 4 exact rfl); omega)) | (apply oq_fn; exact rfl; try first | exact trivial | (and_intros <;> omega)) | ((with_reducible apply oq_load); exact rfl; exact rfl) | (with_reducible apply tl_nil) | ((with_reducible apply u_q); (iterate 4 exact rfl)) | (apply Rd.old; (first | (with_reducible assumption) | exact c0 | exact c1 | exact c2 | exact c3 | exact c4 | exact c5 | exact c6 | exact c7 | exact c8 | exact d0 | exact d1 | exact d2 | exact d3 | exact d4 | exact d5); first | exact List.not_mem_nil | exact m0 | exact m1 | exact m2 | exact m3 | exact m4 | exact m5 | exact m6 | exact m7 | exact m8 | exact m9) | (with_reducible apply t_seq) | (apply t_region; kernel_rfl) | ((with_reducible apply t_condD); exact rfl; all_goals first | (intro hp; try (exfalso; omega)) | skip) | (with_reducible apply t_skip) | (with_reducible apply t_block) | with_reducible apply q_thenN | with_reducible apply q_blockN)
   refine ⟨k + 1, ⟨by omega, fun y hy => ?_⟩, by omega, ?_, ?_⟩
   ·rw [List.take_add_one, hx, List.mem_append] at hy
    rcases hy with hy | hy
    ·exact hkp y hy
    ·obtain rfl : y = x := by simpa using hy
     exact hpx
   ·try simp only [List.cons_append, List.nil_append]
    (repeat (first | exact FrSub.nil | (apply FrSub.cons; exact rfl)))
   ·try simp only [List.cons_append, List.nil_append]
    (repeat (first | exact HpSub.refl _ | (apply HpSub.consE; (repeat (first | exact P0 | apply P1)); exact rfl) | exact HpSub.nil))
 ·repeat' (first | (apply oq_fn; exact rfl; try first | exact trivial | (and_intros <;> omega)) | (with_reducible apply tl_nil) | ((with_reducible apply u_q); (iterate 4 exact rfl)) | (with_reducible apply t_seq) | (apply t_region; kernel_rfl) | ((with_reducible apply t_condD); exact rfl; all_goals first | (intro hp; try (exfalso; omega)) | skip) | (with_reducible apply t_ret) | (with_reducible apply t_exit) | with_reducible apply q_thenN | with_reducible apply q_thenE | ((with_reducible apply q_blockE); exact rfl) | (with_reducible apply end_ret) | exact rvs_nil | (with_reducible apply rvs_cons) | ((with_reducible apply rv_tmp); exact rfl))
  rw [idxV_none (fun y hy => hkp y (by rw [List.take_of_length_le (by omega)]; exact hy))]; rfl
theorem containsOf_calls (z : Int) (A : Option Addr) (n c : Nat) (l : List Int) (w : World) (hr : RdS w 1 A n (l.map inCells)) (hn : n ≤ 1000000) : Calls Try.prog 72 #[.slice A n c, .int .i64 z] w fun e w' => e = .returned (.bool (l.any fun x => decide (z = x))) ∧ Ext w w' := by
 
 refine enterQ (c := cx w 9) Try.func72 rfl rfl rfl rfl ?_
 repeat' (first | (apply oq_fn; exact rfl; try first | exact trivial | (and_intros <;> omega)) | ((with_reducible apply oq_call (k := 102) (hc := Try.call102)); exact rfl; exact rfl; exact fun D w1 hw1 => indexOf_calls z A n c l w1 (hr.ext hw1.ext.ext) hn) | (with_reducible apply tl_nil) | ((with_reducible apply u_q); (iterate 4 exact rfl)) | (with_reducible apply t_seq) | (apply t_region; kernel_rfl) | (with_reducible apply t_ret) | with_reducible apply q_thenN | (with_reducible apply end_ret) | exact rvs_nil | (with_reducible apply rvs_cons) | ((with_reducible apply rv_tmp); exact rfl))
 all_goals (rw [← idxV_any]; rfl)
def allFrom (lo hi : Int) (l : List Int) : Bool := l.all fun z => decide (lo ≤ z) && decide (z ≤ hi)
def outOf (lo hi : Int) (z : Int) : Bool := decide (z < lo) || decide (hi < z)
theorem allFrom_any (lo hi : Int) (l : List Int) : (!(l.any (outOf lo hi))) = allFrom lo hi l := by
 unfold allFrom
 induction l with
 | nil => rfl
 | cons z l ih =>
  simp only [List.any_cons, List.all_cons, Bool.not_or, ih]
  congr 1
  unfold outOf
  by_cases h1 : z < lo <;> by_cases h2 : hi < z <;> simp [h1, h2, Int.not_le.2, Int.not_lt.1] <;> omega
theorem from1_calls (b1 b2 : Nat) (lo hi z : Int) (w : World) (c0 : w.cell? ⟨b1, 0, none⟩ = some (.int .i64 lo)) (c1 : w.cell? ⟨b2, 0, none⟩ = some (.int .i64 hi)) :
  Calls Try.prog 97 #[.int .i64 z, .pointer (some ⟨b1, 0, none⟩), .pointer (some ⟨b2, 0, none⟩)] w fun e w' => e = .returned (.bool (outOf lo hi z)) ∧ Ext w w' := by
 refine enterQ (c := cx w 13) Try.func97 rfl rfl rfl rfl ?_
 repeat' (first | (apply oq_fn; exact rfl; try first | exact trivial | (and_intros <;> omega)) | ((with_reducible apply oq_load); exact rfl; exact rfl) | (with_reducible apply tl_nil) | ((with_reducible apply u_q); (iterate 4 exact rfl)) | ((with_reducible apply u_skip); (iterate 3 exact rfl)) | ((with_reducible apply u_splitD); exact rfl; exact rfl; all_goals first | (intro hp; try (exfalso; omega)) | skip) | (apply Rd.old; (first | (with_reducible assumption) | exact c0 | exact c1 | exact c2 | exact c3 | exact c4 | exact c5 | exact c6 | exact c7 | exact c8 | exact d0 | exact d1 | exact d2 | exact d3 | exact d4 | exact d5); first | exact List.not_mem_nil | exact m0 | exact m1 | exact m2 | exact m3 | exact m4 | exact m5 | exact m6 | exact m7 | exact m8 | exact m9) | (with_reducible apply t_seq) | (apply t_region; kernel_rfl) | (with_reducible apply t_ret) | with_reducible apply q_thenN | (with_reducible apply end_ret) | exact rvs_nil | (with_reducible apply rvs_cons) | ((with_reducible apply rv_tmp); exact rfl))
 all_goals (unfold outOf; first | (rw [decide_eq_true hp]; rfl) | (rw [decide_eq_false hp]; rfl))
theorem from_calls (lo hi : Int) (A : Option Addr) (n c : Nat) (l : List Int) (w : World) (hr : RdS w 1 A n (l.map inCells)) (hn : n ≤ 1000000) :
  Calls Try.prog 63 #[.int .i64 lo, .int .i64 hi, .slice A n c] w fun e w' => e = .returned (.bool (allFrom lo hi l)) ∧ Ext w w' := by
 refine enterQ (c := cx w 11) Try.func63 rfl rfl rfl rfl ?_
 repeat' (first | (apply oq_fn; exact rfl; try first | exact trivial | (and_intros <;> omega)) | ((with_reducible apply oq_call (k := 96) (hc := Try.call96)); exact rfl; exact rfl; exact fun D w1 hw1 => containsInt_calls 97 [.pointer (some ⟨_, 0, none⟩), .pointer (some ⟨_, 0, none⟩)] (outOf lo hi) A n c l w1 (hr.ext hw1.ext.ext) hn Try.call97 (fun x hx w2 h2 => from1_calls _ _ lo hi x w2 (h2.cell (hw1.cellAt (by (repeat (first | exact P0 | apply P1))) rfl)) (h2.cell (hw1.cellAt (by (repeat (first | exact P0 | apply P1))) rfl)))) | (with_reducible apply tl_nil) | ((with_reducible apply u_q); (iterate 4 exact rfl)) | ((with_reducible apply u_s); (iterate 3 exact rfl)) | ((with_reducible apply os_x); exact rfl) | ((with_reducible apply ox_box); exact rfl; exact rfl; intro _) | (with_reducible apply t_seq) | (apply t_region; kernel_rfl) | (with_reducible apply t_ret) | with_reducible apply q_thenN | (with_reducible apply end_ret) | exact rvs_nil | (with_reducible apply rvs_cons) | ((with_reducible apply rv_tmp); exact rfl))
 all_goals (rw [← allFrom_any]; rfl)
end Go.Proofs.Ytmlmgipngbndgaa
namespace Go.Proofs.Ytmlmgipngbndgaa
open Go.RowKit
def iv (z : Int) : Value := .int .i64 z
theorem iv_flat (l : List Int) : (l.map inCells).flatten = l.map iv := by
 induction l with
 | nil => rfl
 | cons z l ih => simp [inCells, iv] at ih ⊢; exact ih
theorem int_rows {w0 : World} {M : Ms} {H H' : Hp} {w : World} {g n : Nat} {l : List Int} {tg : Tg} (hl : l.length = n) (h : Has w0 M H w) (q : Pick H g (l.map iv) tg H') : RdS w 1 (some ⟨g, 0, none⟩) n (l.map inCells) :=
 Blk.rows (by rw [iv_flat]; exact (h.blk _ q.mem).2) (by simpa using hl) (by simp only [List.mem_map]; rintro r ⟨x, _, rfl⟩; rfl)
section
variable {c : Cx} {F : Fr} {H H' : Hp} {K : Value → Hp → Prop} {d : Option Tmp} {ty : TypeId} {pos : String} {af : Array Edge} {gd : Option (Nat × Bool)} {t : TypeId} {x y : Operand} {a0 : Bool} {z0 : List Value} {k0 : TyK} {g k : Nat} {tg : Tg} {row A : List Int} {B : List Value} {z u : Int}
theorem mid_at (h : A.length = k) : (A.map iv ++ Value.int .i64 z :: B)[0 + k * 1]? = some (Value.int .i64 z) := by
 rw [Nat.zero_add, Nat.mul_one, ← h]
 simp
theorem mid_set (h : A.length = k) : (A.map iv ++ Value.int .i64 z :: B).set (0 + k * 1) (Value.int .i64 u) = A.map iv ++ Value.int .i64 u :: B := by
 rw [Nat.zero_add, Nat.mul_one, ← h]
 rw [List.set_append_right _ _ (by simp)]
 simp
theorem rdM (h : A.length = k) (p : Pick H g (A.map iv ++ Value.int .i64 z :: B) tg H') : Rd c H ⟨g, 0 + k * 1, none⟩ (.int .i64 z) := Rd.own p (mid_at h)
theorem os_storeM (h : A.length = k) (ht : tyAt c.tys t = some ⟨a0, 1, z0, k0⟩) (hx : ev F x = some (.pointer (some ⟨g, 0 + k * 1, none⟩))) (hy : ev F y = some (.int .i64 u)) (hp : Pick H g (A.map iv ++ Value.int .i64 z :: B) tg H')
  (kk : K undef ((g, A.map iv ++ Value.int .i64 u :: B, tg) :: H')) : OS c ⟨d, .store t x y, ty, pos, af, gd⟩ F H K :=
 store_gen (vs := [.int .i64 u]) ht hx hy rfl rfl (by simp [Value.oneCell']) hp (by simp; omega) (by
  have e : setL (A.map iv ++ Value.int .i64 z :: B) (0 + k * 1) [Value.int .i64 u] = A.map iv ++ Value.int .i64 u :: B := by simp only [setL]; exact mid_set h
  rw [e]; exact kk)
theorem os_storeI (h : k < row.length) (ht : tyAt c.tys t = some ⟨a0, 1, z0, k0⟩) (hx : ev F x = some (.pointer (some ⟨g, 0 + k * 1, none⟩))) (hy : ev F y = some (.int .i64 u)) (hp : Pick H g (row.map iv) tg H')
  (kk : K undef ((g, (row.set k u).map iv, tg) :: H')) : OS c ⟨d, .store t x y, ty, pos, af, gd⟩ F H K :=
 store_gen (vs := [.int .i64 u]) ht hx hy rfl rfl (by simp [Value.oneCell']) hp (by simp; omega) (by
  have e : setL (row.map iv) (0 + k * 1) [Value.int .i64 u] = (row.set k u).map iv := by simp only [setL]; rw [Nat.zero_add, Nat.mul_one, List.map_set]; rfl
  rw [e]; exact kk)
theorem ox_makeI {n : Nat} {tt : TypeId} {bytes : Nat} (hk : AppOk c.P tt 3 1 bytes) (hz : (c.P.info? 3).map (fun i => i.zero) = some (some (.int .i64 0)))
  (hx : ev F x = some (.int .i64 (n : Int))) (hy : ev F y = some (.int .i64 (n : Int))) (hb : bytes * n ≤ 281474976710656) (hn : n ≤ maxLen) (k : ∀ b, K (.slice (some ⟨b, 0, none⟩) n n) ((b, List.replicate n (Value.int .i64 0), some (3, 1, n)) :: H)) : OX c ⟨d, .makeSlice tt x y, ty, pos, af, gd⟩ F H K := by
 refine ox_make (zs := [.int .i64 0]) hk hz rfl rfl hx hy hb hn fun b => ?_
 have e : (List.replicate n [Value.int .i64 0]).flatten = List.replicate n (Value.int .i64 0) := by simp
 rw [e]
 exact k b
theorem os_makeI {n : Nat} {tt : TypeId} {bytes : Nat} (hk : AppOk c.P tt 3 1 bytes) (hz : (c.P.info? 3).map (fun i => i.zero) = some (some (.int .i64 0)))
  (hx : ev F x = some (.int .i64 (n : Int))) (hy : ev F y = some (.int .i64 (n : Int))) (hb : bytes * n ≤ 281474976710656) (hn : n ≤ maxLen) (k : ∀ b, K (.slice (some ⟨b, 0, none⟩) n n) ((b, List.replicate n (Value.int .i64 0), some (3, 1, n)) :: H)) : OS c ⟨d, .makeSlice tt x y, ty, pos, af, gd⟩ F H K := .ofX (ox_makeI hk hz hx hy hb hn k)
end
end Go.Proofs.Ytmlmgipngbndgaa
namespace Go.Proofs.Ytmlmgipngbndgaa
structure Dep where
 seats : Int
 price : Int
 leaves : Int
 state : Int
structure Bk where
 flight : Int
 state : Int
 kept : Int
def depCells (x : Dep) : List Value := [.int .i64 x.seats, .int .i64 x.price, .int .i64 x.leaves, .int .u8 x.state]
def bkCells (x : Bk) : List Value := [.int .i64 x.flight, .int .u8 x.state, .int .i64 x.kept]
theorem dep_read {w : World} {A : Option Addr} {n : Nat} {l : List Dep} (h : RdS w 4 A n (l.map depCells)) {i : Nat} (hi : i < n) :
  ∃ b o x, A = some ⟨b, o, none⟩ ∧ b < w.heap.size ∧ l[i]? = some x ∧ w.cell? ⟨b, o + i * 4, none⟩ = some (.int .i64 x.seats) ∧ w.cell? ⟨b, o + i * 4 + 1, none⟩ = some (.int .i64 x.price) ∧ w.cell? ⟨b, o + i * 4 + 2, none⟩ = some (.int .i64 x.leaves) ∧ w.cell? ⟨b, o + i * 4 + 3, none⟩ = some (.int .u8 x.state) := by
 obtain ⟨b, o, cs, hA, hb, hx, _, hc⟩ := h.row hi
 simp only [List.getElem?_map, Option.map_eq_some_iff] at hx
 obtain ⟨x, hx, rfl⟩ := hx
 exact ⟨b, o, x, hA, hb, hx, hc 0 _ rfl, hc 1 _ rfl, hc 2 _ rfl, hc 3 _ rfl⟩
theorem bk_read {w : World} {A : Option Addr} {n : Nat} {l : List Bk} (h : RdS w 3 A n (l.map bkCells)) {i : Nat} (hi : i < n) :
  ∃ b o x, A = some ⟨b, o, none⟩ ∧ b < w.heap.size ∧ l[i]? = some x ∧ w.cell? ⟨b, o + i * 3, none⟩ = some (.int .i64 x.flight) ∧ w.cell? ⟨b, o + i * 3 + 1, none⟩ = some (.int .u8 x.state) ∧ w.cell? ⟨b, o + i * 3 + 2, none⟩ = some (.int .i64 x.kept) := by
 obtain ⟨b, o, cs, hA, hb, hx, _, hc⟩ := h.row hi
 simp only [List.getElem?_map, Option.map_eq_some_iff] at hx
 obtain ⟨x, hx, rfl⟩ := hx
 exact ⟨b, o, x, hA, hb, hx, hc 0 _ rfl, hc 1 _ rfl, hc 2 _ rfl⟩
def depOk (x : Dep) : Bool := decide (0 ≤ x.seats) && decide (x.seats ≤ 50) && (decide (0 ≤ x.price) && decide (x.price ≤ 1000000)) && (decide (0 ≤ x.leaves) && decide (x.leaves ≤ 1000000)) && decide (x.state ≤ 2)
/-- Is a booking of a departure, and in a state? -/
def isB (f s : Int) (x : Bk) : Bool := decide (x.flight = f) && decide (x.state = s)
def manyTo (bk : List Bk) (f s : Int) (k : Nat) : Int := (((bk.take k).filter (isB f s)).length : Nat)
def manyV (bk : List Bk) (f s : Int) : Int := ((bk.filter (isB f s)).length : Nat)
theorem many_all {bk : List Bk} {f s : Int} {k : Nat} (h : bk.length ≤ k) : manyTo bk f s k = manyV bk f s := by
 unfold manyTo manyV
 rw [List.take_of_length_le h]
theorem many_in (bk : List Bk) (f s : Int) (k : Nat) : 0 ≤ manyTo bk f s k ∧ manyTo bk f s k ≤ (k : Int) := by
 unfold manyTo
 have h1 := List.length_filter_le (isB f s) (bk.take k)
 have h2 := List.length_take_le k bk
 omega
/-- What may be kept of the price of a departure. -/
def feeV (price fee : Int) : Int := (price * fee).tdiv 100
theorem fee_in {price fee : Int} (h1 : 0 ≤ price ∧ price ≤ 1000000) (h2 : 0 ≤ fee ∧ fee ≤ 100) : 0 ≤ price * fee ∧ price * fee ≤ 1000000 * 100 ∧ 0 ≤ feeV price fee ∧ feeV price fee ≤ 1000000 := by
 have a := Int.mul_nonneg h1.1 h2.1
 have b := Int.mul_le_mul h1.2 h2.2 h2.1 (by omega)
 unfold feeV
 rw [Int.tdiv_eq_ediv_of_nonneg a]
 omega
/-- May a booking of a departure in state g be in state s? -/
def fitB (g s : Int) : Bool := (decide (g = 0) && (decide (s = 1) || decide (s = 2))) || (decide (g = 1) && decide (s = 3))
def bookedB (fl : List Dep) (fee : Int) (x : Bk) : Bool :=
 if 0 ≤ x.flight ∧ x.flight < (fl.length : Int) then
  match fl[x.flight.toNat]? with
  | none => false
  | some d => if x.state = 4 then decide (0 ≤ x.kept) && decide (x.kept ≤ feeV d.price fee) else fitB d.state x.state && decide (x.kept = 0)
 else false
def prc (fl : List Dep) (x : Bk) : Int := match fl[x.flight.toNat]? with | some d => d.price | none => 0
structure Sum4 where
 held : Int
 earned : Int
 kept : Int
 back : Int
def addB (fl : List Dep) (p : Sum4) (x : Bk) : Sum4 :=
 if x.state = 1 ∨ x.state = 2 then ⟨p.held + prc fl x, p.earned, p.kept, p.back⟩
 else if x.state = 3 then ⟨p.held, p.earned + prc fl x, p.kept, p.back⟩
 else if x.state = 4 then ⟨p.held, p.earned, p.kept + x.kept, p.back + (prc fl x - x.kept)⟩
 else p
def sumsTo (fl : List Dep) (bk : List Bk) (k : Nat) : Sum4 := (bk.take k).foldl (addB fl) ⟨0, 0, 0, 0⟩
def sumsV (fl : List Dep) (bk : List Bk) : Sum4 := bk.foldl (addB fl) ⟨0, 0, 0, 0⟩
theorem sums_succ {fl : List Dep} {bk : List Bk} {k : Nat} {x : Bk} (h : bk[k]? = some x) : sumsTo fl bk (k + 1) = addB fl (sumsTo fl bk k) x := by
 unfold sumsTo
 rw [List.take_add_one, h, List.foldl_append]
 rfl
theorem sums_all {fl : List Dep} {bk : List Bk} {k : Nat} (h : bk.length ≤ k) : sumsTo fl bk k = sumsV fl bk := by
 unfold sumsTo sumsV
 rw [List.take_of_length_le h]
/-- Are the seats of a departure given as they have to be? -/
def seatB (fl : List Dep) (bk : List Bk) (i : Nat) : Bool := match fl[i]? with
 | none => true
 | some d => let s := manyV bk i 1 + manyV bk i 3
  decide (s ≤ d.seats) && (decide (s = d.seats) || decide (manyV bk i 2 ≤ 0))
structure Off where
 now : Int
 notice : Int
 fee : Int
 inn : Int
 out : Int
 fl : List Dep
 bk : List Bk
def headB (o : Off) : Bool := decide (0 ≤ o.now ∧ o.now ≤ 1000000 ∧ 0 ≤ o.notice ∧ o.notice ≤ 1000000 ∧ 0 ≤ o.fee ∧ o.fee ≤ 100 ∧ o.fl.length ≤ 10 ∧ o.bk.length ≤ 120)
def moneyB (o : Off) : Bool := decide (o.inn = (sumsV o.fl o.bk).held + (sumsV o.fl o.bk).earned + (sumsV o.fl o.bk).kept + (sumsV o.fl o.bk).back) && decide (o.out = (sumsV o.fl o.bk).back)
/-- Is an office valid? -/
def officeB (o : Off) : Bool := headB o && (o.fl.all depOk && (o.bk.all (bookedB o.fl o.fee) && ((List.range o.fl.length).all (seatB o.fl o.bk) && moneyB o)))
def offCells (o : Off) (A : Option Addr) (cf : Nat) (B : Option Addr) (cb : Nat) : List Value := [.int .i64 o.now, .int .i64 o.notice, .int .i64 o.fee, .slice A o.fl.length cf, .slice B o.bk.length cb, .int .i64 o.inn, .int .i64 o.out]
def careOk (ev gr du : Int) : Bool := decide (1 ≤ ev ∧ ev ≤ 100000 ∧ 0 ≤ gr ∧ gr ≤ 100000 ∧ -gr ≤ du ∧ du ≤ 100000)
def careE (ev gr du : Int) : Int := if careOk ev gr du then 0 else 82
theorem careOk_all (ev gr du : Int) : (allFrom 1 100000 [ev] && (allFrom 0 100000 [gr] && allFrom (-gr) 100000 [du])) = careOk ev gr du := by
 unfold careOk allFrom
 rw [Bool.eq_iff_iff]
 simp
 omega
/-- The error of care and flights. -/
def caredE (ev gr du : Int) (fs : List Int) : Int := if careOk ev gr du then (if 60 < fs.length then 4 else if allFrom 1 10000 fs then 0 else 2) else 82
theorem cared_ok {ev gr du : Int} {fs : List Int} (h : caredE ev gr du fs = 0) : 1 ≤ ev ∧ ev ≤ 100000 ∧ 0 ≤ gr ∧ gr ≤ 100000 ∧ -gr ≤ du ∧ du ≤ 100000 ∧ fs.length ≤ 60 ∧ ∀ f ∈ fs, 1 ≤ f ∧ f ≤ 10000 := by
 unfold caredE at h
 by_cases h1 : careOk ev gr du = true
 ·rw [if_pos h1] at h
  by_cases h2 : 60 < fs.length
  ·rw [if_pos h2] at h; cases h
  ·rw [if_neg h2] at h
   by_cases h3 : allFrom 1 10000 fs = true
   ·unfold careOk at h1
    simp only [decide_eq_true_eq] at h1
    refine ⟨h1.1, h1.2.1, h1.2.2.1, h1.2.2.2.1, h1.2.2.2.2.1, h1.2.2.2.2.2, by omega, fun f hf => ?_⟩
    unfold allFrom at h3
    have := List.all_eq_true.1 h3 f hf
    simpa using this
   ·rw [if_neg h3] at h; cases h
 ·rw [if_neg h1] at h; cases h
/-- Is the j-th number of a plan for n flights as it has to be? -/
def plAt (n : Nat) (pl : List Int) (j : Nat) : Bool := match pl[j]? with
 | none => true
 | some x => decide (0 ≤ x) && decide (x < n) && (decide (j = 0) || match pl[j - 1]? with | some y => decide (y < x) | none => true)
def planB (n : Nat) (pl : List Int) : Bool := (List.range pl.length).all (plAt n pl)
theorem planB_no {n : Nat} {pl : List Int} {j : Nat} (hj : j < pl.length) (h : plAt n pl j = false) : planB n pl = false := by
 unfold planB
 rw [Bool.eq_false_iff, Ne, List.all_eq_true]
 intro h2
 rw [h2 j (List.mem_range.2 hj)] at h; cases h
theorem planB_yes {n : Nat} {pl : List Int} (h : ∀ j, j < pl.length → plAt n pl j = true) : planB n pl = true := by
 unfold planB
 rw [List.all_eq_true]
 exact fun j hj => h j (List.mem_range.1 hj)
/-- Is there an inspection before flight i? -/
def inPl (pl : List Int) (i : Nat) : Bool := pl.any fun x => decide ((i : Int) = x)
/-- What is left after a flight. -/
def stp (ev : Int) (ins : Bool) (left f : Int) : Int := (if ins then min left 0 + ev else left) - f
/-- What is left before flight k. -/
def leftK (ev du : Int) (fs pl : List Int) : Nat → Int
 | 0 => du
 | k + 1 => stp ev (inPl pl k) (leftK ev du fs pl k) (fs[k]?.getD 0)
def lateAt (ev gr du : Int) (fs pl : List Int) (k : Nat) : Bool := decide (leftK ev du fs pl (k + 1) < -gr)
/-- What Late returns: what is left, the flight, the error. -/
def lateV (ev gr du : Int) (fs pl : List Int) : Int × Int × Int := match (List.range fs.length).find? (lateAt ev gr du fs pl) with
 | some k => (0, (k : Int), 83)
 | none => (leftK ev du fs pl fs.length, 0, 0)
def lateS (ev gr du : Int) (fs pl : List Int) : Int × Int × Int :=
 if caredE ev gr du fs = 0 then (if planB fs.length pl then lateV ev gr du fs pl else (0, 0, 2)) else (0, 0, caredE ev gr du fs)
theorem lateV_at {ev gr du : Int} {fs pl : List Int} {k : Nat} (hk : k < fs.length) (h : lateAt ev gr du fs pl k = true) (hb : ∀ j, j < k → lateAt ev gr du fs pl j = false) : lateV ev gr du fs pl = (0, (k : Int), 83) := by
 have : (List.range fs.length).find? (lateAt ev gr du fs pl) = some k := by
  rw [List.find?_range_eq_some]
  exact ⟨h, by simpa using hk, fun j hj => by rw [hb j hj]; rfl⟩
 unfold lateV
 rw [this]
theorem lateV_no {ev gr du : Int} {fs pl : List Int} (hb : ∀ j, j < fs.length → lateAt ev gr du fs pl j = false) : lateV ev gr du fs pl = (leftK ev du fs pl fs.length, 0, 0) := by
 have : (List.range fs.length).find? (lateAt ev gr du fs pl) = none := by
  rw [List.find?_eq_none]
  intro j hj
  rw [hb j (List.mem_range.1 hj)]; simp
 unfold lateV
 rw [this]
theorem leftK_in {ev gr du : Int} {fs pl : List Int} (h : caredE ev gr du fs = 0) : ∀ {k : Nat}, k ≤ fs.length → (∀ j, j < k → lateAt ev gr du fs pl j = false) → -100000 ≤ leftK ev du fs pl k ∧ leftK ev du fs pl k ≤ 100000 := by
 obtain ⟨e1, e2, g1, g2, d1, d2, _, hf⟩ := cared_ok h
 intro k
 induction k with
 | zero => intro _ _; unfold leftK; omega
 | succ k ih =>
  intro hk hb
  have h1 := ih (by omega) fun j hj => hb j (by omega)
  have h2 := hb k (by omega)
  unfold lateAt at h2
  simp only [decide_eq_false_iff_not] at h2
  have hx : fs[k]? = some fs[k] := List.getElem?_eq_getElem (by omega)
  have h3 := hf fs[k] (List.getElem_mem (by omega))
  refine ⟨by omega, ?_⟩
  unfold leftK stp
  rw [hx]
  simp only [Option.getD_some]
  split <;> omega
end Go.Proofs.Ytmlmgipngbndgaa
namespace Go.Proofs.Ytmlmgipngbndgaa
open Go.RowKit
attribute [local irreducible] OQ OS OX Rd T TL GX GL AL AI RV wpG SAny Calls
theorem one_rows {w0 : World} {M : Ms} {H H' : Hp} {w : World} {g : Nat} {z : Int} {tg : Tg} (h : Has w0 M H w) (q : Pick H g [.int .i64 z] tg H') : RdS w 1 (some ⟨g, 0, none⟩) 1 ([z].map inCells) :=
 Blk.rows (h.blk _ q.mem).2 rfl (by simp [inCells])
theorem fromOne {w0 : World} {M : Ms} {H H' : Hp} {w : World} {g : Nat} {lo hi z : Int} {tg : Tg} {cp : Nat} {q : Bool} (hq : allFrom lo hi [z] = q) (h : Has w0 M H w) (p : Pick H g [.int .i64 z] tg H') :
  Calls Try.prog 63 #[.int .i64 lo, .int .i64 hi, .slice (some ⟨g, 0, none⟩) 1 cp] w fun e w' => e = .returned (.bool q) ∧ Ext w w' :=
 hq ▸ from_calls lo hi (some ⟨g, 0, none⟩) 1 cp [z] w (one_rows h p) (by omega)
theorem checkCare_calls (ev gr du : Int) (w : World) : Calls Try.prog 30 #[.agg #[.int .i64 ev, .int .i64 gr, .int .i64 du]] w fun e w' => e = .returned (.int .i64 (careE ev gr du)) ∧ Ext w w' := by
 obtain ⟨q1, h1⟩ : ∃ q, allFrom 1 100000 [ev] = q := ⟨_, rfl⟩
 obtain ⟨q2, h2⟩ : ∃ q, allFrom 0 100000 [gr] = q := ⟨_, rfl⟩
 obtain ⟨q3, h3⟩ : ∃ q, allFrom (-gr) 100000 [du] = q := ⟨_, rfl⟩
 have key := careOk_all ev gr du
 rw [h1, h2, h3] at key
 unfold careE
 rw [← key]
 cases q2 with
 | false =>
  refine enterQ (c := cx w 25) Try.func30 rfl rfl rfl rfl ?_
  repeat' (first | (apply oq_fn; exact rfl; try first | exact trivial | (and_intros <;> omega)) | ((with_reducible apply oq_load); exact rfl; exact rfl) | ((with_reducible apply oq_call (k := 63) (hc := Try.call63)); exact rfl; exact rfl; exact fun D w1 hw1 => fromOne h1 hw1 (by (repeat (first | exact P0 | apply P1)))) | ((with_reducible apply oq_call (k := 63) (hc := Try.call63)); exact rfl; exact rfl; exact fun D w1 hw1 => fromOne h2 hw1 (by (repeat (first | exact P0 | apply P1)))) | (with_reducible apply tl_nil) | ((with_reducible apply u_q); (iterate 4 exact rfl)) | ((with_reducible apply u_s); (iterate 3 exact rfl)) | ((with_reducible apply u_skip); (iterate 3 exact rfl)) | ((with_reducible apply u_split); exact rfl; exact rfl; all_goals first | intro hp | skip) | ((with_reducible apply os_x); exact rfl) | ((with_reducible apply ox_boxAgg); exact rfl; intro _) | ((with_reducible apply ox_buildSlice1); (iterate 6 exact rfl); intro _) | (apply Rd.own; (repeat (first | exact P0 | apply P1)); exact rfl; done) | (with_reducible apply t_seq) | (apply t_region; kernel_rfl) | ((with_reducible apply t_condT); exact rfl) | (with_reducible apply t_ret) | with_reducible apply q_thenN | with_reducible apply q_thenR | (with_reducible apply end_ret) | exact rvs_nil | (with_reducible apply rvs_cons) | ((with_reducible apply rv_tmp); exact rfl))
  all_goals (cases q1 <;> cases q3 <;> first | rfl | simp_all)
 | true =>
  have hg : 0 ≤ gr ∧ gr ≤ 100000 := by unfold allFrom at h2; simpa using h2
  refine enterQ (c := cx w 25) Try.func30 rfl rfl rfl rfl ?_
  repeat' (first | (apply oq_fn; exact rfl; try first | exact trivial | (and_intros <;> omega)) | ((with_reducible apply oq_load); exact rfl; exact rfl) | ((with_reducible apply oq_call (k := 63) (hc := Try.call63)); exact rfl; exact rfl; exact fun D w1 hw1 => fromOne h1 hw1 (by (repeat (first | exact P0 | apply P1)))) | ((with_reducible apply oq_call (k := 63) (hc := Try.call63)); exact rfl; exact rfl; exact fun D w1 hw1 => fromOne h2 hw1 (by (repeat (first | exact P0 | apply P1)))) | ((with_reducible apply oq_call (k := 63) (hc := Try.call63)); exact rfl; exact rfl; exact fun D w1 hw1 => fromOne h3 hw1 (by (repeat (first | exact P0 | apply P1)))) | (with_reducible apply tl_nil) | ((with_reducible apply u_q); (iterate 4 exact rfl)) | ((with_reducible apply u_s); (iterate 3 exact rfl)) | ((with_reducible apply u_skip); (iterate 3 exact rfl)) | ((with_reducible apply u_split); exact rfl; exact rfl; all_goals first | intro hp | skip) | ((with_reducible apply os_x); exact rfl) | ((with_reducible apply ox_boxAgg); exact rfl; intro _) | ((with_reducible apply ox_buildSlice1); (iterate 6 exact rfl); intro _) | (apply Rd.own; (repeat (first | exact P0 | apply P1)); exact rfl; done) | (with_reducible apply t_seq) | (apply t_region; kernel_rfl) | ((with_reducible apply t_condT); exact rfl) | ((with_reducible apply t_cond); exact rfl; all_goals first | intro hp | skip) | (with_reducible apply t_ret) | (with_reducible apply t_skip) | with_reducible apply q_thenN | with_reducible apply q_thenR | (with_reducible apply end_ret) | exact rvs_nil | (with_reducible apply rvs_cons) | ((with_reducible apply rv_tmp); exact rfl))
  all_goals (cases q1 <;> cases q3 <;> first | rfl | simp_all)
theorem checkFlights_calls (ev gr du : Int) (A : Option Addr) (n c : Nat) (fs : List Int) (w : World) (hr : RdS w 1 A n (fs.map inCells)) (hn : n ≤ 1000000) : Calls Try.prog 71 #[.agg #[.int .i64 ev, .int .i64 gr, .int .i64 du], .slice A n c] w fun e w' => e = .returned (.int .i64 (caredE ev gr du fs)) ∧ Ext w w' := by
 have hl := hr.len
 simp only [List.length_map] at hl
 have HC := fun w1 => checkCare_calls ev gr du w1
 have HF := fun w1 (hx : Ext w w1) => from_calls 1 10000 A n c fs w1 (hr.ext hx) hn
 unfold careE at HC
 unfold caredE
 rw [hl]
 cases hq : careOk ev gr du with
 | false =>
  rw [hq] at HC
  simp only [Bool.false_eq_true, if_false] at HC ⊢
  refine enterQ (c := cx w 20) Try.func71 rfl rfl rfl rfl ?_
  repeat' (first | (apply oq_fn; exact rfl; try first | exact trivial | (and_intros <;> omega)) | ((with_reducible apply oq_loadAgg); exact rfl; exact rfl) | ((with_reducible apply oq_call (k := 30) (hc := Try.call30)); exact rfl; exact rfl; exact fun D w1 hw1 => HC w1) | (with_reducible apply tl_nil) | ((with_reducible apply u_q); (iterate 4 exact rfl)) | ((with_reducible apply u_s); (iterate 3 exact rfl)) | ((with_reducible apply os_x); exact rfl) | ((with_reducible apply ox_boxAgg); exact rfl; intro _) | (apply Rd.own; (repeat (first | exact P0 | apply P1)); exact rfl; done) | (with_reducible apply t_seq) | (apply t_region; kernel_rfl) | ((with_reducible apply t_condT); exact rfl) | (with_reducible apply t_ret) | (with_reducible apply t_block) | with_reducible apply q_thenN | with_reducible apply q_thenR | with_reducible apply q_blockR | exact Rdn.zero | apply Rdn.succ | (with_reducible apply end_ret) | exact rvs_nil | (with_reducible apply rvs_cons) | ((with_reducible apply rv_tmp); exact rfl))
  all_goals rfl
 | true =>
  rw [hq] at HC
  simp only [if_true] at HC ⊢
  cases ha : allFrom 1 10000 fs with
  | false =>
   rw [ha] at HF
   refine enterQ (c := cx w 20) Try.func71 rfl rfl rfl rfl ?_
   repeat' (first | (apply oq_fn; exact rfl; try first | exact trivial | (and_intros <;> omega)) | ((with_reducible apply oq_loadAgg); exact rfl; exact rfl) | ((with_reducible apply oq_call (k := 30) (hc := Try.call30)); exact rfl; exact rfl; exact fun D w1 hw1 => HC w1) | ((with_reducible apply oq_call (k := 63) (hc := Try.call63)); exact rfl; exact rfl; exact fun D w1 hw1 => HF w1 hw1.ext.ext) | (with_reducible apply tl_nil) | ((with_reducible apply u_q); (iterate 4 exact rfl)) | ((with_reducible apply u_s); (iterate 3 exact rfl)) | ((with_reducible apply os_x); exact rfl) | ((with_reducible apply ox_boxAgg); exact rfl; intro _) | (apply Rd.own; (repeat (first | exact P0 | apply P1)); exact rfl; done) | (with_reducible apply t_seq) | (apply t_region; kernel_rfl) | ((with_reducible apply t_condT); exact rfl) | ((with_reducible apply t_condF); exact rfl) | ((with_reducible apply t_condD); exact rfl; all_goals first | (intro hp; try (exfalso; omega)) | skip) | (with_reducible apply t_ret) | (with_reducible apply t_block) | with_reducible apply q_thenN | with_reducible apply q_thenR | with_reducible apply q_blockR | exact Rdn.zero | apply Rdn.succ | (with_reducible apply end_ret) | exact rvs_nil | (with_reducible apply rvs_cons) | ((with_reducible apply rv_tmp); exact rfl))
   all_goals (first | (rw [if_pos (by omega)]; rfl) | (rw [if_neg (by omega)]; rfl))
  | true =>
   rw [ha] at HF
   refine enterQ (c := cx w 20) Try.func71 rfl rfl rfl rfl ?_
   repeat' (first | (apply oq_fn; exact rfl; try first | exact trivial | (and_intros <;> omega)) | ((with_reducible apply oq_loadAgg); exact rfl; exact rfl) | ((with_reducible apply oq_call (k := 30) (hc := Try.call30)); exact rfl; exact rfl; exact fun D w1 hw1 => HC w1) | ((with_reducible apply oq_call (k := 63) (hc := Try.call63)); exact rfl; exact rfl; exact fun D w1 hw1 => HF w1 hw1.ext.ext) | (with_reducible apply tl_nil) | ((with_reducible apply u_q); (iterate 4 exact rfl)) | ((with_reducible apply u_s); (iterate 3 exact rfl)) | ((with_reducible apply os_x); exact rfl) | ((with_reducible apply ox_boxAgg); exact rfl; intro _) | (apply Rd.own; (repeat (first | exact P0 | apply P1)); exact rfl; done) | (with_reducible apply t_seq) | (apply t_region; kernel_rfl) | ((with_reducible apply t_condF); exact rfl) | ((with_reducible apply t_condD); exact rfl; all_goals first | (intro hp; try (exfalso; omega)) | skip) | (with_reducible apply t_ret) | (with_reducible apply t_skip) | (with_reducible apply t_block) | with_reducible apply q_thenN | with_reducible apply q_thenR | with_reducible apply q_blockR | with_reducible apply q_blockN | exact Rdn.zero | apply Rdn.succ | (with_reducible apply end_ret) | exact rvs_nil | (with_reducible apply rvs_cons) | ((with_reducible apply rv_tmp); exact rfl))
   all_goals (first | (rw [if_pos (by omega)]; rfl) | (rw [if_neg (by omega)]; rfl))
theorem depOk_in {d : Dep} (h : depOk d = true) : 0 ≤ d.seats ∧ d.seats ≤ 50 ∧ 0 ≤ d.price ∧ d.price ≤ 1000000 ∧ 0 ≤ d.leaves ∧ d.leaves ≤ 1000000 ∧ d.state ≤ 2 := by
 unfold depOk at h
 simp only [Bool.and_eq_true, decide_eq_true_eq] at h
 omega
/-- All departures are valid, their states are no negative numbers. -/
def DepsOk (fl : List Dep) : Prop := ∀ d ∈ fl, depOk d = true ∧ 0 ≤ d.state
theorem oq_mulE {c : Cx} {F : Fr} {H : Hp} {d : Option Tmp} {ty t t' : TypeId} {pos : String} {af : Array Edge} {g : Option (Nat × Bool)} {x y : Operand} {m n k : Int} (hx : ev F x = some (.int .i64 m)) (hy : ev F y = some (.int .i64 n)) (e : m * n = k) (hk : -9223372036854775808 ≤ k ∧ k ≤ 9223372036854775807) : OQ c ⟨d, .binOp .mul t x y t', ty, pos, af, g⟩ F H (.int .i64 k) := by
 subst e
 exact oq_mul hx hy ⟨hk.1, hk.2⟩
/-- All bookings are of a departure, what is kept is no more than any price. -/
def BksOk (fl : List Dep) (bk : List Bk) : Prop := ∀ x ∈ bk, 0 ≤ x.flight ∧ x.flight < (fl.length : Int) ∧ 0 ≤ x.kept ∧ x.kept ≤ 1000000
theorem bookedB_ok {fl : List Dep} (hd : DepsOk fl) {fee : Int} (hf : 0 ≤ fee ∧ fee ≤ 100) {x : Bk} (h : bookedB fl fee x = true) : 0 ≤ x.flight ∧ x.flight < (fl.length : Int) ∧ 0 ≤ x.kept ∧ x.kept ≤ 1000000 := by
 unfold bookedB at h
 split at h
 ·rename_i hin
  cases hx : fl[x.flight.toNat]? with
  | none => rw [hx] at h; cases h
  | some d =>
   rw [hx] at h
   simp only at h
   have hdi := depOk_in (hd d (List.mem_of_getElem? hx)).1
   have := fee_in (price := d.price) (fee := fee) (by omega) hf
   split at h
   ·simp only [Bool.and_eq_true, decide_eq_true_eq] at h
    omega
   ·simp only [Bool.and_eq_true, decide_eq_true_eq] at h
    omega
 ·cases h
theorem prc_at {fl : List Dep} {x : Bk} {i : Nat} {d : Dep} (h : x.flight = (i : Int)) (hd : fl[i]? = some d) : prc fl x = d.price := by
 unfold prc
 rw [h, Int.toNat_natCast, hd]
def Small (p : Sum4) (k : Nat) : Prop := 0 ≤ p.held ∧ p.held ≤ 1000000 * (k : Int) ∧ 0 ≤ p.earned ∧ p.earned ≤ 1000000 * (k : Int) ∧ 0 ≤ p.kept ∧ p.kept ≤ 1000000 * (k : Int) ∧ -1000000 * (k : Int) ≤ p.back ∧ p.back ≤ 1000000 * (k : Int)
theorem sums_in {fl : List Dep} (hd : DepsOk fl) {bk : List Bk} (hb : BksOk fl bk) : ∀ {k : Nat}, k ≤ bk.length → Small (sumsTo fl bk k) k
 | 0, _ => by unfold sumsTo Small; simp
 | k + 1, h => by
  have ih := sums_in hd hb (k := k) (by omega)
  have hx : bk[k]? = some bk[k] := List.getElem?_eq_getElem (by omega)
  have hxb := hb bk[k] (List.getElem_mem (by omega))
  rw [sums_succ hx]
  have hp : 0 ≤ prc fl bk[k] ∧ prc fl bk[k] ≤ 1000000 := by
   unfold prc
   split
   ·rename_i d hd2
    have := depOk_in (hd d (List.mem_of_getElem? hd2)).1
    omega
   ·omega
  obtain ⟨a, b, c, d⟩ : ∃ q, sumsTo fl bk k = q := ⟨_, rfl⟩
  unfold Small at ih ⊢
  unfold addB
  split
  ·simp only; omega
  ·split
   ·simp only; omega
   ·split
    ·simp only; omega
    ·omega
theorem headB_in {o : Off} (h : headB o = true) : 0 ≤ o.now ∧ o.now ≤ 1000000 ∧ 0 ≤ o.notice ∧ o.notice ≤ 1000000 ∧ 0 ≤ o.fee ∧ o.fee ≤ 100 ∧ o.fl.length ≤ 10 ∧ o.bk.length ≤ 120 := by
 unfold headB at h
 simpa using h
theorem allFrom_t {lo hi z : Int} (h : lo ≤ z ∧ z ≤ hi) : allFrom lo hi [z] = true := by unfold allFrom; simp [h.1, h.2]
theorem allFrom_f {lo hi z : Int} (h : ¬ (lo ≤ z ∧ z ≤ hi)) : allFrom lo hi [z] = false := by
 unfold allFrom
 rw [Bool.eq_false_iff]
 intro h2
 simp only [List.all_cons, List.all_nil, Bool.and_true, Bool.and_eq_true, decide_eq_true_eq] at h2
 exact h h2
theorem all_no {α : Type} {p : α → Bool} {l : List α} {k : Nat} {x : α} (h : l[k]? = some x) (hp : p x = false) : l.all p = false := by
 rw [Bool.eq_false_iff, Ne, List.all_eq_true]
 intro h2
 rw [h2 x (List.mem_of_getElem? h)] at hp; cases hp
theorem all_yes {α : Type} {p : α → Bool} {l : List α} {k : Nat} (hk : l.length ≤ k) (h : ∀ x ∈ l.take k, p x = true) : l.all p = true := by
 rw [List.all_eq_true]
 exact fun y hy => h y (by rw [List.take_of_length_le hk]; exact hy)
theorem officeB_in {o : Off} (hu : ∀ d ∈ o.fl, 0 ≤ d.state) (h : officeB o = true) : headB o = true ∧ DepsOk o.fl ∧ BksOk o.fl o.bk ∧ o.bk.all (bookedB o.fl o.fee) = true ∧ (List.range o.fl.length).all (seatB o.fl o.bk) = true ∧ moneyB o = true := by
 unfold officeB at h
 simp only [Bool.and_eq_true] at h
 obtain ⟨h1, h2, h3, h4, h5⟩ := h
 have hd : DepsOk o.fl := fun d hdm => ⟨List.all_eq_true.1 h2 d hdm, hu d hdm⟩
 have hi := headB_in h1
 exact ⟨h1, hd, fun x hx => bookedB_ok hd ⟨hi.2.2.2.2.1, hi.2.2.2.2.2.1⟩ (List.all_eq_true.1 h3 x hx), h3, h4, h5⟩
def countsS (o : Off) (f : Int) : Int × Int × Int × Int × Int :=
 if officeB o then (if 0 ≤ f ∧ f < (o.fl.length : Int) then (manyV o.bk f 1, manyV o.bk f 2, manyV o.bk f 3, manyV o.bk f 4, 0) else (0, 0, 0, 0, 2)) else (0, 0, 0, 0, 84)
def purseS (o : Off) : Int × Int × Int × Int × Int :=
 if officeB o then ((sumsV o.fl o.bk).held, (sumsV o.fl o.bk).earned, (sumsV o.fl o.bk).kept, (sumsV o.fl o.bk).back, 0) else (0, 0, 0, 0, 84)
def turnS (o : Off) (i : Int) : Int × Int :=
 if officeB o then (if 0 ≤ i ∧ i < (o.bk.length : Int) then
  (match o.bk[i.toNat]? with
   | none => (0, 0)
   | some x => if x.state = 1 then (0, 0) else if x.state = 2 then (manyTo o.bk x.flight 2 i.toNat + 1, 0) else (0, 85))
  else (0, 2)) else (0, 84)
def u8Cells (z : Int) : List Value := [.int .u8 z]
theorem u8_read {w : World} {A : Option Addr} {n : Nat} {l : List Int} (h : RdS w 1 A n (l.map u8Cells)) {i : Nat} (hi : i < n) :
  ∃ b o x, A = some ⟨b, o, none⟩ ∧ b < w.heap.size ∧ l[i]? = some x ∧ w.cell? ⟨b, o + i * 1, none⟩ = some (.int .u8 x) := by
 obtain ⟨b, o, cs, hA, hb, hx, _, hc⟩ := h.row hi
 simp only [List.getElem?_map, Option.map_eq_some_iff] at hx
 obtain ⟨x, hx, rfl⟩ := hx
 exact ⟨b, o, x, hA, hb, hx, hc 0 _ rfl⟩
theorem indexU8_calls (z : Int) (A : Option Addr) (n c : Nat) (l : List Int) (w : World) (hr : RdS w 1 A n (l.map u8Cells)) (hn : n ≤ 1000000)  :
  Calls Try.prog 120 #[.slice A n c, .int .u8 z] w fun e w' => e = .returned (.int .i64 (idxV (fun x => decide (z = x)) l)) ∧ Ext w w' := by
 have hl := hr.len
 simp only [List.length_map] at hl
 
 refine enterQ (c := cx w 19) Try.func120 rfl rfl rfl rfl ?_
 repeat' (first | (apply oq_fn; exact rfl; try first | exact trivial | (and_intros <;> omega)) | (with_reducible apply tl_nil) | ((with_reducible apply u_q); (iterate 4 exact rfl)) | (with_reducible apply t_seq) | (apply t_region; kernel_rfl) | (with_reducible apply t_block) | with_reducible apply q_thenN)
 apply t_loopK (ι := Nat) [0, 1, 7] (fun k => [(8, .int .i64 (k : Nat))]) (fun _ => []) (fun k => k ≤ n ∧ ∀ x ∈ l.take k, (fun x => decide (z = x)) x = false) (fun k => n - k) (0)
 (repeat (first | exact KeepF.nil | (apply KeepF.cons; exact rfl) | apply KeepF.skip))
 (repeat (first | exact FrSub.nil | (apply FrSub.cons; exact rfl)))
 (repeat (first | exact HpSub.refl _ | (apply HpSub.consE; (repeat (first | exact P0 | apply P1)); exact rfl) | exact HpSub.nil))
 ·exact ⟨by omega, by simp⟩
 rintro k ⟨hk, hkp⟩
 try simp only [List.cons_append, List.nil_append]
 by_cases hlt : k < n
 ·obtain ⟨b1, o1, x, rfl, _, hx, c0⟩ := u8_read hr hlt
  
  cases hpx : (fun x => decide (z = x)) x with
  | true =>
   have hpe := hpx; simp only [decide_eq_true_eq, decide_eq_false_iff_not] at hpe
   repeat' (first | (focus ((with_reducible apply oq_indexAddrN); (iterate 4 exact rfl); omega)) | (apply oq_fn; exact rfl; try first | exact trivial | (and_intros <;> omega)) | ((with_reducible apply oq_load); exact rfl; exact rfl) | (with_reducible apply tl_nil) | ((with_reducible apply u_q); (iterate 4 exact rfl)) | (apply Rd.old; (first | (with_reducible assumption) | exact c0 | exact c1 | exact c2 | exact c3 | exact c4 | exact c5 | exact c6 | exact c7 | exact c8 | exact d0 | exact d1 | exact d2 | exact d3 | exact d4 | exact d5); first | exact List.not_mem_nil | exact m0 | exact m1 | exact m2 | exact m3 | exact m4 | exact m5 | exact m6 | exact m7 | exact m8 | exact m9) | (with_reducible apply t_seq) | (apply t_region; kernel_rfl) | ((with_reducible apply t_condD); exact rfl; all_goals first | (intro hp; try (exfalso; omega)) | skip) | (with_reducible apply t_ret) | (with_reducible apply t_skip) | (with_reducible apply t_block) | with_reducible apply q_thenN | with_reducible apply q_thenR | with_reducible apply q_blockR | (with_reducible apply end_ret) | exact rvs_nil | (with_reducible apply rvs_cons) | ((with_reducible apply rv_tmp); exact rfl))
   rw [idxV_some hx hpx hkp]; rfl
  | false =>
   have hpe := hpx; simp only [decide_eq_true_eq, decide_eq_false_iff_not] at hpe
   repeat' (first | (focus ((with_reducible apply oq_indexAddrN); (iterate 4 exact rfl); omega)) | (apply oq_fn; exact rfl; try first | exact trivial | (and_intros <;> omega)) | ((with_reducible apply oq_load); exact rfl; exact rfl) | (with_reducible apply tl_nil) | ((with_reducible apply u_q); (iterate 4 exact rfl)) | (apply Rd.old; (first | (with_reducible assumption) | exact c0 | exact c1 | exact c2 | exact c3 | exact c4 | exact c5 | exact c6 | exact c7 | exact c8 | exact d0 | exact d1 | exact d2 | exact d3 | exact d4 | exact d5); first | exact List.not_mem_nil | exact m0 | exact m1 | exact m2 | exact m3 | exact m4 | exact m5 | exact m6 | exact m7 | exact m8 | exact m9) | (with_reducible apply t_seq) | (apply t_region; kernel_rfl) | ((with_reducible apply t_condD); exact rfl; all_goals first | (intro hp; try (exfalso; omega)) | skip) | (with_reducible apply t_skip) | (with_reducible apply t_block) | with_reducible apply q_thenN | with_reducible apply q_blockN)
   refine ⟨k + 1, ⟨by omega, fun y hy => ?_⟩, by omega, ?_, ?_⟩
   ·rw [List.take_add_one, hx, List.mem_append] at hy
    rcases hy with hy | hy
    ·exact hkp y hy
    ·obtain rfl : y = x := by simpa using hy
     exact hpx
   ·try simp only [List.cons_append, List.nil_append]
    (repeat (first | exact FrSub.nil | (apply FrSub.cons; exact rfl)))
   ·try simp only [List.cons_append, List.nil_append]
    (repeat (first | exact HpSub.refl _ | (apply HpSub.consE; (repeat (first | exact P0 | apply P1)); exact rfl) | exact HpSub.nil))
 ·repeat' (first | (apply oq_fn; exact rfl; try first | exact trivial | (and_intros <;> omega)) | (with_reducible apply tl_nil) | ((with_reducible apply u_q); (iterate 4 exact rfl)) | (with_reducible apply t_seq) | (apply t_region; kernel_rfl) | ((with_reducible apply t_condD); exact rfl; all_goals first | (intro hp; try (exfalso; omega)) | skip) | (with_reducible apply t_ret) | (with_reducible apply t_exit) | with_reducible apply q_thenN | with_reducible apply q_thenE | ((with_reducible apply q_blockE); exact rfl) | (with_reducible apply end_ret) | exact rvs_nil | (with_reducible apply rvs_cons) | ((with_reducible apply rv_tmp); exact rfl))
  rw [idxV_none (fun y hy => hkp y (by rw [List.take_of_length_le (by omega)]; exact hy))]; rfl
theorem containsU8_calls (z : Int) (A : Option Addr) (n c : Nat) (l : List Int) (w : World) (hr : RdS w 1 A n (l.map u8Cells)) (hn : n ≤ 1000000) : Calls Try.prog 101 #[.slice A n c, .int .u8 z] w fun e w' => e = .returned (.bool (l.any fun x => decide (z = x))) ∧ Ext w w' := by
 
 refine enterQ (c := cx w 9) Try.func101 rfl rfl rfl rfl ?_
 repeat' (first | (apply oq_fn; exact rfl; try first | exact trivial | (and_intros <;> omega)) | ((with_reducible apply oq_call (k := 120) (hc := Try.call120)); exact rfl; exact rfl; exact fun D w1 hw1 => indexU8_calls z A n c l w1 (hr.ext hw1.ext.ext) hn) | (with_reducible apply tl_nil) | ((with_reducible apply u_q); (iterate 4 exact rfl)) | (with_reducible apply t_seq) | (apply t_region; kernel_rfl) | (with_reducible apply t_ret) | with_reducible apply q_thenN | (with_reducible apply end_ret) | exact rvs_nil | (with_reducible apply rvs_cons) | ((with_reducible apply rv_tmp); exact rfl))
 all_goals (rw [← idxV_any]; rfl)
theorem fine_calls (a b c s : Int) (w : World) : Calls Try.prog 94 #[.agg #[.int .i64 a, .int .i64 b, .int .i64 c, .int .u8 s]] w fun e w' => e = .returned (.bool (depOk ⟨a, b, c, s⟩)) ∧ Ext w w' := by
 obtain ⟨q1, h1⟩ : ∃ q, allFrom 0 50 [a] = q := ⟨_, rfl⟩
 obtain ⟨q2, h2⟩ : ∃ q, allFrom 0 1000000 [b] = q := ⟨_, rfl⟩
 obtain ⟨q3, h3⟩ : ∃ q, allFrom 0 1000000 [c] = q := ⟨_, rfl⟩
 have key : depOk ⟨a, b, c, s⟩ = (q1 && q2 && q3 && decide (s ≤ 2)) := by
  rw [← h1, ← h2, ← h3]
  unfold depOk allFrom
  simp
 rw [key]
 refine enterQ (c := cx w 24) Try.func94 rfl rfl rfl rfl ?_
 repeat' (first | (apply oq_fn; exact rfl; try first | exact trivial | (and_intros <;> omega)) | ((with_reducible apply oq_load); exact rfl; exact rfl) | ((with_reducible apply oq_call (k := 63) (hc := Try.call63)); exact rfl; exact rfl; exact fun D w1 hw1 => fromOne h1 hw1 (by (repeat (first | exact P0 | apply P1)))) | ((with_reducible apply oq_call (k := 63) (hc := Try.call63)); exact rfl; exact rfl; exact fun D w1 hw1 => fromOne h2 hw1 (by (repeat (first | exact P0 | apply P1)))) | ((with_reducible apply oq_call (k := 63) (hc := Try.call63)); exact rfl; exact rfl; exact fun D w1 hw1 => fromOne h3 hw1 (by (repeat (first | exact P0 | apply P1)))) | (with_reducible apply tl_nil) | ((with_reducible apply u_q); (iterate 4 exact rfl)) | ((with_reducible apply u_s); (iterate 3 exact rfl)) | ((with_reducible apply u_skip); (iterate 3 exact rfl)) | ((with_reducible apply u_split); exact rfl; exact rfl; all_goals first | intro hp | skip) | ((with_reducible apply os_x); exact rfl) | ((with_reducible apply ox_boxAgg); exact rfl; intro _) | ((with_reducible apply ox_buildSlice1); (iterate 6 exact rfl); intro _) | (apply Rd.own; (repeat (first | exact P0 | apply P1)); exact rfl; done) | (with_reducible apply t_seq) | (apply t_region; kernel_rfl) | (with_reducible apply t_ret) | with_reducible apply q_thenN | (with_reducible apply end_ret) | exact rvs_nil | (with_reducible apply rvs_cons) | ((with_reducible apply rv_tmp); exact rfl))
 all_goals (cases q1 <;> cases q2 <;> cases q3 <;> first | rfl | simp_all)
/-- An office at work lies in block bd. -/
structure Desk (w : World) (bd : Nat) (o : Off) (A : Option Addr) (cf : Nat) (B : Option Addr) (cb : Nat) : Prop where
 now : w.cell? ⟨bd, 0, none⟩ = some (.int .i64 o.now)
 notice : w.cell? ⟨bd, 1, none⟩ = some (.int .i64 o.notice)
 fee : w.cell? ⟨bd, 2, none⟩ = some (.int .i64 o.fee)
 fls : w.cell? ⟨bd, 3, none⟩ = some (.slice A o.fl.length cf)
 bks : w.cell? ⟨bd, 4, none⟩ = some (.slice B o.bk.length cb)
 inn : w.cell? ⟨bd, 5, none⟩ = some (.int .i64 o.inn)
 out : w.cell? ⟨bd, 6, none⟩ = some (.int .i64 o.out)
 fl : RdS w 4 A o.fl.length (o.fl.map depCells)
 bk : RdS w 3 B o.bk.length (o.bk.map bkCells)
theorem Desk.ext {w w' : World} {bd : Nat} {o : Off} {A : Option Addr} {cf : Nat} {B : Option Addr} {cb : Nat} (h : Desk w bd o A cf B cb) (e : Ext w w') : Desk w' bd o A cf B cb :=
 ⟨e.cell h.now, e.cell h.notice, e.cell h.fee, e.cell h.fls, e.cell h.bks, e.cell h.inn, e.cell h.out, h.fl.ext e, h.bk.ext e⟩
theorem deskFee_calls (bd : Nat) (o : Off) (A : Option Addr) (cf : Nat) (B : Option Addr) (cb : Nat) (w : World) (hD : Desk w bd o A cf B cb) (hd : DepsOk o.fl) (hf : 0 ≤ o.fee ∧ o.fee ≤ 100) (i : Nat) (d : Dep) (hi : o.fl[i]? = some d) : Calls Try.prog 118 #[.pointer (some ⟨bd, 0, none⟩), .int .i64 (i : Int)] w fun e w' => e = .returned (.int .i64 (feeV d.price o.fee)) ∧ Ext w w' := by
 have hil := (List.getElem?_eq_some_iff.1 hi).1
 have d2 := hD.fee
 have d3 := hD.fls
 have hA := hD.fl
 obtain ⟨b1, o1, x, hA1, _, hx, c0, c1, c2, c3⟩ := dep_read hA hil
 obtain rfl : d = x := by rw [hi] at hx; exact Option.some.inj hx
 have hdi := depOk_in (hd d (List.mem_of_getElem? hi)).1
 have hfi := fee_in (price := d.price) (fee := o.fee) (by omega) hf
 obtain ⟨P, hP⟩ : ∃ P, d.price * o.fee = P := ⟨_, rfl⟩
 unfold feeV at hfi ⊢
 rw [hP] at hfi ⊢
 subst hA1
 refine enterQ (c := cx w 21) Try.func118 rfl rfl rfl rfl ?_
 repeat' (first | (focus ((with_reducible apply oq_indexAddrN); (iterate 4 exact rfl); omega)) | (focus ((with_reducible apply oq_mulE (k := P)); exact rfl; exact rfl; exact hP; omega)) | (apply oq_fn; exact rfl; try first | exact trivial | (and_intros <;> omega)) | ((with_reducible apply oq_load); exact rfl; exact rfl) | (with_reducible apply tl_nil) | ((with_reducible apply u_q); (iterate 4 exact rfl)) | (with_reducible apply v_nil) | ((with_reducible apply v_q); (iterate 3 exact rfl)) | (apply Rd.old; (first | (with_reducible assumption) | exact c0 | exact c1 | exact c2 | exact c3 | exact c4 | exact c5 | exact c6 | exact c7 | exact c8 | exact d0 | exact d1 | exact d2 | exact d3 | exact d4 | exact d5); first | exact List.not_mem_nil | exact m0 | exact m1 | exact m2 | exact m3 | exact m4 | exact m5 | exact m6 | exact m7 | exact m8 | exact m9) | (with_reducible apply t_seq) | (apply t_region; kernel_rfl) | (apply t_drawn; kernel_rfl; decide +kernel; try simp only [List.append_eq, List.cons_append, List.nil_append]) | (with_reducible apply t_ret) | with_reducible apply q_thenN | (with_reducible apply end_ret) | exact rvs_nil | (with_reducible apply rvs_cons) | ((with_reducible apply rv_tmp); exact rfl))
 all_goals rfl
theorem purse_calls (bd : Nat) (o : Off) (A : Option Addr) (cf : Nat) (B : Option Addr) (cb : Nat) (w : World) (hD : Desk w bd o A cf B cb) (hd : DepsOk o.fl) (hb : BksOk o.fl o.bk) (hb2 : ∀ x ∈ o.bk, x.state = 1 ∨ x.state = 2 ∨ x.state = 3 ∨ x.state = 4) (hn : o.bk.length ≤ 1000) : Calls Try.prog 68 #[.pointer (some ⟨bd, 0, none⟩)] w fun e w' => e = .returned (.agg #[.int .i64 (sumsV o.fl o.bk).held, .int .i64 (sumsV o.fl o.bk).earned, .int .i64 (sumsV o.fl o.bk).kept, .int .i64 (sumsV o.fl o.bk).back]) ∧ Ext w w' := by
 have d3 := hD.fls
 have d4 := hD.bks
 have hA := hD.fl
 have hB := hD.bk
 refine enterQ (c := cx w 59) Try.func68 rfl rfl rfl rfl ?_
 repeat' (first | (apply oq_fn; exact rfl; try first | exact trivial | (and_intros <;> omega)) | ((with_reducible apply oq_load); exact rfl; exact rfl) | (with_reducible apply tl_nil) | ((with_reducible apply u_q); (iterate 4 exact rfl)) | ((with_reducible apply u_s); (iterate 3 exact rfl)) | ((with_reducible apply os_x); exact rfl) | ((with_reducible apply ox_alloc); exact rfl; intro _) | (apply Rd.old; (first | (with_reducible assumption) | exact c0 | exact c1 | exact c2 | exact c3 | exact c4 | exact c5 | exact c6 | exact c7 | exact c8 | exact d0 | exact d1 | exact d2 | exact d3 | exact d4 | exact d5); first | exact List.not_mem_nil | exact m0 | exact m1 | exact m2 | exact m3 | exact m4 | exact m5 | exact m6 | exact m7 | exact m8 | exact m9) | (with_reducible apply t_seq) | (apply t_region; kernel_rfl) | (with_reducible apply t_block) | with_reducible apply q_thenN)
 rename_i br bp
 apply t_loopK (ι := Nat) [0, 2, 3, 11, 12, 58] (fun k => [(13, .int .i64 (k : Nat))]) (fun k => [(bp, [.int .i64 (sumsTo o.fl o.bk k).held, .int .i64 (sumsTo o.fl o.bk k).earned, .int .i64 (sumsTo o.fl o.bk k).kept, .int .i64 (sumsTo o.fl o.bk k).back], some (129, 4, 1))]) (fun k => k ≤ o.bk.length) (fun k => o.bk.length - k) (0)
 (repeat (first | exact KeepF.nil | (apply KeepF.cons; exact rfl) | apply KeepF.skip))
 (repeat (first | exact FrSub.nil | (apply FrSub.cons; exact rfl)))
 (repeat (first | exact HpSub.refl _ | (apply HpSub.consE; (repeat (first | exact P0 | apply P1)); exact rfl) | exact HpSub.nil))
 ·exact Nat.zero_le _
 rintro k hk
 try simp only [List.cons_append, List.nil_append]
 have hin := sums_in hd hb hk
 obtain ⟨S, hS⟩ : ∃ q, sumsTo o.fl o.bk k = q := ⟨_, rfl⟩
 rw [hS] at hin ⊢
 obtain ⟨p1, p2, p3, p4⟩ := S
 unfold Small at hin
 simp only at hin ⊢
 by_cases hlt : k < o.bk.length
 ·obtain ⟨b1, o1, x, hB1, _, hx, c0, c1, c2⟩ := bk_read hB hlt
  have hxb := hb x (List.mem_of_getElem? hx)
  have hx4 := hb2 x (List.mem_of_getElem? hx)
  obtain ⟨i, hfi⟩ : ∃ i : Nat, x.flight = (i : Int) := ⟨x.flight.toNat, by omega⟩
  obtain ⟨b2, o2, d, hA1, _, hd1, c4, c5, c6, c7⟩ := dep_read hA (show i < o.fl.length by omega)
  have hdi := depOk_in (hd d (List.mem_of_getElem? hd1)).1
  have hpr := prc_at hfi hd1
  rw [hfi] at c0
  subst hA1 hB1
  by_cases h1 : x.state = 1
  ·have hs : sumsTo o.fl o.bk (k + 1) = ⟨p1 + d.price, p2, p3, p4⟩ := by rw [sums_succ hx, hS]; unfold addB; simp [h1, hpr]
   repeat' (first | (focus ((with_reducible apply oq_indexAddrN); (iterate 4 exact rfl); omega)) | (apply oq_fn; exact rfl; try first | exact trivial | (and_intros <;> omega)) | ((with_reducible apply oq_load); exact rfl; exact rfl) | ((with_reducible apply oq_loadAgg); exact rfl; exact rfl) | (with_reducible apply tl_nil) | ((with_reducible apply u_q); (iterate 4 exact rfl)) | ((with_reducible apply u_s0); exact rfl; exact rfl) | ((with_reducible apply u_s); (iterate 3 exact rfl)) | (with_reducible apply v_nil) | ((with_reducible apply v_q); (iterate 3 exact rfl)) | ((with_reducible apply os_x); exact rfl) | ((with_reducible apply os_store); (iterate 4 exact rfl)) | ((with_reducible apply os_storeAgg); (iterate 5 exact rfl)) | ((with_reducible apply ox_alloc); exact rfl; intro _) | (apply Rd.own; (repeat (first | exact P0 | apply P1)); exact rfl; done) | (apply Rd.old; (first | (with_reducible assumption) | exact c0 | exact c1 | exact c2 | exact c3 | exact c4 | exact c5 | exact c6 | exact c7 | exact c8 | exact d0 | exact d1 | exact d2 | exact d3 | exact d4 | exact d5); first | exact List.not_mem_nil | exact m0 | exact m1 | exact m2 | exact m3 | exact m4 | exact m5 | exact m6 | exact m7 | exact m8 | exact m9) | (with_reducible apply t_seq) | (apply t_region; kernel_rfl) | (apply t_drawn; kernel_rfl; decide +kernel; try simp only [List.append_eq, List.cons_append, List.nil_append]) | ((with_reducible apply t_condD); exact rfl; all_goals first | (intro hp; try (exfalso; omega)) | skip) | (with_reducible apply t_skip) | (with_reducible apply t_block) | with_reducible apply q_thenN | with_reducible apply q_blockN | exact P0 | (with_reducible apply P1) | exact Rdn.zero | apply Rdn.succ | ((with_reducible apply Norm.nil); exact rfl) | ((with_reducible apply Norm.cons); exact rfl) | exact Nat.le_of_ble_eq_true rfl)
   all_goals (refine ⟨k + 1, by omega, by omega, ?_, ?_⟩)
   all_goals ((try simp only [List.cons_append, List.nil_append]); (repeat' (first | exact FrSub.nil | (apply FrSub.cons; exact rfl) | (apply HpSub.consE; (repeat (first | exact P0 | apply P1)); first | exact rfl | (focus (simp only [hs]))) | exact HpSub.nil)))
  ·by_cases h2 : x.state = 2
   ·have hs : sumsTo o.fl o.bk (k + 1) = ⟨p1 + d.price, p2, p3, p4⟩ := by rw [sums_succ hx, hS]; unfold addB; simp [h2, hpr]
    repeat' (first | (focus ((with_reducible apply oq_indexAddrN); (iterate 4 exact rfl); omega)) | (apply oq_fn; exact rfl; try first | exact trivial | (and_intros <;> omega)) | ((with_reducible apply oq_load); exact rfl; exact rfl) | ((with_reducible apply oq_loadAgg); exact rfl; exact rfl) | (with_reducible apply tl_nil) | ((with_reducible apply u_q); (iterate 4 exact rfl)) | ((with_reducible apply u_s0); exact rfl; exact rfl) | ((with_reducible apply u_s); (iterate 3 exact rfl)) | (with_reducible apply v_nil) | ((with_reducible apply v_q); (iterate 3 exact rfl)) | ((with_reducible apply os_x); exact rfl) | ((with_reducible apply os_store); (iterate 4 exact rfl)) | ((with_reducible apply os_storeAgg); (iterate 5 exact rfl)) | ((with_reducible apply ox_alloc); exact rfl; intro _) | (apply Rd.own; (repeat (first | exact P0 | apply P1)); exact rfl; done) | (apply Rd.old; (first | (with_reducible assumption) | exact c0 | exact c1 | exact c2 | exact c3 | exact c4 | exact c5 | exact c6 | exact c7 | exact c8 | exact d0 | exact d1 | exact d2 | exact d3 | exact d4 | exact d5); first | exact List.not_mem_nil | exact m0 | exact m1 | exact m2 | exact m3 | exact m4 | exact m5 | exact m6 | exact m7 | exact m8 | exact m9) | (with_reducible apply t_seq) | (apply t_region; kernel_rfl) | (apply t_drawn; kernel_rfl; decide +kernel; try simp only [List.append_eq, List.cons_append, List.nil_append]) | ((with_reducible apply t_condD); exact rfl; all_goals first | (intro hp; try (exfalso; omega)) | skip) | (with_reducible apply t_skip) | (with_reducible apply t_block) | with_reducible apply q_thenN | with_reducible apply q_blockN | exact P0 | (with_reducible apply P1) | exact Rdn.zero | apply Rdn.succ | ((with_reducible apply Norm.nil); exact rfl) | ((with_reducible apply Norm.cons); exact rfl) | exact Nat.le_of_ble_eq_true rfl)
    all_goals (refine ⟨k + 1, by omega, by omega, ?_, ?_⟩)
    all_goals ((try simp only [List.cons_append, List.nil_append]); (repeat' (first | exact FrSub.nil | (apply FrSub.cons; exact rfl) | (apply HpSub.consE; (repeat (first | exact P0 | apply P1)); first | exact rfl | (focus (simp only [hs]))) | exact HpSub.nil)))
   ·by_cases h3 : x.state = 3
    ·have hs : sumsTo o.fl o.bk (k + 1) = ⟨p1, p2 + d.price, p3, p4⟩ := by rw [sums_succ hx, hS]; unfold addB; simp [h3, hpr]
     repeat' (first | (focus ((with_reducible apply oq_indexAddrN); (iterate 4 exact rfl); omega)) | (apply oq_fn; exact rfl; try first | exact trivial | (and_intros <;> omega)) | ((with_reducible apply oq_load); exact rfl; exact rfl) | ((with_reducible apply oq_loadAgg); exact rfl; exact rfl) | (with_reducible apply tl_nil) | ((with_reducible apply u_q); (iterate 4 exact rfl)) | ((with_reducible apply u_s0); exact rfl; exact rfl) | ((with_reducible apply u_s); (iterate 3 exact rfl)) | (with_reducible apply v_nil) | ((with_reducible apply v_q); (iterate 3 exact rfl)) | ((with_reducible apply os_x); exact rfl) | ((with_reducible apply os_store); (iterate 4 exact rfl)) | ((with_reducible apply os_storeAgg); (iterate 5 exact rfl)) | ((with_reducible apply ox_alloc); exact rfl; intro _) | (apply Rd.own; (repeat (first | exact P0 | apply P1)); exact rfl; done) | (apply Rd.old; (first | (with_reducible assumption) | exact c0 | exact c1 | exact c2 | exact c3 | exact c4 | exact c5 | exact c6 | exact c7 | exact c8 | exact d0 | exact d1 | exact d2 | exact d3 | exact d4 | exact d5); first | exact List.not_mem_nil | exact m0 | exact m1 | exact m2 | exact m3 | exact m4 | exact m5 | exact m6 | exact m7 | exact m8 | exact m9) | (with_reducible apply t_seq) | (apply t_region; kernel_rfl) | (apply t_drawn; kernel_rfl; decide +kernel; try simp only [List.append_eq, List.cons_append, List.nil_append]) | ((with_reducible apply t_condD); exact rfl; all_goals first | (intro hp; try (exfalso; omega)) | skip) | (with_reducible apply t_skip) | (with_reducible apply t_block) | with_reducible apply q_thenN | with_reducible apply q_blockN | exact P0 | (with_reducible apply P1) | exact Rdn.zero | apply Rdn.succ | ((with_reducible apply Norm.nil); exact rfl) | ((with_reducible apply Norm.cons); exact rfl) | exact Nat.le_of_ble_eq_true rfl)
     all_goals (refine ⟨k + 1, by omega, by omega, ?_, ?_⟩)
     all_goals ((try simp only [List.cons_append, List.nil_append]); (repeat' (first | exact FrSub.nil | (apply FrSub.cons; exact rfl) | (apply HpSub.consE; (repeat (first | exact P0 | apply P1)); first | exact rfl | (focus (simp only [hs]))) | exact HpSub.nil)))
    ·have h4 : x.state = 4 := by omega
     have hs : sumsTo o.fl o.bk (k + 1) = ⟨p1, p2, p3 + x.kept, p4 + d.price - x.kept⟩ := by rw [sums_succ hx, hS]; unfold addB; simp [h4, hpr]; omega
     repeat' (first | (focus ((with_reducible apply oq_indexAddrN); (iterate 4 exact rfl); omega)) | (apply oq_fn; exact rfl; try first | exact trivial | (and_intros <;> omega)) | ((with_reducible apply oq_load); exact rfl; exact rfl) | ((with_reducible apply oq_loadAgg); exact rfl; exact rfl) | (with_reducible apply tl_nil) | ((with_reducible apply u_q); (iterate 4 exact rfl)) | ((with_reducible apply u_s0); exact rfl; exact rfl) | ((with_reducible apply u_s); (iterate 3 exact rfl)) | (with_reducible apply v_nil) | ((with_reducible apply v_q); (iterate 3 exact rfl)) | ((with_reducible apply os_x); exact rfl) | ((with_reducible apply os_store); (iterate 4 exact rfl)) | ((with_reducible apply os_storeAgg); (iterate 5 exact rfl)) | ((with_reducible apply ox_alloc); exact rfl; intro _) | ((with_reducible apply ai_q); (iterate 5 exact rfl)) | ((with_reducible apply ai_s0); (iterate 4 exact rfl)) | (apply Rd.own; (repeat (first | exact P0 | apply P1)); exact rfl; done) | (apply Rd.old; (first | (with_reducible assumption) | exact c0 | exact c1 | exact c2 | exact c3 | exact c4 | exact c5 | exact c6 | exact c7 | exact c8 | exact d0 | exact d1 | exact d2 | exact d3 | exact d4 | exact d5); first | exact List.not_mem_nil | exact m0 | exact m1 | exact m2 | exact m3 | exact m4 | exact m5 | exact m6 | exact m7 | exact m8 | exact m9) | (with_reducible apply t_seq) | (apply t_region; kernel_rfl) | (apply t_drawn; kernel_rfl; decide +kernel; try simp only [List.append_eq, List.cons_append, List.nil_append]) | ((with_reducible apply t_condD); exact rfl; all_goals first | (intro hp; try (exfalso; omega)) | skip) | (with_reducible apply t_skip) | (with_reducible apply t_block) | with_reducible apply q_thenN | with_reducible apply q_blockN | exact P0 | (with_reducible apply P1) | exact Rdn.zero | apply Rdn.succ | ((with_reducible apply Norm.nil); exact rfl) | ((with_reducible apply Norm.cons); exact rfl) | (apply t_mix (id := 11) [0, 1, 2, 3, 4, 5, 6, 12] 8 #[false, false, false, false, false, false, false, false, false, false, false, false, false, true, false, true]; kernel_rfl; kernel_rfl; exact rfl) | (apply al_done; decide +kernel) | (apply al_one 7; decide +kernel) | (apply al_one 8; decide +kernel) | (apply al_one 9; decide +kernel) | (apply al_one 10; decide +kernel) | (apply al_one 11; decide +kernel) | (apply al_one 13; decide +kernel) | (apply al_one 14; decide +kernel) | (apply al_one 15; decide +kernel) | (apply al_two 7 9; decide +kernel) | (apply al_two 7 10; decide +kernel) | (apply al_two 7 13; decide +kernel) | (apply al_two 8 9; decide +kernel) | (apply al_two 8 10; decide +kernel) | (apply al_two 8 13; decide +kernel) | (apply al_two 9 13; decide +kernel) | (apply al_two 10 13; decide +kernel) | (apply al_two 11 13; decide +kernel) | (apply al_three 7 9 13; decide +kernel) | (apply al_three 7 10 13; decide +kernel) | (apply al_three 8 9 13; decide +kernel) | (apply al_three 8 10 13; decide +kernel) | exact Nat.le_of_ble_eq_true rfl)
     all_goals (refine ⟨k + 1, by omega, by omega, ?_, ?_⟩)
     all_goals ((try simp only [List.cons_append, List.nil_append]); (repeat' (first | exact FrSub.nil | (apply FrSub.cons; exact rfl) | (apply HpSub.consE; (repeat (first | exact P0 | apply P1)); first | exact rfl | (focus (simp only [hs]))) | exact HpSub.nil)))
 ·repeat' (first | (apply oq_fn; exact rfl; try first | exact trivial | (and_intros <;> omega)) | ((with_reducible apply oq_loadAgg); exact rfl; exact rfl) | (with_reducible apply tl_nil) | ((with_reducible apply u_q); (iterate 4 exact rfl)) | ((with_reducible apply u_s0); exact rfl; exact rfl) | ((with_reducible apply os_storeAgg); (iterate 5 exact rfl)) | (apply Rd.own; (repeat (first | exact P0 | apply P1)); exact rfl; done) | (with_reducible apply t_seq) | (apply t_region; kernel_rfl) | ((with_reducible apply t_condD); exact rfl; all_goals first | (intro hp; try (exfalso; omega)) | skip) | (with_reducible apply t_ret) | (with_reducible apply t_exit) | with_reducible apply q_thenN | with_reducible apply q_thenE | ((with_reducible apply q_blockE); exact rfl) | exact P0 | (with_reducible apply P1) | exact Rdn.zero | apply Rdn.succ | ((with_reducible apply Norm.nil); exact rfl) | ((with_reducible apply Norm.cons); exact rfl) | (with_reducible apply end_ret) | exact rvs_nil | (with_reducible apply rvs_cons) | ((with_reducible apply rv_cellAgg); exact rfl; exact rfl) | exact Nat.le_of_ble_eq_true rfl)
  all_goals (rw [← sums_all (show o.bk.length ≤ k by omega), hS]; rfl)
end Go.Proofs.Ytmlmgipngbndgaa
namespace Go.Proofs.Ytmlmgipngbndgaa
open Go.RowKit
theorem flatten_at {k : Nat} : ∀ {rows : List (List Value)}, (∀ r ∈ rows, r.length = k) → ∀ {j : Nat} {u : Value}, rows.flatten[j]? = some u → ∃ i r j', rows[i]? = some r ∧ r[j']? = some u ∧ j = i * k + j'
 | [], _, j, u, h => by simp at h
 | r :: rows, hk, j, u, h => by
  simp only [List.flatten_cons] at h
  have hr := hk r (List.mem_cons_self ..)
  by_cases hj : j < r.length
  ·rw [List.getElem?_append_left hj] at h
   exact ⟨0, r, j, rfl, h, by simp⟩
  ·rw [List.getElem?_append_right (by omega)] at h
   obtain ⟨i, r', j', h1, h2, h3⟩ := flatten_at (fun r hr => hk r (List.mem_cons_of_mem _ hr)) h
   exact ⟨i + 1, r', j', by simpa using h1, h2, by rw [Nat.succ_mul]; omega⟩
theorem flatten_len {k : Nat} : ∀ {rows : List (List Value)}, (∀ r ∈ rows, r.length = k) → rows.flatten.length = rows.length * k
 | [], _ => by simp
 | r :: rows, hk => by
  rw [List.flatten_cons, List.length_append, hk r (List.mem_cons_self ..), flatten_len fun r hr => hk r (List.mem_cons_of_mem _ hr), List.length_cons, Nat.succ_mul]
  omega
section
variable {c : Cx} {F : Fr} {H H' : Hp} {C : List Value} {K : Value → Hp → Prop} {d : Option Tmp} {ty : TypeId} {pos : String} {af : Array Edge} {g : Option (Nat × Bool)}
theorem append_run0 {g0 : Option (Nat × Bool)} {s x : Operand} {t e size bytes c2 n cap gb : Nat} {A : Option Addr} {a : Act} {w : World} (hk : AppOk c.P t e size bytes) (hs : a.eval s = .slice (some ⟨gb, 0, none⟩) n cap)
  (hx : a.eval x = .slice A 0 c2) (hn : n ≤ cap) : (execOp a.eval ⟨d, .call ⟨.builtin .append, #[s, x], #[t, t]⟩, ty, pos, af, g0⟩).run c.P w = .ok (.value (.slice (some ⟨gb, 0, none⟩) n cap)) w := by
 obtain ⟨i, z, k1, k2, k3, k4, k5⟩ := hk.info
 have ht := hk.und
 cases A <;>
 simp [execOp, resolve, invoke, builtin, Sem.run_bind, Sem.run_pure, Result.andThen, hs, hx, Builtin.append_, run_underlying ht, sizeOf, typeInfo, k1, Builtin.lenOf, Builtin.firstCells, loadCells, loadCellsFrom, hn, storeCells]
/-- append of a slice of rows onto a slice of the call's own. -/
theorem os_appendRows {s x : Operand} {t e size bytes m c2 n cap gb : Nat} {A : Option Addr} {rows : List (List Value)} (hk : AppOk c.P t e size bytes) (hs : ev F s = some (.slice (some ⟨gb, 0, none⟩) n cap)) (hx : ev F x = some (.slice A m c2))
  (hp : Pick H gb C (some (e, size, cap)) H') (hr : ∀ D w, Has c.w0 ⟨c.M, D⟩ H w → RdS w size A m rows) (hrk : ∀ r ∈ rows, r.length = size) (hC : C.length = n * size) (h1 : ∀ r ∈ rows, ∀ u ∈ r, u.oneCell' = true) (hn : n ≤ cap) (hb : (n + m) * bytes ≤ 140737488355328) (hmax : n + m ≤ 9223372036854775807)
  (k : ∀ b cap', K (.slice (some ⟨b, 0, none⟩) (n + m) cap') ((b, C ++ rows.flatten, some (e, size, cap')) :: H')) : OS c ⟨d, .call ⟨.builtin .append, #[s, x], #[t, t]⟩, ty, pos, af, g⟩ F H K := by
 intro D a w ha hw
 have hw' := hw.perm hp.perm
 have hR := hr D w hw
 have hlen := hR.len
 by_cases hm : m = 0
 ·subst hm
  have : rows = [] := List.eq_nil_of_length_eq_zero hlen
  subst this
  rw [append_run0 (d := d) (ty := ty) (pos := pos) (af := af) (g0 := g) hk (ha.ev hs) (ha.ev hx) hn]
  exact ⟨_, k gb cap, by simpa using hw'⟩
 ·obtain ⟨b2, o2, rfl, _, hc⟩ := hR.at_ (by omega)
  obtain ⟨g', cap', w', r1, r2, r3, r4⟩ := append_run (d := d) (ty := ty) (pos := pos) (af := af) (g0 := g) (news := rows.flatten) hk (ha.ev hs) (own_of_blk (hw'.blk _ (List.mem_cons_self ..)).2 hC hk.pos) (ha.ev hx) (by rw [flatten_len hrk, hlen])
   (fun j u hj => by
    obtain ⟨i, r, j', h2, h3, rfl⟩ := flatten_at hrk hj
    have := (hc i r h2).2 j' u h3
    rw [Nat.add_assoc] at this
    exact this)
   (fun u hu => by
    obtain ⟨r, h2, h3⟩ := List.mem_flatten.1 hu
    exact h1 r h2 u h3) (by omega) hb hmax
  rw [r1]
  have he : ExtM [gb] w w' := ExtM.of_grown r3 (fun k e => by simpa [Value.ownBlock] using e.symm)
  refine ⟨_, k g' cap', ?_⟩
  rcases r4 with r4 | r4
  ·obtain rfl : g' = gb := by simpa [Value.ownBlock] using r4
   exact hw'.wrote he r2
  ·subst r4
   exact (hw'.lost he).fresh' (w := w) hw.ext.size (fun y hy => (hw'.blk y (List.mem_cons_of_mem _ hy)).2.lt) r2
end
end Go.Proofs.Ytmlmgipngbndgaa
namespace Go.Proofs.Ytmlmgipngbndgaa
open Go.RowKit
attribute [local irreducible] OQ OS OX Rd T TL GX GL AL AI RV wpG SAny Calls
theorem oq_indexAddrAU {c : Cx} {F : Fr} {H : Hp} {d : Option Tmp} {ty t : TypeId} {pos : String} {af : Array Edge} {g : Option (Nat × Bool)} {x y : Operand} {kk : IntKind} {a0 a1 : Bool} {s0 s1 : Nat} {z0 z1 : List Value} {k1 : TyK} {e b o k : Nat} {i : Int} (ht : tyAt c.tys t = some ⟨a0, s0, z0, .array k e⟩) (he : tyAt c.tys e = some ⟨a1, s1, z1, k1⟩)
  (hx : ev F x = some (.pointer (some ⟨b, o, none⟩))) (hy : ev F y = some (.int kk i)) (h0 : 0 ≤ i) (h1 : i < k) : OQ c ⟨d, .indexAddr t x y, ty, pos, af, g⟩ F H (.pointer (some ⟨b, o + i.toNat * s1, none⟩)) := .of fun D a w ha _ => by
 have h := (c.ty ht).kind
 have h2 := h w
 have h3 := (c.ty he).size w
 simp [execOp, ha.ev hx, ha.ev hy, Instr.indexAt, Instr.sureAddr, go_sem, h2, h3, asIntOf, h0, h1, add_eq]
theorem u8_rows {w0 : World} {M : Ms} {H H' : Hp} {w : World} {g n : Nat} {l : List Int} {tg : Tg} (hl : l.length = n) (h : Has w0 M H w) (q : Pick H g (l.map u8Cells).flatten tg H') : RdS w 1 (some ⟨g, 0, none⟩) n (l.map u8Cells) :=
 Blk.rows (h.blk _ q.mem).2 (by simpa using hl) (by simp only [List.mem_map]; rintro r ⟨x, _, rfl⟩; rfl)
theorem one8 {w0 : World} {M : Ms} {H H' : Hp} {w : World} {g : Nat} {a : Int} {tg : Tg} (h : Has w0 M H w) (q : Pick H g [.int .u8 a] tg H') : RdS w 1 (some ⟨g, 0, none⟩) 1 ([a].map u8Cells) := u8_rows rfl h q
theorem two8 {w0 : World} {M : Ms} {H H' : Hp} {w : World} {g : Nat} {a b : Int} {tg : Tg} (h : Has w0 M H w) (q : Pick H g [.int .u8 a, .int .u8 b] tg H') : RdS w 1 (some ⟨g, 0, none⟩) 2 ([a, b].map u8Cells) := u8_rows rfl h q
theorem sold_calls (bd : Nat) (o : Off) (A : Option Addr) (cf : Nat) (B : Option Addr) (cb : Nat) (w : World) (hD : Desk w bd o A cf B cb) (hd : DepsOk o.fl) (hf : 0 ≤ o.fee ∧ o.fee ≤ 100) (hn : o.fl.length ≤ 1000000) (f s k : Int) : Calls Try.prog 95 #[.pointer (some ⟨bd, 0, none⟩), .agg #[.int .i64 f, .int .u8 s, .int .i64 k]] w fun e w' => e = .returned (.bool (bookedB o.fl o.fee ⟨f, s, k⟩)) ∧ Ext w w' := by
 have d3 := hD.fls
 have hA := hD.fl
 by_cases hin : 0 ≤ f ∧ f < (o.fl.length : Int)
 ·obtain ⟨i, rfl⟩ : ∃ i : Nat, f = (i : Int) := ⟨f.toNat, by omega⟩
  obtain ⟨b1, o1, d, hA1, _, hx, c0, c1, c2, c3⟩ := dep_read hA (show i < o.fl.length by omega)
  have hdd := hd d (List.mem_of_getElem? hx)
  have hdi := depOk_in hdd.1
  have hval : bookedB o.fl o.fee ⟨(i : Int), s, k⟩ = if s = 4 then decide (0 ≤ k) && decide (k ≤ feeV d.price o.fee) else fitB d.state s && decide (k = 0) := by
   unfold bookedB
   simp only
   rw [if_pos hin, Int.toNat_natCast, hx]
  rw [hval]
  have hw0 := allFrom_t (lo := 0) (hi := (o.fl.length : Int) - 1) (z := (i : Int)) ⟨by omega, by omega⟩
  by_cases hs : s = 4
  ·rw [if_pos hs]
   have HF := fun w1 (hx1 : Ext w w1) => deskFee_calls bd o A cf B cb w1 (hD.ext hx1) hd hf i d hx
   obtain ⟨q3, hq3⟩ : ∃ q, allFrom 0 (feeV d.price o.fee) [k] = q := ⟨_, rfl⟩
   have key : (decide (0 ≤ k) && decide (k ≤ feeV d.price o.fee)) = q3 := by rw [← hq3]; unfold allFrom; simp
   rw [key]
   subst hA1
   refine enterQ (c := cx w 52) Try.func95 rfl rfl rfl rfl ?_
   repeat' (first | (apply oq_fn; exact rfl; try first | exact trivial | (and_intros <;> omega)) | ((with_reducible apply oq_load); exact rfl; exact rfl) | ((with_reducible apply oq_call (k := 63) (hc := Try.call63)); exact rfl; exact rfl; exact fun D w1 hw1 => fromOne hw0 hw1 (by (repeat (first | exact P0 | apply P1)))) | ((with_reducible apply oq_call (k := 63) (hc := Try.call63)); exact rfl; exact rfl; exact fun D w1 hw1 => fromOne hq3 hw1 (by (repeat (first | exact P0 | apply P1)))) | ((with_reducible apply oq_call (k := 118) (hc := Try.call118)); exact rfl; exact rfl; exact fun D w1 hw1 => HF w1 hw1.ext.ext) | (with_reducible apply tl_nil) | ((with_reducible apply u_q); (iterate 4 exact rfl)) | ((with_reducible apply u_s); (iterate 3 exact rfl)) | (with_reducible apply v_nil) | ((with_reducible apply v_q); (iterate 3 exact rfl)) | ((with_reducible apply os_x); exact rfl) | ((with_reducible apply ox_boxAgg); exact rfl; intro _) | ((with_reducible apply ox_buildSlice1); (iterate 6 exact rfl); intro _) | ((with_reducible apply ai_q); (iterate 5 exact rfl)) | ((with_reducible apply ai_x); (iterate 5 exact rfl)) | (apply Rd.own; (repeat (first | exact P0 | apply P1)); exact rfl; done) | (apply Rd.old; (first | (with_reducible assumption) | exact c0 | exact c1 | exact c2 | exact c3 | exact c4 | exact c5 | exact c6 | exact c7 | exact c8 | exact d0 | exact d1 | exact d2 | exact d3 | exact d4 | exact d5); first | exact List.not_mem_nil | exact m0 | exact m1 | exact m2 | exact m3 | exact m4 | exact m5 | exact m6 | exact m7 | exact m8 | exact m9) | (apply t_mix (id := 1) [0, 1, 2, 3, 4, 5, 6, 7, 8] 3 #[false, false, false, false, false, false, false, false, false, false, false, false]; kernel_rfl; kernel_rfl; exact rfl) | (apply t_mix (id := 4) [0, 1, 2, 3, 4, 5] 3 #[false, false, false, false, false, false, false, false, false]; kernel_rfl; kernel_rfl; exact rfl) | (with_reducible apply t_seq) | (apply t_region; kernel_rfl) | ((with_reducible apply t_condF); exact rfl) | ((with_reducible apply t_condD); exact rfl; all_goals first | (intro hp; try (exfalso; omega)) | skip) | (with_reducible apply t_ret) | (with_reducible apply t_skip) | with_reducible apply q_thenN | with_reducible apply q_thenR | (with_reducible apply end_ret) | exact rvs_nil | (with_reducible apply rvs_cons) | ((with_reducible apply rv_tmp); exact rfl) | (apply al_done; decide +kernel) | (apply al_one 9; decide +kernel) | (apply al_one 10; decide +kernel) | (apply al_one 11; decide +kernel) | (apply al_one 6; decide +kernel) | (apply al_one 7; decide +kernel) | (apply al_one 8; decide +kernel))
   all_goals rfl
  ·rw [if_neg hs]
   subst hA1
   have HQ0 := fun g cp w1 h => containsU8_calls s (some ⟨g, 0, none⟩) 2 cp [1, 2] w1 h (by omega)
   have HQ1 := fun g cp w1 h => containsU8_calls s (some ⟨g, 0, none⟩) 1 cp [3] w1 h (by omega)
   have HQ2 := fun w1 => containsU8_calls s none 0 0 [] w1 (RdS.nil _ _ _) (by omega)
   obtain ⟨q0, e0⟩ : ∃ q, ([1, 2] : List Int).any (fun x => decide (s = x)) = q := ⟨_, rfl⟩
   obtain ⟨q1, e1⟩ : ∃ q, ([3] : List Int).any (fun x => decide (s = x)) = q := ⟨_, rfl⟩
   obtain ⟨q2, e2⟩ : ∃ q, ([] : List Int).any (fun x => decide (s = x)) = q := ⟨_, rfl⟩
   rw [e0] at HQ0
   rw [e1] at HQ1
   rw [e2] at HQ2
   have key0 : fitB 0 s = q0 := by rw [← e0]; unfold fitB; simp
   have key1 : fitB 1 s = q1 := by rw [← e1]; unfold fitB; simp
   have key2 : fitB 2 s = q2 := by rw [← e2]; unfold fitB; simp
   rcases (by omega : d.state = 0 ∨ d.state = 1 ∨ d.state = 2) with hg | hg | hg
   ·rw [hg] at c3
    cases hQ : q0 with
    | false =>
     rw [hQ] at HQ0 key0
     have hfit : fitB d.state s = false := by rw [hg]; exact key0
     rw [hfit, Bool.false_and]
     refine enterQ (c := cx w 52) Try.func95 rfl rfl rfl rfl ?_
     repeat' (first | (focus ((with_reducible apply oq_indexAddrN); (iterate 4 exact rfl); omega)) | (focus ((with_reducible apply oq_indexAddrAU); (iterate 4 exact rfl); omega; omega)) | (apply oq_fn; exact rfl; try first | exact trivial | (and_intros <;> omega)) | ((with_reducible apply oq_load); exact rfl; exact rfl) | ((with_reducible apply oq_call (k := 63) (hc := Try.call63)); exact rfl; exact rfl; exact fun D w1 hw1 => fromOne hw0 hw1 (by (repeat (first | exact P0 | apply P1)))) | ((with_reducible apply oq_call (k := 101) (hc := Try.call101)); exact rfl; exact rfl; exact fun D w1 hw1 => HQ0 _ _ w1 (two8 hw1 (by (repeat (first | exact P0 | apply P1))))) | ((with_reducible apply oq_buildA); (iterate 4 exact rfl)) | (with_reducible apply tl_nil) | ((with_reducible apply u_q); (iterate 4 exact rfl)) | ((with_reducible apply u_s0); exact rfl; exact rfl) | ((with_reducible apply u_s); (iterate 3 exact rfl)) | (with_reducible apply v_nil) | ((with_reducible apply v_q); (iterate 3 exact rfl)) | ((with_reducible apply v_skip); (iterate 3 exact rfl)) | ((with_reducible apply v_splitD); exact rfl; exact rfl; all_goals first | (intro hp; try (exfalso; omega)) | skip) | ((with_reducible apply os_x); exact rfl) | ((with_reducible apply os_storeAgg); (iterate 5 exact rfl)) | ((with_reducible apply ox_alloc); exact rfl; intro _) | ((with_reducible apply ox_boxAgg); exact rfl; intro _) | ((with_reducible apply ox_buildSlice1); (iterate 6 exact rfl); intro _) | ((with_reducible apply ai_q); (iterate 5 exact rfl)) | ((with_reducible apply ai_x); (iterate 5 exact rfl)) | (apply Rd.own; (repeat (first | exact P0 | apply P1)); exact rfl; done) | (apply Rd.old; (first | (with_reducible assumption) | exact c0 | exact c1 | exact c2 | exact c3 | exact c4 | exact c5 | exact c6 | exact c7 | exact c8 | exact d0 | exact d1 | exact d2 | exact d3 | exact d4 | exact d5); first | exact List.not_mem_nil | exact m0 | exact m1 | exact m2 | exact m3 | exact m4 | exact m5 | exact m6 | exact m7 | exact m8 | exact m9) | (apply t_mix (id := 1) [0, 1, 2, 3, 4, 5, 6, 7, 8] 3 #[false, false, false, false, false, false, false, false, false, false, false, false]; kernel_rfl; kernel_rfl; exact rfl) | (with_reducible apply t_seq) | (apply t_region; kernel_rfl) | (apply t_drawn; kernel_rfl; decide +kernel; try simp only [List.append_eq, List.cons_append, List.nil_append]) | ((with_reducible apply t_condF); exact rfl) | ((with_reducible apply t_condD); exact rfl; all_goals first | (intro hp; try (exfalso; omega)) | skip) | (with_reducible apply t_ret) | (with_reducible apply t_skip) | with_reducible apply q_thenN | exact P0 | ((with_reducible apply Norm.nil); exact rfl) | ((with_reducible apply Norm.cons); exact rfl) | (with_reducible apply end_ret) | exact rvs_nil | (with_reducible apply rvs_cons) | ((with_reducible apply rv_tmp); exact rfl) | (apply al_done; decide +kernel) | (apply al_one 9; decide +kernel) | (apply al_one 10; decide +kernel) | (apply al_one 11; decide +kernel) | exact Nat.le_of_ble_eq_true rfl)
     all_goals rfl
    | true =>
     rw [hQ] at HQ0 key0
     have hfit : fitB d.state s = true := by rw [hg]; exact key0
     rw [hfit, Bool.true_and]
     by_cases hk : k = 0
     ·rw [decide_eq_true hk]
      refine enterQ (c := cx w 52) Try.func95 rfl rfl rfl rfl ?_
      repeat' (first | (focus ((with_reducible apply oq_indexAddrN); (iterate 4 exact rfl); omega)) | (focus ((with_reducible apply oq_indexAddrAU); (iterate 4 exact rfl); omega; omega)) | (apply oq_fn; exact rfl; try first | exact trivial | (and_intros <;> omega)) | ((with_reducible apply oq_load); exact rfl; exact rfl) | ((with_reducible apply oq_call (k := 63) (hc := Try.call63)); exact rfl; exact rfl; exact fun D w1 hw1 => fromOne hw0 hw1 (by (repeat (first | exact P0 | apply P1)))) | ((with_reducible apply oq_call (k := 101) (hc := Try.call101)); exact rfl; exact rfl; exact fun D w1 hw1 => HQ0 _ _ w1 (two8 hw1 (by (repeat (first | exact P0 | apply P1))))) | ((with_reducible apply oq_buildA); (iterate 4 exact rfl)) | (with_reducible apply tl_nil) | ((with_reducible apply u_q); (iterate 4 exact rfl)) | ((with_reducible apply u_s0); exact rfl; exact rfl) | ((with_reducible apply u_s); (iterate 3 exact rfl)) | (with_reducible apply v_nil) | ((with_reducible apply v_q); (iterate 3 exact rfl)) | ((with_reducible apply v_splitD); exact rfl; exact rfl; all_goals first | (intro hp; try (exfalso; omega)) | skip) | ((with_reducible apply os_x); exact rfl) | ((with_reducible apply os_storeAgg); (iterate 5 exact rfl)) | ((with_reducible apply ox_alloc); exact rfl; intro _) | ((with_reducible apply ox_boxAgg); exact rfl; intro _) | ((with_reducible apply ox_buildSlice1); (iterate 6 exact rfl); intro _) | ((with_reducible apply ai_q); (iterate 5 exact rfl)) | ((with_reducible apply ai_x); (iterate 5 exact rfl)) | (apply Rd.own; (repeat (first | exact P0 | apply P1)); exact rfl; done) | (apply Rd.old; (first | (with_reducible assumption) | exact c0 | exact c1 | exact c2 | exact c3 | exact c4 | exact c5 | exact c6 | exact c7 | exact c8 | exact d0 | exact d1 | exact d2 | exact d3 | exact d4 | exact d5); first | exact List.not_mem_nil | exact m0 | exact m1 | exact m2 | exact m3 | exact m4 | exact m5 | exact m6 | exact m7 | exact m8 | exact m9) | (apply t_mix (id := 1) [0, 1, 2, 3, 4, 5, 6, 7, 8] 3 #[false, false, false, false, false, false, false, false, false, false, false, false]; kernel_rfl; kernel_rfl; exact rfl) | (with_reducible apply t_seq) | (apply t_region; kernel_rfl) | (apply t_drawn; kernel_rfl; decide +kernel; try simp only [List.append_eq, List.cons_append, List.nil_append]) | ((with_reducible apply t_condF); exact rfl) | ((with_reducible apply t_condD); exact rfl; all_goals first | (intro hp; try (exfalso; omega)) | skip) | (with_reducible apply t_ret) | (with_reducible apply t_skip) | with_reducible apply q_thenN | exact P0 | ((with_reducible apply Norm.nil); exact rfl) | ((with_reducible apply Norm.cons); exact rfl) | (with_reducible apply end_ret) | exact rvs_nil | (with_reducible apply rvs_cons) | ((with_reducible apply rv_tmp); exact rfl) | (apply al_done; decide +kernel) | (apply al_one 9; decide +kernel) | (apply al_one 10; decide +kernel) | (apply al_one 11; decide +kernel) | exact Nat.le_of_ble_eq_true rfl)
      all_goals rfl
     ·rw [decide_eq_false hk]
      refine enterQ (c := cx w 52) Try.func95 rfl rfl rfl rfl ?_
      repeat' (first | (apply oq_fn; exact rfl; try first | exact trivial | (and_intros <;> omega)) | ((with_reducible apply oq_load); exact rfl; exact rfl) | ((with_reducible apply oq_call (k := 63) (hc := Try.call63)); exact rfl; exact rfl; exact fun D w1 hw1 => fromOne hw0 hw1 (by (repeat (first | exact P0 | apply P1)))) | ((with_reducible apply oq_buildA); (iterate 4 exact rfl)) | (with_reducible apply tl_nil) | ((with_reducible apply u_q); (iterate 4 exact rfl)) | ((with_reducible apply u_s0); exact rfl; exact rfl) | ((with_reducible apply u_s); (iterate 3 exact rfl)) | (with_reducible apply v_nil) | ((with_reducible apply v_q); (iterate 3 exact rfl)) | ((with_reducible apply v_skip); (iterate 3 exact rfl)) | ((with_reducible apply v_splitD); exact rfl; exact rfl; all_goals first | (intro hp; try (exfalso; omega)) | skip) | ((with_reducible apply os_x); exact rfl) | ((with_reducible apply os_storeAgg); (iterate 5 exact rfl)) | ((with_reducible apply ox_alloc); exact rfl; intro _) | ((with_reducible apply ox_boxAgg); exact rfl; intro _) | ((with_reducible apply ox_buildSlice1); (iterate 6 exact rfl); intro _) | ((with_reducible apply ai_q); (iterate 5 exact rfl)) | ((with_reducible apply ai_x); (iterate 5 exact rfl)) | (apply Rd.own; (repeat (first | exact P0 | apply P1)); exact rfl; done) | (apply Rd.old; (first | (with_reducible assumption) | exact c0 | exact c1 | exact c2 | exact c3 | exact c4 | exact c5 | exact c6 | exact c7 | exact c8 | exact d0 | exact d1 | exact d2 | exact d3 | exact d4 | exact d5); first | exact List.not_mem_nil | exact m0 | exact m1 | exact m2 | exact m3 | exact m4 | exact m5 | exact m6 | exact m7 | exact m8 | exact m9) | (apply t_mix (id := 1) [0, 1, 2, 3, 4, 5, 6, 7, 8] 3 #[false, false, false, false, false, false, false, false, false, false, false, false]; kernel_rfl; kernel_rfl; exact rfl) | (with_reducible apply t_seq) | (apply t_region; kernel_rfl) | (apply t_drawn; kernel_rfl; decide +kernel; try simp only [List.append_eq, List.cons_append, List.nil_append]) | ((with_reducible apply t_condF); exact rfl) | ((with_reducible apply t_condD); exact rfl; all_goals first | (intro hp; try (exfalso; omega)) | skip) | (with_reducible apply t_ret) | (with_reducible apply t_skip) | with_reducible apply q_thenN | exact P0 | ((with_reducible apply Norm.nil); exact rfl) | ((with_reducible apply Norm.cons); exact rfl) | (with_reducible apply end_ret) | exact rvs_nil | (with_reducible apply rvs_cons) | ((with_reducible apply rv_tmp); exact rfl) | (apply al_done; decide +kernel) | (apply al_one 9; decide +kernel) | (apply al_one 10; decide +kernel) | (apply al_one 11; decide +kernel) | exact Nat.le_of_ble_eq_true rfl)
      all_goals rfl
   ·rw [hg] at c3
    cases hQ : q1 with
    | false =>
     rw [hQ] at HQ1 key1
     have hfit : fitB d.state s = false := by rw [hg]; exact key1
     rw [hfit, Bool.false_and]
     refine enterQ (c := cx w 52) Try.func95 rfl rfl rfl rfl ?_
     repeat' (first | (focus ((with_reducible apply oq_indexAddrN); (iterate 4 exact rfl); omega)) | (focus ((with_reducible apply oq_indexAddrAU); (iterate 4 exact rfl); omega; omega)) | (apply oq_fn; exact rfl; try first | exact trivial | (and_intros <;> omega)) | ((with_reducible apply oq_load); exact rfl; exact rfl) | ((with_reducible apply oq_call (k := 63) (hc := Try.call63)); exact rfl; exact rfl; exact fun D w1 hw1 => fromOne hw0 hw1 (by (repeat (first | exact P0 | apply P1)))) | ((with_reducible apply oq_call (k := 101) (hc := Try.call101)); exact rfl; exact rfl; exact fun D w1 hw1 => HQ1 _ _ w1 (one8 hw1 (by (repeat (first | exact P0 | apply P1))))) | ((with_reducible apply oq_buildA); (iterate 4 exact rfl)) | (with_reducible apply tl_nil) | ((with_reducible apply u_q); (iterate 4 exact rfl)) | ((with_reducible apply u_s0); exact rfl; exact rfl) | ((with_reducible apply u_s); (iterate 3 exact rfl)) | (with_reducible apply v_nil) | ((with_reducible apply v_q); (iterate 3 exact rfl)) | ((with_reducible apply v_skip); (iterate 3 exact rfl)) | ((with_reducible apply v_splitD); exact rfl; exact rfl; all_goals first | (intro hp; try (exfalso; omega)) | skip) | ((with_reducible apply os_x); exact rfl) | ((with_reducible apply os_storeAgg); (iterate 5 exact rfl)) | ((with_reducible apply ox_alloc); exact rfl; intro _) | ((with_reducible apply ox_boxAgg); exact rfl; intro _) | ((with_reducible apply ox_buildSlice1); (iterate 6 exact rfl); intro _) | ((with_reducible apply ai_q); (iterate 5 exact rfl)) | ((with_reducible apply ai_x); (iterate 5 exact rfl)) | (apply Rd.own; (repeat (first | exact P0 | apply P1)); exact rfl; done) | (apply Rd.old; (first | (with_reducible assumption) | exact c0 | exact c1 | exact c2 | exact c3 | exact c4 | exact c5 | exact c6 | exact c7 | exact c8 | exact d0 | exact d1 | exact d2 | exact d3 | exact d4 | exact d5); first | exact List.not_mem_nil | exact m0 | exact m1 | exact m2 | exact m3 | exact m4 | exact m5 | exact m6 | exact m7 | exact m8 | exact m9) | (apply t_mix (id := 1) [0, 1, 2, 3, 4, 5, 6, 7, 8] 3 #[false, false, false, false, false, false, false, false, false, false, false, false]; kernel_rfl; kernel_rfl; exact rfl) | (with_reducible apply t_seq) | (apply t_region; kernel_rfl) | (apply t_drawn; kernel_rfl; decide +kernel; try simp only [List.append_eq, List.cons_append, List.nil_append]) | ((with_reducible apply t_condF); exact rfl) | ((with_reducible apply t_condD); exact rfl; all_goals first | (intro hp; try (exfalso; omega)) | skip) | (with_reducible apply t_ret) | (with_reducible apply t_skip) | with_reducible apply q_thenN | exact P0 | ((with_reducible apply Norm.nil); exact rfl) | ((with_reducible apply Norm.cons); exact rfl) | (with_reducible apply end_ret) | exact rvs_nil | (with_reducible apply rvs_cons) | ((with_reducible apply rv_tmp); exact rfl) | (apply al_done; decide +kernel) | (apply al_one 9; decide +kernel) | (apply al_one 10; decide +kernel) | (apply al_one 11; decide +kernel) | exact Nat.le_of_ble_eq_true rfl)
     all_goals rfl
    | true =>
     rw [hQ] at HQ1 key1
     have hfit : fitB d.state s = true := by rw [hg]; exact key1
     rw [hfit, Bool.true_and]
     by_cases hk : k = 0
     ·rw [decide_eq_true hk]
      refine enterQ (c := cx w 52) Try.func95 rfl rfl rfl rfl ?_
      repeat' (first | (focus ((with_reducible apply oq_indexAddrN); (iterate 4 exact rfl); omega)) | (focus ((with_reducible apply oq_indexAddrAU); (iterate 4 exact rfl); omega; omega)) | (apply oq_fn; exact rfl; try first | exact trivial | (and_intros <;> omega)) | ((with_reducible apply oq_load); exact rfl; exact rfl) | ((with_reducible apply oq_call (k := 63) (hc := Try.call63)); exact rfl; exact rfl; exact fun D w1 hw1 => fromOne hw0 hw1 (by (repeat (first | exact P0 | apply P1)))) | ((with_reducible apply oq_call (k := 101) (hc := Try.call101)); exact rfl; exact rfl; exact fun D w1 hw1 => HQ1 _ _ w1 (one8 hw1 (by (repeat (first | exact P0 | apply P1))))) | ((with_reducible apply oq_buildA); (iterate 4 exact rfl)) | (with_reducible apply tl_nil) | ((with_reducible apply u_q); (iterate 4 exact rfl)) | ((with_reducible apply u_s0); exact rfl; exact rfl) | ((with_reducible apply u_s); (iterate 3 exact rfl)) | (with_reducible apply v_nil) | ((with_reducible apply v_q); (iterate 3 exact rfl)) | ((with_reducible apply v_splitD); exact rfl; exact rfl; all_goals first | (intro hp; try (exfalso; omega)) | skip) | ((with_reducible apply os_x); exact rfl) | ((with_reducible apply os_storeAgg); (iterate 5 exact rfl)) | ((with_reducible apply ox_alloc); exact rfl; intro _) | ((with_reducible apply ox_boxAgg); exact rfl; intro _) | ((with_reducible apply ox_buildSlice1); (iterate 6 exact rfl); intro _) | ((with_reducible apply ai_q); (iterate 5 exact rfl)) | ((with_reducible apply ai_x); (iterate 5 exact rfl)) | (apply Rd.own; (repeat (first | exact P0 | apply P1)); exact rfl; done) | (apply Rd.old; (first | (with_reducible assumption) | exact c0 | exact c1 | exact c2 | exact c3 | exact c4 | exact c5 | exact c6 | exact c7 | exact c8 | exact d0 | exact d1 | exact d2 | exact d3 | exact d4 | exact d5); first | exact List.not_mem_nil | exact m0 | exact m1 | exact m2 | exact m3 | exact m4 | exact m5 | exact m6 | exact m7 | exact m8 | exact m9) | (apply t_mix (id := 1) [0, 1, 2, 3, 4, 5, 6, 7, 8] 3 #[false, false, false, false, false, false, false, false, false, false, false, false]; kernel_rfl; kernel_rfl; exact rfl) | (with_reducible apply t_seq) | (apply t_region; kernel_rfl) | (apply t_drawn; kernel_rfl; decide +kernel; try simp only [List.append_eq, List.cons_append, List.nil_append]) | ((with_reducible apply t_condF); exact rfl) | ((with_reducible apply t_condD); exact rfl; all_goals first | (intro hp; try (exfalso; omega)) | skip) | (with_reducible apply t_ret) | (with_reducible apply t_skip) | with_reducible apply q_thenN | exact P0 | ((with_reducible apply Norm.nil); exact rfl) | ((with_reducible apply Norm.cons); exact rfl) | (with_reducible apply end_ret) | exact rvs_nil | (with_reducible apply rvs_cons) | ((with_reducible apply rv_tmp); exact rfl) | (apply al_done; decide +kernel) | (apply al_one 9; decide +kernel) | (apply al_one 10; decide +kernel) | (apply al_one 11; decide +kernel) | exact Nat.le_of_ble_eq_true rfl)
      all_goals rfl
     ·rw [decide_eq_false hk]
      refine enterQ (c := cx w 52) Try.func95 rfl rfl rfl rfl ?_
      repeat' (first | (apply oq_fn; exact rfl; try first | exact trivial | (and_intros <;> omega)) | ((with_reducible apply oq_load); exact rfl; exact rfl) | ((with_reducible apply oq_call (k := 63) (hc := Try.call63)); exact rfl; exact rfl; exact fun D w1 hw1 => fromOne hw0 hw1 (by (repeat (first | exact P0 | apply P1)))) | ((with_reducible apply oq_buildA); (iterate 4 exact rfl)) | (with_reducible apply tl_nil) | ((with_reducible apply u_q); (iterate 4 exact rfl)) | ((with_reducible apply u_s0); exact rfl; exact rfl) | ((with_reducible apply u_s); (iterate 3 exact rfl)) | (with_reducible apply v_nil) | ((with_reducible apply v_q); (iterate 3 exact rfl)) | ((with_reducible apply v_skip); (iterate 3 exact rfl)) | ((with_reducible apply v_splitD); exact rfl; exact rfl; all_goals first | (intro hp; try (exfalso; omega)) | skip) | ((with_reducible apply os_x); exact rfl) | ((with_reducible apply os_storeAgg); (iterate 5 exact rfl)) | ((with_reducible apply ox_alloc); exact rfl; intro _) | ((with_reducible apply ox_boxAgg); exact rfl; intro _) | ((with_reducible apply ox_buildSlice1); (iterate 6 exact rfl); intro _) | ((with_reducible apply ai_q); (iterate 5 exact rfl)) | ((with_reducible apply ai_x); (iterate 5 exact rfl)) | (apply Rd.own; (repeat (first | exact P0 | apply P1)); exact rfl; done) | (apply Rd.old; (first | (with_reducible assumption) | exact c0 | exact c1 | exact c2 | exact c3 | exact c4 | exact c5 | exact c6 | exact c7 | exact c8 | exact d0 | exact d1 | exact d2 | exact d3 | exact d4 | exact d5); first | exact List.not_mem_nil | exact m0 | exact m1 | exact m2 | exact m3 | exact m4 | exact m5 | exact m6 | exact m7 | exact m8 | exact m9) | (apply t_mix (id := 1) [0, 1, 2, 3, 4, 5, 6, 7, 8] 3 #[false, false, false, false, false, false, false, false, false, false, false, false]; kernel_rfl; kernel_rfl; exact rfl) | (with_reducible apply t_seq) | (apply t_region; kernel_rfl) | (apply t_drawn; kernel_rfl; decide +kernel; try simp only [List.append_eq, List.cons_append, List.nil_append]) | ((with_reducible apply t_condF); exact rfl) | ((with_reducible apply t_condD); exact rfl; all_goals first | (intro hp; try (exfalso; omega)) | skip) | (with_reducible apply t_ret) | (with_reducible apply t_skip) | with_reducible apply q_thenN | exact P0 | ((with_reducible apply Norm.nil); exact rfl) | ((with_reducible apply Norm.cons); exact rfl) | (with_reducible apply end_ret) | exact rvs_nil | (with_reducible apply rvs_cons) | ((with_reducible apply rv_tmp); exact rfl) | (apply al_done; decide +kernel) | (apply al_one 9; decide +kernel) | (apply al_one 10; decide +kernel) | (apply al_one 11; decide +kernel) | exact Nat.le_of_ble_eq_true rfl)
      all_goals rfl
   ·rw [hg] at c3
    cases hQ : q2 with
    | false =>
     rw [hQ] at HQ2 key2
     have hfit : fitB d.state s = false := by rw [hg]; exact key2
     rw [hfit, Bool.false_and]
     refine enterQ (c := cx w 52) Try.func95 rfl rfl rfl rfl ?_
     repeat' (first | (focus ((with_reducible apply oq_indexAddrN); (iterate 4 exact rfl); omega)) | (focus ((with_reducible apply oq_indexAddrAU); (iterate 4 exact rfl); omega; omega)) | (apply oq_fn; exact rfl; try first | exact trivial | (and_intros <;> omega)) | ((with_reducible apply oq_load); exact rfl; exact rfl) | ((with_reducible apply oq_call (k := 63) (hc := Try.call63)); exact rfl; exact rfl; exact fun D w1 hw1 => fromOne hw0 hw1 (by (repeat (first | exact P0 | apply P1)))) | ((with_reducible apply oq_call (k := 101) (hc := Try.call101)); exact rfl; exact rfl; exact fun D w1 hw1 => HQ2 w1) | ((with_reducible apply oq_buildA); (iterate 4 exact rfl)) | (with_reducible apply tl_nil) | ((with_reducible apply u_q); (iterate 4 exact rfl)) | ((with_reducible apply u_s0); exact rfl; exact rfl) | ((with_reducible apply u_s); (iterate 3 exact rfl)) | (with_reducible apply v_nil) | ((with_reducible apply v_q); (iterate 3 exact rfl)) | ((with_reducible apply v_skip); (iterate 3 exact rfl)) | ((with_reducible apply v_splitD); exact rfl; exact rfl; all_goals first | (intro hp; try (exfalso; omega)) | skip) | ((with_reducible apply os_x); exact rfl) | ((with_reducible apply os_storeAgg); (iterate 5 exact rfl)) | ((with_reducible apply ox_alloc); exact rfl; intro _) | ((with_reducible apply ox_boxAgg); exact rfl; intro _) | ((with_reducible apply ox_buildSlice1); (iterate 6 exact rfl); intro _) | ((with_reducible apply ai_q); (iterate 5 exact rfl)) | ((with_reducible apply ai_x); (iterate 5 exact rfl)) | (apply Rd.own; (repeat (first | exact P0 | apply P1)); exact rfl; done) | (apply Rd.old; (first | (with_reducible assumption) | exact c0 | exact c1 | exact c2 | exact c3 | exact c4 | exact c5 | exact c6 | exact c7 | exact c8 | exact d0 | exact d1 | exact d2 | exact d3 | exact d4 | exact d5); first | exact List.not_mem_nil | exact m0 | exact m1 | exact m2 | exact m3 | exact m4 | exact m5 | exact m6 | exact m7 | exact m8 | exact m9) | (apply t_mix (id := 1) [0, 1, 2, 3, 4, 5, 6, 7, 8] 3 #[false, false, false, false, false, false, false, false, false, false, false, false]; kernel_rfl; kernel_rfl; exact rfl) | (with_reducible apply t_seq) | (apply t_region; kernel_rfl) | (apply t_drawn; kernel_rfl; decide +kernel; try simp only [List.append_eq, List.cons_append, List.nil_append]) | ((with_reducible apply t_condF); exact rfl) | ((with_reducible apply t_condD); exact rfl; all_goals first | (intro hp; try (exfalso; omega)) | skip) | (with_reducible apply t_ret) | (with_reducible apply t_skip) | with_reducible apply q_thenN | exact P0 | ((with_reducible apply Norm.nil); exact rfl) | ((with_reducible apply Norm.cons); exact rfl) | (with_reducible apply end_ret) | exact rvs_nil | (with_reducible apply rvs_cons) | ((with_reducible apply rv_tmp); exact rfl) | (apply al_done; decide +kernel) | (apply al_one 9; decide +kernel) | (apply al_one 10; decide +kernel) | (apply al_one 11; decide +kernel) | exact Nat.le_of_ble_eq_true rfl)
     all_goals rfl
    | true =>
     rw [hQ] at HQ2 key2
     have hfit : fitB d.state s = true := by rw [hg]; exact key2
     rw [hfit, Bool.true_and]
     by_cases hk : k = 0
     ·rw [decide_eq_true hk]
      refine enterQ (c := cx w 52) Try.func95 rfl rfl rfl rfl ?_
      repeat' (first | (focus ((with_reducible apply oq_indexAddrN); (iterate 4 exact rfl); omega)) | (focus ((with_reducible apply oq_indexAddrAU); (iterate 4 exact rfl); omega; omega)) | (apply oq_fn; exact rfl; try first | exact trivial | (and_intros <;> omega)) | ((with_reducible apply oq_load); exact rfl; exact rfl) | ((with_reducible apply oq_call (k := 63) (hc := Try.call63)); exact rfl; exact rfl; exact fun D w1 hw1 => fromOne hw0 hw1 (by (repeat (first | exact P0 | apply P1)))) | ((with_reducible apply oq_call (k := 101) (hc := Try.call101)); exact rfl; exact rfl; exact fun D w1 hw1 => HQ2 w1) | ((with_reducible apply oq_buildA); (iterate 4 exact rfl)) | (with_reducible apply tl_nil) | ((with_reducible apply u_q); (iterate 4 exact rfl)) | ((with_reducible apply u_s0); exact rfl; exact rfl) | ((with_reducible apply u_s); (iterate 3 exact rfl)) | (with_reducible apply v_nil) | ((with_reducible apply v_q); (iterate 3 exact rfl)) | ((with_reducible apply v_splitD); exact rfl; exact rfl; all_goals first | (intro hp; try (exfalso; omega)) | skip) | ((with_reducible apply os_x); exact rfl) | ((with_reducible apply os_storeAgg); (iterate 5 exact rfl)) | ((with_reducible apply ox_alloc); exact rfl; intro _) | ((with_reducible apply ox_boxAgg); exact rfl; intro _) | ((with_reducible apply ox_buildSlice1); (iterate 6 exact rfl); intro _) | ((with_reducible apply ai_q); (iterate 5 exact rfl)) | ((with_reducible apply ai_x); (iterate 5 exact rfl)) | (apply Rd.own; (repeat (first | exact P0 | apply P1)); exact rfl; done) | (apply Rd.old; (first | (with_reducible assumption) | exact c0 | exact c1 | exact c2 | exact c3 | exact c4 | exact c5 | exact c6 | exact c7 | exact c8 | exact d0 | exact d1 | exact d2 | exact d3 | exact d4 | exact d5); first | exact List.not_mem_nil | exact m0 | exact m1 | exact m2 | exact m3 | exact m4 | exact m5 | exact m6 | exact m7 | exact m8 | exact m9) | (apply t_mix (id := 1) [0, 1, 2, 3, 4, 5, 6, 7, 8] 3 #[false, false, false, false, false, false, false, false, false, false, false, false]; kernel_rfl; kernel_rfl; exact rfl) | (with_reducible apply t_seq) | (apply t_region; kernel_rfl) | (apply t_drawn; kernel_rfl; decide +kernel; try simp only [List.append_eq, List.cons_append, List.nil_append]) | ((with_reducible apply t_condF); exact rfl) | ((with_reducible apply t_condD); exact rfl; all_goals first | (intro hp; try (exfalso; omega)) | skip) | (with_reducible apply t_ret) | (with_reducible apply t_skip) | with_reducible apply q_thenN | exact P0 | ((with_reducible apply Norm.nil); exact rfl) | ((with_reducible apply Norm.cons); exact rfl) | (with_reducible apply end_ret) | exact rvs_nil | (with_reducible apply rvs_cons) | ((with_reducible apply rv_tmp); exact rfl) | (apply al_done; decide +kernel) | (apply al_one 9; decide +kernel) | (apply al_one 10; decide +kernel) | (apply al_one 11; decide +kernel) | exact Nat.le_of_ble_eq_true rfl)
      all_goals rfl
     ·rw [decide_eq_false hk]
      refine enterQ (c := cx w 52) Try.func95 rfl rfl rfl rfl ?_
      repeat' (first | (apply oq_fn; exact rfl; try first | exact trivial | (and_intros <;> omega)) | ((with_reducible apply oq_load); exact rfl; exact rfl) | ((with_reducible apply oq_call (k := 63) (hc := Try.call63)); exact rfl; exact rfl; exact fun D w1 hw1 => fromOne hw0 hw1 (by (repeat (first | exact P0 | apply P1)))) | ((with_reducible apply oq_buildA); (iterate 4 exact rfl)) | (with_reducible apply tl_nil) | ((with_reducible apply u_q); (iterate 4 exact rfl)) | ((with_reducible apply u_s0); exact rfl; exact rfl) | ((with_reducible apply u_s); (iterate 3 exact rfl)) | (with_reducible apply v_nil) | ((with_reducible apply v_q); (iterate 3 exact rfl)) | ((with_reducible apply v_skip); (iterate 3 exact rfl)) | ((with_reducible apply v_splitD); exact rfl; exact rfl; all_goals first | (intro hp; try (exfalso; omega)) | skip) | ((with_reducible apply os_x); exact rfl) | ((with_reducible apply os_storeAgg); (iterate 5 exact rfl)) | ((with_reducible apply ox_alloc); exact rfl; intro _) | ((with_reducible apply ox_boxAgg); exact rfl; intro _) | ((with_reducible apply ox_buildSlice1); (iterate 6 exact rfl); intro _) | ((with_reducible apply ai_q); (iterate 5 exact rfl)) | ((with_reducible apply ai_x); (iterate 5 exact rfl)) | (apply Rd.own; (repeat (first | exact P0 | apply P1)); exact rfl; done) | (apply Rd.old; (first | (with_reducible assumption) | exact c0 | exact c1 | exact c2 | exact c3 | exact c4 | exact c5 | exact c6 | exact c7 | exact c8 | exact d0 | exact d1 | exact d2 | exact d3 | exact d4 | exact d5); first | exact List.not_mem_nil | exact m0 | exact m1 | exact m2 | exact m3 | exact m4 | exact m5 | exact m6 | exact m7 | exact m8 | exact m9) | (apply t_mix (id := 1) [0, 1, 2, 3, 4, 5, 6, 7, 8] 3 #[false, false, false, false, false, false, false, false, false, false, false, false]; kernel_rfl; kernel_rfl; exact rfl) | (with_reducible apply t_seq) | (apply t_region; kernel_rfl) | (apply t_drawn; kernel_rfl; decide +kernel; try simp only [List.append_eq, List.cons_append, List.nil_append]) | ((with_reducible apply t_condF); exact rfl) | ((with_reducible apply t_condD); exact rfl; all_goals first | (intro hp; try (exfalso; omega)) | skip) | (with_reducible apply t_ret) | (with_reducible apply t_skip) | with_reducible apply q_thenN | exact P0 | ((with_reducible apply Norm.nil); exact rfl) | ((with_reducible apply Norm.cons); exact rfl) | (with_reducible apply end_ret) | exact rvs_nil | (with_reducible apply rvs_cons) | ((with_reducible apply rv_tmp); exact rfl) | (apply al_done; decide +kernel) | (apply al_one 9; decide +kernel) | (apply al_one 10; decide +kernel) | (apply al_one 11; decide +kernel) | exact Nat.le_of_ble_eq_true rfl)
      all_goals rfl
 ·have hval : bookedB o.fl o.fee ⟨f, s, k⟩ = false := by unfold bookedB; simp only; rw [if_neg hin]
  rw [hval]
  have hw0 := allFrom_f (lo := 0) (hi := (o.fl.length : Int) - 1) (z := f) (by omega)
  refine enterQ (c := cx w 52) Try.func95 rfl rfl rfl rfl ?_
  repeat' (first | (apply oq_fn; exact rfl; try first | exact trivial | (and_intros <;> omega)) | ((with_reducible apply oq_load); exact rfl; exact rfl) | ((with_reducible apply oq_call (k := 63) (hc := Try.call63)); exact rfl; exact rfl; exact fun D w1 hw1 => fromOne hw0 hw1 (by (repeat (first | exact P0 | apply P1)))) | (with_reducible apply tl_nil) | ((with_reducible apply u_q); (iterate 4 exact rfl)) | ((with_reducible apply u_s); (iterate 3 exact rfl)) | (with_reducible apply v_nil) | ((with_reducible apply v_q); (iterate 3 exact rfl)) | ((with_reducible apply os_x); exact rfl) | ((with_reducible apply ox_boxAgg); exact rfl; intro _) | ((with_reducible apply ox_buildSlice1); (iterate 6 exact rfl); intro _) | ((with_reducible apply ai_q); (iterate 5 exact rfl)) | ((with_reducible apply ai_x); (iterate 5 exact rfl)) | (apply Rd.own; (repeat (first | exact P0 | apply P1)); exact rfl; done) | (apply Rd.old; (first | (with_reducible assumption) | exact c0 | exact c1 | exact c2 | exact c3 | exact c4 | exact c5 | exact c6 | exact c7 | exact c8 | exact d0 | exact d1 | exact d2 | exact d3 | exact d4 | exact d5); first | exact List.not_mem_nil | exact m0 | exact m1 | exact m2 | exact m3 | exact m4 | exact m5 | exact m6 | exact m7 | exact m8 | exact m9) | (apply t_mix (id := 1) [0, 1, 2, 3, 4, 5, 6, 7, 8] 3 #[false, false, false, false, false, false, false, false, false, false, false, false]; kernel_rfl; kernel_rfl; exact rfl) | (with_reducible apply t_seq) | (apply t_region; kernel_rfl) | ((with_reducible apply t_condT); exact rfl) | (with_reducible apply t_ret) | with_reducible apply q_thenN | with_reducible apply q_thenR | (with_reducible apply end_ret) | exact rvs_nil | (with_reducible apply rvs_cons) | ((with_reducible apply rv_tmp); exact rfl) | (apply al_done; decide +kernel) | (apply al_one 9; decide +kernel) | (apply al_one 10; decide +kernel) | (apply al_one 11; decide +kernel))
  all_goals rfl
end Go.Proofs.Ytmlmgipngbndgaa
namespace Go.Proofs.Ytmlmgipngbndgaa
open Go.RowKit
/-- An iterator: it asks Rq of the world between two rounds; at a yield of x, behind those of pre, it promises G; at its end E. -/
def SeqV {α : Type} (n : Nat) (P : Program) (g : Nat) (lb : Array Value) (encs : α → Array Value) (Rq : List α → World → Prop) (G : List α → α → World → Prop) (E : List α → World → Prop) : Prop :=
 ∀ (l : Nat) (J Jx : List α → World → Prop) (W : World), (∀ pre A B, J pre A → Ext A B → J pre B) → (∀ pre A B, Jx pre A → Ext A B → Jx pre B) → (∀ pre A, J pre A → Rq pre A) →
  (∀ pre x A, J pre A → G pre x A → YieldAt Fence.wide (n - 1) P l (encs x) A fun e B => (e = .returned (.bool true) ∧ J (pre ++ [x]) B) ∨ (e = .returned (.bool false) ∧ Jx (pre ++ [x]) B)) →
  J [] W → CallsIn Fence.wide n P g (#[.func (.yield l) #[] #[]] ++ lb) W fun e B => (∃ v, e = .returned v) ∧ ((∃ xs, E xs B ∧ J xs B) ∨ (∃ pre, Jx pre B))
/-- What abides growth, and the turn of a block that is no cells, from n0 on. -/
structure Abide {β : Type} (n0 : Nat) (I : β → World → Prop) : Prop where
 ext : ∀ s A B, I s A → Ext A B → I s B
 put : ∀ s A l o o', I s A → n0 ≤ l → A.heap[l]? = some o → o.isCells = false → I s (A.putObj l o')
/-- How a round's body may end. -/
def endV {α : Type} (n0 : Nat) (I : List α → World → Prop) (Ix : Code → List α → World → Prop) (xs : List α) (A : World) : Exit → Act → World → Prop
 | .normal, _, B => KeepsFrom n0 A B ∧ I xs B
 | .ret, _, B => KeepsFrom n0 A B ∧ Ix .ret xs B
 | .exit id, _, B => KeepsFrom n0 A B ∧ Ix (.exit id) xs B
 | .goto t, _, B => KeepsFrom n0 A B ∧ Ix (.goto t) xs B
 | .panic _, _, _ => False
 | .outgrown, _, _ => False
theorem ext_block {A B : World} (h : Ext A B) {k : Nat} {o : Obj} (hk : A.heap[k]? = some o) : B.heap[k]? = some o :=
 (h.block k (Array.getElem?_eq_some_iff.1 hk).1).trans hk
theorem wpIn_rangeV {P : Program} {n : Nat} {α : Type} {g : Operand} {ps : Array Tmp} {assign body : Code} {Q : Exit → Act → World → Prop} {a : Act} {w : World} (hn : 2 ≤ n) {gf : Nat} {lb : Array Value}
  (hg : a.eval g = .func (.func gf) #[] lb) (eg : ∀ args w, (callFunc gf args).run P w = .ok (.enter gf args) w) {encs : α → Array Value} {Rq : List α → World → Prop} {G : List α → α → World → Prop} {E : List α → World → Prop}
  (hseq : SeqV (n - 1) P gf lb encs Rq G E) (hps : ∀ x, (encs x).size = ps.size) (I : List α → World → Prop) (Ix : Code → List α → World → Prop) (hI : Abide w.heap.size I) (hIx : ∀ c, Abide w.heap.size (Ix c)) (hGa : ∀ x, Abide w.heap.size (fun pre W => G pre x W)) (hEa : Abide w.heap.size E)
  (hRq : ∀ pre A, I pre A → Rq pre A) (h0 : I [] w) (Ax : α → Act → World → Prop) (hAx : ∀ x a', Abide w.heap.size (fun (_ : Unit) W => Ax x a' W))
  (hassign : ∀ (l : Nat) (pre : List α) (x : α) (A : World) (K : Act → World → Prop), I pre A → (∀ a' B, Ext A B → Ax x a' B → K a' B) →
   assign.wpIn (Fence.wide.inRound l) (n - 1 - 1) P (Exit.then K (fun _ _ _ => False)) { tmps := (ps.zip (encs x)).foldl (fun t (p, v) => t.setIfInBounds p v) a.tmps, defers := [] } A)
  (hbody : ∀ (l : Nat) (pre : List α) (x : α) (a' : Act) (A : World), (∃ r, A.heap[l]? = some (.loop r)) → I pre A → G pre x A → Ax x a' A → body.wpIn (Fence.wide.inRound l) (n - 1 - 1) P (endV w.heap.size I Ix (pre ++ [x]) A) a' A)
  (hdone : ∀ (D : Nat) (xs : List α) (B : World), w.heap.size ≤ D → E xs B → I xs B → B.heap[D]? = some (.deferred (some [])) → Q .normal { a with defers := { target := .collected D, args := #[] } :: a.defers } B)
  (hstop : ∀ (D : Nat) (c : Code) (pre : List α) (B : World), w.heap.size ≤ D → Ix c pre B → B.heap[D]? = some (.deferred (some [])) → c.wpIn Fence.wide n P Q { a with defers := { target := .collected D, args := #[] } :: a.defers } B) :
  (Code.rangeFunc g ps assign body).wpIn Fence.wide n P Q a w := by
 refine wpIn_rangeFunc fun fn hfn => ?_
 -- the loop's record, in a state and with a jump that waits
 obtain ⟨R, hR⟩ : ∃ R : LoopState → Option Code → Loop, R = fun s j => { state := s, pending := j, fn, tmps := a.tmps, params := ps, assign, body, defers := w.heap.size } := ⟨_, rfl⟩
 obtain ⟨W1, hW1⟩ : ∃ W1, (w.alloc (.deferred (some []))).alloc (.loop (R .ready none)) = W1 := ⟨_, rfl⟩
 have e1 : Ext w W1 := by rw [← hW1]; exact ((Ext.refl w).alloc _).alloc _
 have l1 : W1.heap[w.heap.size + 1]? = some (.loop (R .ready none)) := by
  rw [← hW1]; have := World.alloc_heap_new (w.alloc (.deferred (some []))) (.loop (R .ready none)); rwa [World.size_alloc] at this
 have d1 : W1.heap[w.heap.size]? = some (.deferred (some [])) := by
  rw [← hW1]; exact (Below.heap_alloc _ _ _ (by simp)).trans (World.alloc_heap_new w _)
 have notC : ∀ r : Loop, (Obj.loop r).isCells = false := fun _ => rfl
 refine ⟨w.heap.size + 1, [{ target := .collected w.heap.size, args := #[] }], W1, { target := .fn (.func gf) lb, args := #[.func (.yield (w.heap.size + 1)) #[] #[]] }, W1, gf, #[.func (.yield (w.heap.size + 1)) #[] #[]] ++ lb, W1, ?_, ?_, fun _ _ => trivial, ?_, fun _ => by omega, ?_⟩
 ·rw [← hW1, hR]; exact run_enterLoop_outer _ _ _ _ _
 ·simp only [resolve, hg]
  simp [go_sem]
 ·simp [invoke, go_sem, eg]
 ·refine (hseq (w.heap.size + 1)
   (fun pre A => I pre A ∧ A.heap[w.heap.size + 1]? = some (.loop (R .ready none)) ∧ A.heap[w.heap.size]? = some (.deferred (some [])))
   (fun pre A => ∃ c, Ix c pre A ∧ A.heap[w.heap.size + 1]? = some (.loop (R .done (some c))) ∧ A.heap[w.heap.size]? = some (.deferred (some [])))
   W1 (fun pre A B h e => ⟨hI.ext _ _ _ h.1 e, ext_block e h.2.1, ext_block e h.2.2⟩) (fun pre A B ⟨c, h1, h2, h3⟩ e => ⟨c, (hIx c).ext _ _ _ h1 e, ext_block e h2, ext_block e h3⟩) (fun pre A h => hRq _ _ h.1) ?_ ⟨hI.ext _ _ _ h0 e1, l1, d1⟩).mono ?_
  ·rintro pre x A ⟨hi, hl, hd⟩ hG
   have hy := run_yield (P := P) (args := encs x) hl (by rw [hR]; exact hps x)
   rw [hR] at hy
   refine ⟨fn, _, assign, body, hy, roundIn_of_wpIn hfn (hassign _ pre x A _ hi fun a' B he hax => ?_)⟩
   have hlB := ext_block he hl
   have hdB := ext_block he hd
   have hltB := (Array.getElem?_eq_some_iff.1 hlB).1
   refine ⟨_, run_beginRound hlB (by rw [hR]), ?_⟩
   obtain ⟨C, hC⟩ : ∃ C, B.putObj (w.heap.size + 1) (.loop { R .ready none with state := .busy }) = C := ⟨_, rfl⟩
   have hlC : C.heap[w.heap.size + 1]? = some (.loop { R .ready none with state := .busy }) := by rw [← hC]; exact World.putObj_heap_same hltB
   have hdC : C.heap[w.heap.size]? = some (.deferred (some [])) := by rw [← hC]; exact (World.putObj_heap_other (by omega)).trans hdB
   rw [hC]
   refine wpIn_mono (hbody _ pre x a' C ⟨_, hlC⟩ (hC ▸ hI.put _ _ _ _ _ (hI.ext _ _ _ hi he) (by omega) hlB rfl) (hC ▸ (hGa x).put _ _ _ _ _ ((hGa x).ext _ _ _ hG he) (by omega) hlB rfl) (hC ▸ (hAx x a').put () _ _ _ _ hax (by omega) hlB rfl)) ?_
   -- the round's end, whatever the jump
   have fin : ∀ (j : Option Code) (D : World), KeepsFrom w.heap.size C D →
     (Instr.endRound (w.heap.size + 1) j).run P D = .ok (.bool j.isNone) (D.putObj (w.heap.size + 1) (.loop (R (if j.isNone then .ready else .done) j))) ∧ D.heap[w.heap.size + 1]? = some (.loop { R .ready none with state := .busy }) ∧
     (D.putObj (w.heap.size + 1) (.loop (R (if j.isNone then .ready else .done) j))).heap[w.heap.size + 1]? = some (.loop (R (if j.isNone then .ready else .done) j)) ∧
     (D.putObj (w.heap.size + 1) (.loop (R (if j.isNone then .ready else .done) j))).heap[w.heap.size]? = some (.deferred (some [])) := fun j D hk => by
    have hl3 := hk.same _ _ (by omega) hlC rfl
    have := run_endRound (P := P) j hl3
    rw [hR] at this ⊢
    exact ⟨this, by rw [hR] at hl3; exact hl3, World.putObj_heap_same (Array.getElem?_eq_some_iff.1 hl3).1, (World.putObj_heap_other (by omega)).trans (hk.same _ _ (Nat.le_refl _) hdC rfl)⟩
   intro e a3 D hp
   cases e with
   | normal =>
    obtain ⟨r1, r2, r3, r4⟩ := fin none D hp.1
    exact ⟨_, _, r1, .inl ⟨rfl, hI.put _ _ _ _ _ hp.2 (by omega) r2 rfl, r3, r4⟩⟩
   | ret =>
    obtain ⟨r1, r2, r3, r4⟩ := fin (some .ret) D hp.1
    exact ⟨_, _, r1, .inr ⟨rfl, .ret, (hIx _).put _ _ _ _ _ hp.2 (by omega) r2 rfl, r3, r4⟩⟩
   | exit id =>
    obtain ⟨r1, r2, r3, r4⟩ := fin (some (.exit id)) D hp.1
    exact ⟨_, _, r1, .inr ⟨rfl, .exit id, (hIx _).put _ _ _ _ _ hp.2 (by omega) r2 rfl, r3, r4⟩⟩
   | goto t =>
    obtain ⟨r1, r2, r3, r4⟩ := fin (some (.goto t)) D hp.1
    exact ⟨_, _, r1, .inr ⟨rfl, .goto t, (hIx _).put _ _ _ _ _ hp.2 (by omega) r2 rfl, r3, r4⟩⟩
   | panic ch => exact hp.elim
   | outgrown => exact hp.elim
  ·rintro e B ⟨⟨v, rfl⟩, (⟨xs, hE, hi, hl, hd⟩ | ⟨pre, c, hi, hl, hd⟩)⟩
   ·exact ⟨none, _, by have := run_endLoop (P := P) hl (by rw [hR]; simp); rw [hR] at this; exact this, hdone _ xs _ (Nat.le_refl _) (hEa.put _ _ _ _ _ hE (by omega) hl rfl) (hI.put _ _ _ _ _ hi (by omega) hl rfl) ((World.putObj_heap_other (by omega)).trans hd)⟩
   ·exact ⟨some c, _, by have := run_endLoop (P := P) hl (by rw [hR]; simp); rw [hR] at this; exact this, hstop _ c pre _ (Nat.le_refl _) ((hIx c).put _ _ _ _ _ hi (by omega) hl rfl) ((World.putObj_heap_other (by omega)).trans hd)⟩
theorem ext_grown {A B : World} (h : Ext A B) : A.grownBy B none := ⟨h.os, h.tape, h.output, h.size, fun k hk _ => h.block k hk⟩
section
variable {c : Cx} {Q : QS} {F : Fr} {H : Hp} {g : Operand} {ps : Array Tmp} {assign body : Code} {ι κ α β : Type}
/-- As SL0, or nothing at all. -/
def SLV (c : Cx) (k : Code) (R : Fr → Hp → Prop) (F : Fr) (H : Hp) : Prop := (k = .skip ∧ R F H) ∨ SL0 c k R F H
theorem SLV.wpIn {l m : Nat} {k : Code} {R : Fr → Hp → Prop} (h : SLV c k R F H) (D : List Nat) (a : Act) (w : World) (ha : Frm D c.N F a) (hw : Has c.w0 ⟨c.M, D⟩ H w) :
  k.wpIn (Fence.wide.inRound l) m c.P (fun e a' w' => e = .normal ∧ ∃ F' H', R F' H' ∧ Frm D c.N F' a' ∧ Has c.w0 ⟨c.M, D⟩ H' w') a w := by
 rcases h with ⟨rfl, h⟩ | h
 ·exact wpIn_skip ⟨rfl, F, H, h, ha, hw⟩
 ·exact SL0.wpIn k h D a w ha hw
structure RangeOkV (c : Cx) (F : Fr) (ns : List Nat) (hk : Hp) (ps : Array Tmp) (assign body : Code) (m : Nat) (encs : α → List Value) (G : List α → α → World → Prop)
  (hp : ι → Hp) (Pi : List α → ι → Prop) (bx : α → β → Hp) (fx : α → β → Fr) (hl : κ → Hp) (Pl : Code → List α → κ → Prop) : Prop where
 size : ∀ x, (encs x).length = ps.size
 slots : (ps.toList.all fun p => Nat.blt p c.N) = true
 assign_ : ∀ (x : α) (W : World), SLV { c with w0 := W, M := [] } assign (fun F' H' => ∃ bs, FrSub F' (fx x bs) ∧ HpSub H' (bx x bs)) (parF (ps.toList.zip (encs x)) F) []
 disj : ∀ x bs i n W D, Blks n (bx x bs) W → Has c.w0 ⟨c.M, D⟩ (hp i ++ hk) W → (∀ b ∈ ns, b < n) → ∀ y ∈ bx x bs, ∀ z ∈ hp i ++ hk, y.1 ≠ z.1
 body_ : ∀ (l : Nat) (pre : List α) (x : α) (i : ι) (bs : β) (W : World) (D : List Nat), Pi pre i → Has c.w0 ⟨c.M, D⟩ (bx x bs ++ hp i ++ hk) W → G pre x W → (∃ r, W.heap[l]? = some (.loop r)) →
  T { c with w0 := W, M := (bx x bs ++ hp i).map Prod.fst } (WS.round c.P l m) body (QB hp Pi hl Pl (pre ++ [x])) (fx x bs) (bx x bs ++ hp i)
theorem range_assignV {m : Nat} {ns : List Nat} {hk : Hp} {encs : α → List Value} {G : List α → α → World → Prop} {hp : ι → Hp} {Pi : List α → ι → Prop} {bx : α → β → Hp} {fx : α → β → Fr} {hl : κ → Hp} {Pl : Code → List α → κ → Prop}
  (R : RangeOkV c F ns hk ps assign body m encs G hp Pi bx fx hl Pl) {D : List Nat} {a : Act} (ha : Frm D c.N F a) (l : Nat) (x : α) (W : World) (n0 : Nat) (hn0 : n0 ≤ W.heap.size) (K : Act → World → Prop)
  (hK : ∀ a' W' bs, Ext W W' → Frm [] c.N (fx x bs) a' → Blks n0 (bx x bs) W' → K a' W') :
  assign.wpIn (Fence.wide.inRound l) m c.P (Exit.then K (fun _ _ _ => False)) { tmps := (ps.zip ⟨encs x⟩).foldl (fun t (p, v) => t.setIfInBounds p v) a.tmps, defers := [] } W := by
 have hF : Frm [] c.N (parF (ps.toList.zip (encs x)) F) { tmps := (ps.zip ⟨encs x⟩).foldl (fun t (p, v) => t.setIfInBounds p v) a.tmps, defers := [] } := by
  have h1 : Frm D c.N F ⟨a.tmps, D.map dmark⟩ := ⟨ha.size, rfl, ha.at_⟩
  have := Frm.par (ps.toList.zip (encs x)) (fun p hp => by
   have h2 := List.all_eq_true.1 R.slots
   exact h2 p.1 (List.of_mem_zip hp).1) h1
  have e : (ps.zip ⟨encs x⟩).foldl (fun t (p, v) => t.setIfInBounds p v) a.tmps = (ps.toList.zip (encs x)).foldl (fun t p => t.setIfInBounds p.1 p.2) a.tmps := by
   rw [← Array.foldl_toList, Array.toList_zip]
  rw [e]; exact this
 have h0 : Has W ⟨[], []⟩ [] W := Has.start W
 refine wpIn_mono (SLV.wpIn (R.assign_ x W) [] _ W hF h0) fun e a' W' he => ?_
 obtain ⟨rfl, F', H', ⟨bs, h1, h2⟩, h3, h4⟩ := he
 have h5 := h4.sub h2
 refine hK a' W' bs h4.ext.ext (h3.sub h1) ⟨fun y hy => ⟨?_, (h5.blk y hy).2⟩, h5.nodup⟩
 rcases (h5.blk y hy).1 with h6 | h6
 ·exact Nat.le_trans hn0 h6
 ·exact (List.not_mem_nil h6).elim
theorem range_bodyV {m : Nat} {hk X : Hp} {hp : ι → Hp} {Pi : List α → ι → Prop} {hl : κ → Hp} {Pl : Code → List α → κ → Prop} {Fx : Fr} {xs : List α} {D : List Nat} (n0 l : Nat) (a' : Act) (W : World)
  (h : T { c with w0 := W, M := X.map Prod.fst } (WS.round c.P l m) body (QB hp Pi hl Pl xs) Fx X) (hw : Has c.w0 ⟨c.M, D⟩ (X ++ hk) W) (ha : Frm [] c.N Fx a') (hn : n0 ≤ W.heap.size) :
  body.wpIn (Fence.wide.inRound l) m c.P (endV n0 (fun xs W' => ∃ j, Pi xs j ∧ Has c.w0 ⟨c.M, D⟩ (hp j ++ hk) W' ∧ n0 ≤ W'.heap.size) (fun k xs W' => ∃ j, Pl k xs j ∧ Has c.w0 ⟨c.M, D⟩ (hl j ++ hk) W') xs W) a' W := by
 have hself : Has W ⟨X.map Prod.fst, []⟩ X W := by
  refine ⟨ExtM.refl _ _, fun y hy => ⟨.inr (List.mem_map.2 ⟨y, hy, rfl⟩), (hw.blk y (List.mem_append_left _ hy)).2⟩, ?_, List.nodup_nil, fun k hk => (List.not_mem_nil hk).elim⟩
  have := hw.nodup
  rw [List.map_append, List.nodup_append] at this
  exact this.1
 refine wpIn_mono (h [] a' W ha hself) fun e a2 W' he => ?_
 obtain ⟨D', F', H', h1, h2, h3⟩ := he
 have hk0 : KeepsFrom n0 W W' := h3.ext.keeps (fun b hb => hw.cells (by rw [List.map_append]; exact List.mem_append_left _ hb))
 have h3' : Has W ⟨X.map Prod.fst, []⟩ H' W' := ⟨h3.ext, h3.blk, h3.nodup, List.nodup_nil, fun k hk => (List.not_mem_nil hk).elim⟩
 cases e with
 | normal =>
  obtain ⟨j, hj, hs⟩ := h1
  exact ⟨hk0, j, hj, hw.comp2 (h3'.sub hs), Nat.le_trans hn h3.ext.size⟩
 | ret =>
  obtain ⟨j, hj, hs⟩ := h1
  exact ⟨hk0, j, hj, hw.comp2 (h3'.sub hs)⟩
 | exit id =>
  obtain ⟨j, hj, hs⟩ := h1
  exact ⟨hk0, j, hj, hw.comp2 (h3'.sub hs)⟩
 | goto _ => exact h1.elim
 | panic _ => exact h1.elim
 | outgrown => exact h1.elim
/-- A loop over an iterator, outside of all rounds; its rounds may write what the iterator reads. -/
theorem t_rangeV {m gf : Nat} {lb : List Value} {encs : α → List Value} {Rq : List α → World → Prop} {G : List α → α → World → Prop} {E : List α → World → Prop} {hk : Hp} (hp : ι → Hp) (Pi : List α → ι → Prop) (bx : α → β → Hp) (fx : α → β → Fr) (hl : κ → Hp) (Pl : Code → List α → κ → Prop) (i0 : ι)
  (hev : ev F g = some (.func (.func gf) #[] ⟨lb⟩)) (eg : ∀ (args : Array Value) (w : World), (callFunc gf args).run c.P w = .ok (.enter gf args) w)
  (hseq : SeqV (m + 1) c.P gf ⟨lb⟩ (fun x => ⟨encs x⟩) Rq G E) (hGa : ∀ n0 x, Abide n0 (fun pre W => G pre x W)) (hEa : ∀ n0, Abide n0 E)
  (hRq : ∀ pre i D W, Pi pre i → Has c.w0 ⟨c.M, D⟩ (hp i ++ hk) W → Rq pre W)
  (h0 : Pi [] i0) (hH : HpSub H (hp i0 ++ hk)) (R : RangeOkV c F (H.map Prod.fst) hk ps assign body m encs G hp Pi bx fx hl Pl)
  (hdone : ∀ D xs i W, E xs W → Pi xs i → Has c.w0 ⟨c.M, D⟩ (hp i ++ hk) W → Q .normal F (hp i ++ hk)) (hstop : ∀ k pre j, Pl k pre j → T c (WS.own c.P) k Q F (hl j ++ hk)) : T c (WS.own c.P) (.rangeFunc g ps assign body) Q F H := by
 intro D a w ha hw
 refine (wpIn_wide (n := m + 2)).1 ?_
 have hD : ∀ k ∈ D, k < w.heap.size := fun k hk => mark_lt (hw.marks.2 k hk).2
 have put : ∀ (X : Hp) (A : World) (l : Nat) (o o' : Obj), Has c.w0 ⟨c.M, D⟩ X A → w.heap.size ≤ l → A.heap[l]? = some o → o.isCells = false → Has c.w0 ⟨c.M, D⟩ X (A.putObj l o') := fun X A l o o' h hl ho hc =>
  h.grown (grownBy_putObj' A l o') fun r e => by cases e; exact ⟨Nat.le_trans hw.ext.size hl, fun hm => by have := hD _ hm; omega, o, ho, hc⟩
 refine wpIn_rangeV (n := m + 2) (by omega) (gf := gf) (lb := ⟨lb⟩) (ha.ev hev) eg hseq (fun x => by simpa using R.size x)
  (fun xs W' => ∃ j, Pi xs j ∧ Has c.w0 ⟨c.M, D⟩ (hp j ++ hk) W' ∧ w.heap.size ≤ W'.heap.size) (fun k xs W' => ∃ j, Pl k xs j ∧ Has c.w0 ⟨c.M, D⟩ (hl j ++ hk) W')
  ⟨fun s A B ⟨j, h1, h2, h3⟩ he => ⟨j, h1, h2.grow he, Nat.le_trans h3 he.size⟩, fun s A l o o' ⟨j, h1, h2, h3⟩ hl ho hc => ⟨j, h1, put _ _ _ _ _ h2 hl ho hc, by simpa using h3⟩⟩
  (fun k => ⟨fun s A B ⟨j, h1, h2⟩ he => ⟨j, h1, h2.grow he⟩, fun s A l o o' ⟨j, h1, h2⟩ hl ho hc => ⟨j, h1, put _ _ _ _ _ h2 hl ho hc⟩⟩)
  (hGa _) (hEa _) (fun pre A ⟨j, h1, h2, _⟩ => hRq pre j D A h1 h2) ⟨i0, h0, hw.sub hH, Nat.le_refl _⟩
  (fun x a' W => ∃ bs, Frm [] c.N (fx x bs) a' ∧ Blks w.heap.size (bx x bs) W)
  (fun x a' => ⟨fun _ A B ⟨bs, h1, h2⟩ he => ⟨bs, h1, h2.grown (ext_grown he) (fun r e => by cases e)⟩, fun _ A l o o' ⟨bs, h1, h2⟩ hl ho hc => ⟨bs, h1, h2.grown (grownBy_putObj' A l o') (fun r e => by cases e; exact ⟨o, ho, hc⟩)⟩⟩) ?_ ?_ ?_ ?_
 ·intro l pre x A K ⟨j, h1, h2, h3⟩ hK
  exact range_assignV R ha l x A w.heap.size h3 K fun a' B bs he hf hb => hK a' B he ⟨bs, hf, hb⟩
 ·intro l pre x a' A hr ⟨j, h1, h2, h3⟩ hG ⟨bs, h4, h5⟩
  have hj := h2.join h5 hw.ext.size (R.disj x bs j _ A D h5 h2 (fun b hb => by obtain ⟨y, hy, rfl⟩ := List.mem_map.1 hb; exact (hw.blk y hy).2.lt))
  rw [← List.append_assoc] at hj
  exact range_bodyV w.heap.size l a' A (R.body_ l pre x j bs A D h1 hj hG hr) hj h4 h3
 ·intro D' xs B hD' hE ⟨j, h1, h2, h3⟩ hm
  refine ⟨D' :: D, F, hp j ++ hk, hdone D xs j B hE h1 h2, ⟨ha.size, by simp [ha.defers, dmark], ha.at_⟩, h2.ext, h2.blk, h2.nodup, List.nodup_cons.2 ⟨fun hmem => by have := hD _ hmem; omega, h2.marks.1⟩, fun k hk => ?_⟩
  rcases List.mem_cons.1 hk with rfl | hk
  ·exact ⟨Nat.le_trans hw.ext.size hD', hm⟩
  ·exact h2.marks.2 k hk
 ·intro D' k pre B hD' ⟨j, h1, h2⟩ hm
  refine wpIn_wide.2 (hstop k pre j h1 (D' :: D) _ B ⟨ha.size, by simp [ha.defers, dmark], ha.at_⟩ ⟨h2.ext, h2.blk, h2.nodup, List.nodup_cons.2 ⟨fun hmem => by have := hD _ hmem; omega, h2.marks.1⟩, fun k hk => ?_⟩)
  rcases List.mem_cons.1 hk with rfl | hk
  ·exact ⟨Nat.le_trans hw.ext.size hD', hm⟩
  ·exact h2.marks.2 k hk
end
end Go.Proofs.Ytmlmgipngbndgaa
