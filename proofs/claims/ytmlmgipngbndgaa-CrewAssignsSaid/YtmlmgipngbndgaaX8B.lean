/- A part of the proof: rules for walks, and contracts of functions (2). -/
import Derived.Test.YtmlmgipngbndgaaX8A
import Derived.Test.YtmlmgipngbndgaaChecked
import Derived.Laws.StructEq
import Derived.Laws.MakeOwn
import Derived.LoopN
set_option linter.unusedVariables false
set_option linter.unusedSimpArgs false
set_option maxRecDepth 100000
set_option maxHeartbeats 2000000
namespace Go.Proofs.Ytmlmgipngbndgaa
open Go.RowKit
def FOk (P : Program) : List Field → List (Nat × Nat × Bool) → Prop
  | [], [] => True
  | d :: ds, (off, n, g) :: fs => d.offset = off ∧ (∀ w, (sizeOf d.type).run P w = .ok n w) ∧ (∀ w, (isAgg d.type).run P w = .ok g w) ∧ FOk P ds fs
  | _, _ => False
theorem FOk.len {P : Program} {ds : Array Field} {fs : List (Nat × Nat × Bool)} (h : FOk P ds.toList fs) : ds.size = fs.length := by
  have : ∀ (l : List Field) (fs : List (Nat × Nat × Bool)), FOk P l fs → l.length = fs.length := by
    intro l
    induction l with
    | nil => intro fs h; cases fs with | nil => rfl | cons a b => exact h.elim
    | cons d l ih => intro fs h; cases fs with | nil => exact h.elim | cons a b => obtain ⟨x, y, z⟩ := a; simp [ih b h.2.2.2]
  simpa using this _ _ h
theorem FOk.at_ {P : Program} : ∀ {ds : List Field} {fs : List (Nat × Nat × Bool)}, FOk P ds fs → ∀ (f off n : Nat) (g : Bool), fs[f]? = some (off, n, g) →
      ∃ d : Field, ds[f]? = some d ∧ d.offset = off ∧ (∀ w, (sizeOf d.type).run P w = .ok n w) ∧ ∀ w, (isAgg d.type).run P w = .ok g w
  | [], [], _, f, off, n, g, h => by simp at h
  | [], _ :: _, h, _, _, _, _, _ => h.elim
  | _ :: _, [], h, _, _, _, _, _ => h.elim
  | d :: ds, (off', n', g') :: fs, h, 0, off, n, g, hf => by
    obtain ⟨rfl, rfl, rfl⟩ : off' = off ∧ n' = n ∧ g' = g := by simpa using hf
    exact ⟨d, rfl, h.1, h.2.1, h.2.2.1⟩
  | d :: ds, (off', n', g') :: fs, h, f + 1, off, n, g, hf => by
    obtain ⟨d', h1, h2⟩ := FOk.at_ h.2.2.2 f off n g (by simpa using hf)
    exact ⟨d', by simpa using h1, h2⟩
theorem struct_ok {P : Program} {t : Nat} {ds : Array Field} {fs : List (Nat × Nat × Bool)} (hu : ∀ w, (underlying t).run P w = .ok (.struct ds) w) (h : FOk P ds.toList fs) : KindOk P t (.struct fs) :=
  ⟨ds, hu, h.len, fun f off n g hf => by
    obtain ⟨d, h1, h2⟩ := h.at_ f off n g hf
    exact ⟨d, by simpa using h1, h2⟩⟩
theorem ty_ok3 : TyOk Try.prog 3 ⟨false, 1, [(.int .i64 0)], .int .i64⟩ := ⟨Try.isAgg3, Try.sizeOf3, fun w => ⟨_, Try.zeroValue3 w, rfl⟩, rfl, Try.runUnderlying3⟩ -- int
theorem ty_ok4 : TyOk Try.prog 4 ⟨false, 1, [(.bool false)], .other⟩ := ⟨Try.isAgg4, Try.sizeOf4, fun w => ⟨_, Try.zeroValue4 w, rfl⟩, rfl, trivial⟩ -- bool
theorem ty_ok5 : TyOk Try.prog 5 ⟨false, 1, [(.int .u8 0)], .int .u8⟩ := ⟨Try.isAgg5, Try.sizeOf5, fun w => ⟨_, Try.zeroValue5 w, rfl⟩, rfl, Try.runUnderlying5⟩ -- uint8
theorem ty_ok20 : TyOk Try.prog 20 ⟨false, 1, [.nilIface], .other⟩ := ⟨Try.isAgg20, Try.sizeOf20, fun w => ⟨_, Try.zeroValue20 w, rfl⟩, rfl, trivial⟩ -- interface {}
theorem ty_ok22 : TyOk Try.prog 22 ⟨false, 1, [(.slice none 0 0)], .slice 106⟩ := ⟨Try.isAgg22, Try.sizeOf22, fun w => ⟨_, Try.zeroValue22 w, rfl⟩, rfl, Try.runUnderlying22⟩ -- []api.Departure
theorem ty_ok23 : TyOk Try.prog 23 ⟨false, 1, [(.slice none 0 0)], .slice 71⟩ := ⟨Try.isAgg23, Try.sizeOf23, fun w => ⟨_, Try.zeroValue23 w, rfl⟩, rfl, Try.runUnderlying23⟩ -- []api.Booking
theorem ty_ok25 : TyOk Try.prog 25 ⟨true, 7, [.int .i64 0, .int .i64 0, .int .i64 0, .slice none 0 0, .slice none 0 0, .int .i64 0, .int .i64 0], .struct [(0, 1, false), (1, 1, false), (2, 1, false), (3, 1, false), (4, 1, false), (5, 1, false), (6, 1, false)]⟩ := ⟨Try.isAgg25, Try.sizeOf25, fun w => ⟨_, Try.zeroValue25 w, rfl⟩, rfl, struct_ok Try.runUnderlying25 ⟨rfl, Try.sizeOf3, Try.isAgg3, ⟨rfl, Try.sizeOf3, Try.isAgg3, ⟨rfl, Try.sizeOf3, Try.isAgg3, ⟨rfl, Try.sizeOf22, Try.isAgg22, ⟨rfl, Try.sizeOf23, Try.isAgg23, ⟨rfl, Try.sizeOf3, Try.isAgg3, ⟨rfl, Try.sizeOf3, Try.isAgg3, trivial⟩⟩⟩⟩⟩⟩⟩⟩ -- api.Office
theorem ty_ok27 : TyOk Try.prog 27 ⟨false, 1, [(.int .i64 0)], .int .i64⟩ := ⟨Try.isAgg27, Try.sizeOf27, fun w => ⟨_, Try.zeroValue27 w, rfl⟩, rfl, Try.runUnderlying27⟩ -- api.Errno
theorem ty_ok40 : TyOk Try.prog 40 ⟨true, 3, [.int .i64 0, .int .i64 0, .int .i64 0], .struct [(0, 1, false), (1, 1, false), (2, 1, false)]⟩ := ⟨Try.isAgg40, Try.sizeOf40, fun w => ⟨_, Try.zeroValue40 w, rfl⟩, rfl, struct_ok Try.runUnderlying40 ⟨rfl, Try.sizeOf3, Try.isAgg3, ⟨rfl, Try.sizeOf3, Try.isAgg3, ⟨rfl, Try.sizeOf3, Try.isAgg3, trivial⟩⟩⟩⟩ -- api.Care
theorem ty_ok41 : TyOk Try.prog 41 ⟨false, 1, [(.slice none 0 0)], .slice 3⟩ := ⟨Try.isAgg41, Try.sizeOf41, fun w => ⟨_, Try.zeroValue41 w, rfl⟩, rfl, Try.runUnderlying41⟩ -- []int
theorem ty_ok54 : TyOk Try.prog 54 ⟨false, 1, [(.slice none 0 0)], .slice 63⟩ := ⟨Try.isAgg54, Try.sizeOf54, fun w => ⟨_, Try.zeroValue54 w, rfl⟩, rfl, Try.runUnderlying54⟩ -- []api.Deal
theorem ty_ok63 : TyOk Try.prog 63 ⟨true, 5, [.int .u8 0, .int .i64 0, .int .i64 0, .int .i64 0, .int .i64 0], .struct [(0, 1, false), (1, 1, false), (2, 1, false), (3, 1, false), (4, 1, false)]⟩ := ⟨Try.isAgg63, Try.sizeOf63, fun w => ⟨_, Try.zeroValue63 w, rfl⟩, rfl, struct_ok Try.runUnderlying63 ⟨rfl, Try.sizeOf5, Try.isAgg5, ⟨rfl, Try.sizeOf3, Try.isAgg3, ⟨rfl, Try.sizeOf3, Try.isAgg3, ⟨rfl, Try.sizeOf3, Try.isAgg3, ⟨rfl, Try.sizeOf3, Try.isAgg3, trivial⟩⟩⟩⟩⟩⟩ -- api.Deal
theorem ty_ok71 : TyOk Try.prog 71 ⟨true, 3, [.int .i64 0, .int .u8 0, .int .i64 0], .struct [(0, 1, false), (1, 1, false), (2, 1, false)]⟩ := ⟨Try.isAgg71, Try.sizeOf71, fun w => ⟨_, Try.zeroValue71 w, rfl⟩, rfl, struct_ok Try.runUnderlying71 ⟨rfl, Try.sizeOf3, Try.isAgg3, ⟨rfl, Try.sizeOf5, Try.isAgg5, ⟨rfl, Try.sizeOf3, Try.isAgg3, trivial⟩⟩⟩⟩ -- api.Booking
theorem ty_ok74 : TyOk Try.prog 74 ⟨true, 4, [.int .i64 0, .int .i64 0, .int .i64 0, .int .i64 0], .struct [(0, 1, false), (1, 1, false), (2, 1, false), (3, 1, false)]⟩ := ⟨Try.isAgg74, Try.sizeOf74, fun w => ⟨_, Try.zeroValue74 w, rfl⟩, rfl, struct_ok Try.runUnderlying74 ⟨rfl, Try.sizeOf3, Try.isAgg3, ⟨rfl, Try.sizeOf3, Try.isAgg3, ⟨rfl, Try.sizeOf3, Try.isAgg3, ⟨rfl, Try.sizeOf3, Try.isAgg3, trivial⟩⟩⟩⟩⟩ -- api.Duty
theorem ty_ok75 : TyOk Try.prog 75 ⟨false, 1, [(.slice none 0 0)], .slice 101⟩ := ⟨Try.isAgg75, Try.sizeOf75, fun w => ⟨_, Try.zeroValue75 w, rfl⟩, rfl, Try.runUnderlying75⟩ -- []api.Shift
theorem ty_ok77 : TyOk Try.prog 77 ⟨false, 1, [(.slice none 0 0)], .slice 99⟩ := ⟨Try.isAgg77, Try.sizeOf77, fun w => ⟨_, Try.zeroValue77 w, rfl⟩, rfl, Try.runUnderlying77⟩ -- []api.Tired
theorem ty_ok89 : TyOk Try.prog 89 ⟨false, 1, [(.slice none 0 0)], .slice 114⟩ := ⟨Try.isAgg89, Try.sizeOf89, fun w => ⟨_, Try.zeroValue89 w, rfl⟩, rfl, Try.runUnderlying89⟩ -- []api.Trip
theorem ty_ok90 : TyOk Try.prog 90 ⟨false, 1, [(.slice none 0 0)], .slice 41⟩ := ⟨Try.isAgg90, Try.sizeOf90, fun w => ⟨_, Try.zeroValue90 w, rfl⟩, rfl, Try.runUnderlying90⟩ -- [][]int
theorem ty_ok99 : TyOk Try.prog 99 ⟨true, 3, [.int .i64 0, .int .i64 0, .int .i64 0], .struct [(0, 1, false), (1, 1, false), (2, 1, false)]⟩ := ⟨Try.isAgg99, Try.sizeOf99, fun w => ⟨_, Try.zeroValue99 w, rfl⟩, rfl, struct_ok Try.runUnderlying99 ⟨rfl, Try.sizeOf3, Try.isAgg3, ⟨rfl, Try.sizeOf3, Try.isAgg3, ⟨rfl, Try.sizeOf3, Try.isAgg3, trivial⟩⟩⟩⟩ -- api.Tired
theorem ty_ok101 : TyOk Try.prog 101 ⟨true, 3, [.int .i64 0, .int .i64 0, .int .i64 0], .struct [(0, 1, false), (1, 1, false), (2, 1, false)]⟩ := ⟨Try.isAgg101, Try.sizeOf101, fun w => ⟨_, Try.zeroValue101 w, rfl⟩, rfl, struct_ok Try.runUnderlying101 ⟨rfl, Try.sizeOf3, Try.isAgg3, ⟨rfl, Try.sizeOf3, Try.isAgg3, ⟨rfl, Try.sizeOf3, Try.isAgg3, trivial⟩⟩⟩⟩ -- api.Shift
theorem ty_ok106 : TyOk Try.prog 106 ⟨true, 4, [.int .i64 0, .int .i64 0, .int .i64 0, .int .u8 0], .struct [(0, 1, false), (1, 1, false), (2, 1, false), (3, 1, false)]⟩ := ⟨Try.isAgg106, Try.sizeOf106, fun w => ⟨_, Try.zeroValue106 w, rfl⟩, rfl, struct_ok Try.runUnderlying106 ⟨rfl, Try.sizeOf3, Try.isAgg3, ⟨rfl, Try.sizeOf3, Try.isAgg3, ⟨rfl, Try.sizeOf3, Try.isAgg3, ⟨rfl, Try.sizeOf5, Try.isAgg5, trivial⟩⟩⟩⟩⟩ -- api.Departure
theorem ty_ok109 : TyOk Try.prog 109 ⟨false, 1, [(.slice none 0 0)], .slice 5⟩ := ⟨Try.isAgg109, Try.sizeOf109, fun w => ⟨_, Try.zeroValue109 w, rfl⟩, rfl, Try.runUnderlying109⟩ -- []uint8
theorem ty_ok114 : TyOk Try.prog 114 ⟨true, 3, [.int .i64 0, .int .i64 0, .int .i64 0], .struct [(0, 1, false), (1, 1, false), (2, 1, false)]⟩ := ⟨Try.isAgg114, Try.sizeOf114, fun w => ⟨_, Try.zeroValue114 w, rfl⟩, rfl, struct_ok Try.runUnderlying114 ⟨rfl, Try.sizeOf3, Try.isAgg3, ⟨rfl, Try.sizeOf3, Try.isAgg3, ⟨rfl, Try.sizeOf3, Try.isAgg3, trivial⟩⟩⟩⟩ -- api.Trip
theorem ty_ok121 : TyOk Try.prog 121 ⟨false, 1, [(.pointer none)], .ptr 135⟩ := ⟨Try.isAgg121, Try.sizeOf121, fun w => ⟨_, Try.zeroValue121 w, rfl⟩, rfl, Try.runUnderlying121⟩ -- *crew.desk
theorem ty_ok129 : TyOk Try.prog 129 ⟨true, 4, [.int .i64 0, .int .i64 0, .int .i64 0, .int .i64 0], .struct [(0, 1, false), (1, 1, false), (2, 1, false), (3, 1, false)]⟩ := ⟨Try.isAgg129, Try.sizeOf129, fun w => ⟨_, Try.zeroValue129 w, rfl⟩, rfl, struct_ok Try.runUnderlying129 ⟨rfl, Try.sizeOf3, Try.isAgg3, ⟨rfl, Try.sizeOf3, Try.isAgg3, ⟨rfl, Try.sizeOf3, Try.isAgg3, ⟨rfl, Try.sizeOf3, Try.isAgg3, trivial⟩⟩⟩⟩⟩ -- crew.purse
theorem ty_ok133 : TyOk Try.prog 133 ⟨false, 1, [(.pointer none)], .ptr 71⟩ := ⟨Try.isAgg133, Try.sizeOf133, fun w => ⟨_, Try.zeroValue133 w, rfl⟩, rfl, Try.runUnderlying133⟩ -- *api.Booking
theorem ty_ok135 : TyOk Try.prog 135 ⟨true, 7, [.int .i64 0, .int .i64 0, .int .i64 0, .slice none 0 0, .slice none 0 0, .int .i64 0, .int .i64 0], .struct [(0, 7, true)]⟩ := ⟨Try.isAgg135, Try.sizeOf135, fun w => ⟨_, Try.zeroValue135 w, rfl⟩, rfl, struct_ok Try.runUnderlying135 ⟨rfl, Try.sizeOf25, Try.isAgg25, trivial⟩⟩ -- crew.desk
theorem ty_ok145 : TyOk Try.prog 145 ⟨false, 1, [.nilFunc], .other⟩ := ⟨Try.isAgg145, Try.sizeOf145, fun w => ⟨_, Try.zeroValue145 w, rfl⟩, rfl, trivial⟩ -- func(int) bool
theorem ty_ok150 : TyOk Try.prog 150 ⟨false, 1, [.nilFunc], .other⟩ := ⟨Try.isAgg150, Try.sizeOf150, fun w => ⟨_, Try.zeroValue150 w, rfl⟩, rfl, trivial⟩ -- func(api.Trip) bool
theorem ty_ok152 : TyOk Try.prog 152 ⟨false, 1, [.nilFunc], .other⟩ := ⟨Try.isAgg152, Try.sizeOf152, fun w => ⟨_, Try.zeroValue152 w, rfl⟩, rfl, trivial⟩ -- func(int, int, []api.Shift) bool
theorem ty_ok165 : TyOk Try.prog 165 ⟨false, 1, [(.int .u64 0)], .int .u64⟩ := ⟨Try.isAgg165, Try.sizeOf165, fun w => ⟨_, Try.zeroValue165 w, rfl⟩, rfl, Try.runUnderlying165⟩ -- uint
theorem ty_ok169 : TyOk Try.prog 169 ⟨true, 1, [.int .i64 0], .struct [(0, 1, false)]⟩ := ⟨Try.isAgg169, Try.sizeOf169, fun w => ⟨_, Try.zeroValue169 w, rfl⟩, rfl, struct_ok Try.runUnderlying169 ⟨rfl, Try.sizeOf27, Try.isAgg27, trivial⟩⟩ -- crew.refusal
theorem ty_ok171 : TyOk Try.prog 171 ⟨false, 1, [.nilFunc], .other⟩ := ⟨Try.isAgg171, Try.sizeOf171, fun w => ⟨_, Try.zeroValue171 w, rfl⟩, rfl, trivial⟩ -- func(*crew.desk, api.Deal)
theorem ty_ok172 : TyOk Try.prog 172 ⟨true, 8, [.nilFunc, .nilFunc, .nilFunc, .nilFunc, .nilFunc, .nilFunc, .nilFunc, .nilFunc], .array 8 171⟩ := ⟨Try.isAgg172, Try.sizeOf172, fun w => ⟨_, Try.zeroValue172 w, rfl⟩, rfl, Try.runUnderlying172⟩ -- [8]func(*crew.desk, api.Deal)
theorem ty_ok178 : TyOk Try.prog 178 ⟨false, 1, [(.slice none 0 0)], .slice 27⟩ := ⟨Try.isAgg178, Try.sizeOf178, fun w => ⟨_, Try.zeroValue178 w, rfl⟩, rfl, Try.runUnderlying178⟩ -- []api.Errno
theorem ty_ok180 : TyOk Try.prog 180 ⟨false, 1, [.nilFunc], .other⟩ := ⟨Try.isAgg180, Try.sizeOf180, fun w => ⟨_, Try.zeroValue180 w, rfl⟩, rfl, trivial⟩ -- func(api.Shift, api.Shift) int
theorem ty_ok181 : TyOk Try.prog 181 ⟨true, 2, [.int .i64 0, .bool false], .struct [(0, 1, false), (1, 1, false)]⟩ := ⟨Try.isAgg181, Try.sizeOf181, fun w => ⟨_, Try.zeroValue181 w, rfl⟩, rfl, struct_ok Try.runUnderlying181 ⟨rfl, Try.sizeOf3, Try.isAgg3, ⟨rfl, Try.sizeOf4, Try.isAgg4, trivial⟩⟩⟩ -- struct { kind int; is bool }
theorem ty_ok182 : TyOk Try.prog 182 ⟨true, 6, [.int .i64 0, .bool false, .int .i64 0, .bool false, .int .i64 0, .bool false], .array 3 181⟩ := ⟨Try.isAgg182, Try.sizeOf182, fun w => ⟨_, Try.zeroValue182 w, rfl⟩, rfl, Try.runUnderlying182⟩ -- [3]struct { kind int; is bool }
theorem ty_ok187 : TyOk Try.prog 187 ⟨true, 3, [.slice none 0 0, .slice none 0 0, .slice none 0 0], .array 3 109⟩ := ⟨Try.isAgg187, Try.sizeOf187, fun w => ⟨_, Try.zeroValue187 w, rfl⟩, rfl, Try.runUnderlying187⟩ -- [3][]uint8
theorem ty_ok190 : TyOk Try.prog 190 ⟨false, 1, [(.int .u32 0)], .int .u32⟩ := ⟨Try.isAgg190, Try.sizeOf190, fun w => ⟨_, Try.zeroValue190 w, rfl⟩, rfl, Try.runUnderlying190⟩ -- uint32
theorem ty_ok193 : TyOk Try.prog 193 ⟨false, 1, [(.int .u64 0)], .int .u64⟩ := ⟨Try.isAgg193, Try.sizeOf193, fun w => ⟨_, Try.zeroValue193 w, rfl⟩, rfl, Try.runUnderlying193⟩ -- uint64
def tys : List (Nat × TyI) := [(3, ⟨false, 1, [(.int .i64 0)], .int .i64⟩),
  (4, ⟨false, 1, [(.bool false)], .other⟩),
  (5, ⟨false, 1, [(.int .u8 0)], .int .u8⟩),
  (20, ⟨false, 1, [.nilIface], .other⟩),
  (22, ⟨false, 1, [(.slice none 0 0)], .slice 106⟩),
  (23, ⟨false, 1, [(.slice none 0 0)], .slice 71⟩),
  (25, ⟨true, 7, [.int .i64 0, .int .i64 0, .int .i64 0, .slice none 0 0, .slice none 0 0, .int .i64 0, .int .i64 0], .struct [(0, 1, false), (1, 1, false), (2, 1, false), (3, 1, false), (4, 1, false), (5, 1, false), (6, 1, false)]⟩),
  (27, ⟨false, 1, [(.int .i64 0)], .int .i64⟩),
  (40, ⟨true, 3, [.int .i64 0, .int .i64 0, .int .i64 0], .struct [(0, 1, false), (1, 1, false), (2, 1, false)]⟩),
  (41, ⟨false, 1, [(.slice none 0 0)], .slice 3⟩),
  (54, ⟨false, 1, [(.slice none 0 0)], .slice 63⟩),
  (63, ⟨true, 5, [.int .u8 0, .int .i64 0, .int .i64 0, .int .i64 0, .int .i64 0], .struct [(0, 1, false), (1, 1, false), (2, 1, false), (3, 1, false), (4, 1, false)]⟩),
  (71, ⟨true, 3, [.int .i64 0, .int .u8 0, .int .i64 0], .struct [(0, 1, false), (1, 1, false), (2, 1, false)]⟩),
  (74, ⟨true, 4, [.int .i64 0, .int .i64 0, .int .i64 0, .int .i64 0], .struct [(0, 1, false), (1, 1, false), (2, 1, false), (3, 1, false)]⟩),
  (75, ⟨false, 1, [(.slice none 0 0)], .slice 101⟩),
  (77, ⟨false, 1, [(.slice none 0 0)], .slice 99⟩),
  (89, ⟨false, 1, [(.slice none 0 0)], .slice 114⟩),
  (90, ⟨false, 1, [(.slice none 0 0)], .slice 41⟩),
  (99, ⟨true, 3, [.int .i64 0, .int .i64 0, .int .i64 0], .struct [(0, 1, false), (1, 1, false), (2, 1, false)]⟩),
  (101, ⟨true, 3, [.int .i64 0, .int .i64 0, .int .i64 0], .struct [(0, 1, false), (1, 1, false), (2, 1, false)]⟩),
  (106, ⟨true, 4, [.int .i64 0, .int .i64 0, .int .i64 0, .int .u8 0], .struct [(0, 1, false), (1, 1, false), (2, 1, false), (3, 1, false)]⟩),
  (109, ⟨false, 1, [(.slice none 0 0)], .slice 5⟩),
  (114, ⟨true, 3, [.int .i64 0, .int .i64 0, .int .i64 0], .struct [(0, 1, false), (1, 1, false), (2, 1, false)]⟩),
  (121, ⟨false, 1, [(.pointer none)], .ptr 135⟩),
  (129, ⟨true, 4, [.int .i64 0, .int .i64 0, .int .i64 0, .int .i64 0], .struct [(0, 1, false), (1, 1, false), (2, 1, false), (3, 1, false)]⟩),
  (133, ⟨false, 1, [(.pointer none)], .ptr 71⟩),
  (135, ⟨true, 7, [.int .i64 0, .int .i64 0, .int .i64 0, .slice none 0 0, .slice none 0 0, .int .i64 0, .int .i64 0], .struct [(0, 7, true)]⟩),
  (145, ⟨false, 1, [.nilFunc], .other⟩),
  (150, ⟨false, 1, [.nilFunc], .other⟩),
  (152, ⟨false, 1, [.nilFunc], .other⟩),
  (165, ⟨false, 1, [(.int .u64 0)], .int .u64⟩),
  (169, ⟨true, 1, [.int .i64 0], .struct [(0, 1, false)]⟩),
  (171, ⟨false, 1, [.nilFunc], .other⟩),
  (172, ⟨true, 8, [.nilFunc, .nilFunc, .nilFunc, .nilFunc, .nilFunc, .nilFunc, .nilFunc, .nilFunc], .array 8 171⟩),
  (178, ⟨false, 1, [(.slice none 0 0)], .slice 27⟩),
  (180, ⟨false, 1, [.nilFunc], .other⟩),
  (181, ⟨true, 2, [.int .i64 0, .bool false], .struct [(0, 1, false), (1, 1, false)]⟩),
  (182, ⟨true, 6, [.int .i64 0, .bool false, .int .i64 0, .bool false, .int .i64 0, .bool false], .array 3 181⟩),
  (187, ⟨true, 3, [.slice none 0 0, .slice none 0 0, .slice none 0 0], .array 3 109⟩),
  (190, ⟨false, 1, [(.int .u32 0)], .int .u32⟩),
  (193, ⟨false, 1, [(.int .u64 0)], .int .u64⟩)]
theorem tys_ok : ∀ x ∈ tys, TyOk Try.prog x.1 x.2 := by
  unfold tys
  refine List.forall_mem_cons.2 ⟨ty_ok3, ?_⟩
  refine List.forall_mem_cons.2 ⟨ty_ok4, ?_⟩
  refine List.forall_mem_cons.2 ⟨ty_ok5, ?_⟩
  refine List.forall_mem_cons.2 ⟨ty_ok20, ?_⟩
  refine List.forall_mem_cons.2 ⟨ty_ok22, ?_⟩
  refine List.forall_mem_cons.2 ⟨ty_ok23, ?_⟩
  refine List.forall_mem_cons.2 ⟨ty_ok25, ?_⟩
  refine List.forall_mem_cons.2 ⟨ty_ok27, ?_⟩
  refine List.forall_mem_cons.2 ⟨ty_ok40, ?_⟩
  refine List.forall_mem_cons.2 ⟨ty_ok41, ?_⟩
  refine List.forall_mem_cons.2 ⟨ty_ok54, ?_⟩
  refine List.forall_mem_cons.2 ⟨ty_ok63, ?_⟩
  refine List.forall_mem_cons.2 ⟨ty_ok71, ?_⟩
  refine List.forall_mem_cons.2 ⟨ty_ok74, ?_⟩
  refine List.forall_mem_cons.2 ⟨ty_ok75, ?_⟩
  refine List.forall_mem_cons.2 ⟨ty_ok77, ?_⟩
  refine List.forall_mem_cons.2 ⟨ty_ok89, ?_⟩
  refine List.forall_mem_cons.2 ⟨ty_ok90, ?_⟩
  refine List.forall_mem_cons.2 ⟨ty_ok99, ?_⟩
  refine List.forall_mem_cons.2 ⟨ty_ok101, ?_⟩
  refine List.forall_mem_cons.2 ⟨ty_ok106, ?_⟩
  refine List.forall_mem_cons.2 ⟨ty_ok109, ?_⟩
  refine List.forall_mem_cons.2 ⟨ty_ok114, ?_⟩
  refine List.forall_mem_cons.2 ⟨ty_ok121, ?_⟩
  refine List.forall_mem_cons.2 ⟨ty_ok129, ?_⟩
  refine List.forall_mem_cons.2 ⟨ty_ok133, ?_⟩
  refine List.forall_mem_cons.2 ⟨ty_ok135, ?_⟩
  refine List.forall_mem_cons.2 ⟨ty_ok145, ?_⟩
  refine List.forall_mem_cons.2 ⟨ty_ok150, ?_⟩
  refine List.forall_mem_cons.2 ⟨ty_ok152, ?_⟩
  refine List.forall_mem_cons.2 ⟨ty_ok165, ?_⟩
  refine List.forall_mem_cons.2 ⟨ty_ok169, ?_⟩
  refine List.forall_mem_cons.2 ⟨ty_ok171, ?_⟩
  refine List.forall_mem_cons.2 ⟨ty_ok172, ?_⟩
  refine List.forall_mem_cons.2 ⟨ty_ok178, ?_⟩
  refine List.forall_mem_cons.2 ⟨ty_ok180, ?_⟩
  refine List.forall_mem_cons.2 ⟨ty_ok181, ?_⟩
  refine List.forall_mem_cons.2 ⟨ty_ok182, ?_⟩
  refine List.forall_mem_cons.2 ⟨ty_ok187, ?_⟩
  refine List.forall_mem_cons.2 ⟨ty_ok190, ?_⟩
  refine List.forall_mem_cons.2 ⟨ty_ok193, ?_⟩
  exact fun x hx => (List.not_mem_nil hx).elim
theorem app_ok41 : AppOk Try.prog 41 3 1 8 := ⟨Try.underlying41, ⟨Try.t3, _, (by kernel_rfl), rfl, rfl, rfl, rfl⟩, by decide⟩
theorem app_ok75 : AppOk Try.prog 75 101 3 24 := ⟨Try.underlying75, ⟨Try.t101, _, (by kernel_rfl), rfl, rfl, rfl, rfl⟩, by decide⟩
theorem app_ok77 : AppOk Try.prog 77 99 3 24 := ⟨Try.underlying77, ⟨Try.t99, _, (by kernel_rfl), rfl, rfl, rfl, rfl⟩, by decide⟩
theorem app_ok90 : AppOk Try.prog 90 41 1 24 := ⟨Try.underlying90, ⟨Try.t41, _, (by kernel_rfl), rfl, rfl, rfl, rfl⟩, by decide⟩
/-- The setting of a walk that only adds to the world. -/
@[reducible] noncomputable def cx (w : World) (N : Nat) : Cx := ⟨Try.prog, tys, tys_ok, w, [], N⟩
/-- The setting of a walk that may write the blocks M. -/
@[reducible] noncomputable def cxM (M : List Nat) (w : World) (N : Nat) : Cx := ⟨Try.prog, tys, tys_ok, w, M, N⟩
section
variable {c : Cx} {F : Fr} {H H' : Hp} {K : Value → Hp → Prop} {d : Option Tmp} {ty : TypeId} {pos : String} {af : Array Edge} {g : Option (Nat × Bool)} {C C' : List Value} {b : Nat} {tg : Tg} {v : Value}
/-- A call that writes block b, and else only adds to the world. -/
theorem os_callW {f : Operand} {args : Array Operand} {T : Array TypeId} {k : Nat} {fst cap vs : List Value} (hf : ev F f = some (.func (.func k) ⟨fst⟩ ⟨cap⟩)) (hc : ∀ (a : Array Value) (w : World), (callFunc k a).run c.P w = .ok (.enter k a) w)
    (ha : evs F args.toList = some vs) (hp : Pick H b C tg H') (h : ∀ D w, Has c.w0 ⟨c.M, D⟩ H w → Calls c.P k ⟨fst ++ vs ++ cap⟩ w fun e w' => e = .returned v ∧ ExtM [b] w w' ∧ Blk w' b C' tg)
    (hk : K v ((b, C', tg) :: H')) : OS c ⟨d, .call ⟨.value f, args, T⟩, ty, pos, af, g⟩ F H K :=
  os_call hf hc ha fun D w hw => (h D w hw).mono fun e w' ⟨h1, h2, h3⟩ => ⟨v, _, h1, hk, (hw.perm hp.perm).wrote h2 h3⟩
/-- A function that writes block b, and else only adds to the world. -/
theorem enterW {k : FuncId} {fn : Func} {code : Code} {rs : List ResultVar} {args : List Value} {V : Value} (hf : c.P.funcs[k]? = some fn) (hb : fn.body = some code) (hrs : fn.results = ⟨rs⟩) (hN : c.N = args.length + (fn.ntmps - args.length)) (hM : c.M = [b]) (hB : Blk c.w0 b C tg)
    (h : T c (WS.own c.P) code (endQ c rs fun v H => v = V ∧ HpSub H [(b, C', tg)]) (frOf 0 args) [(b, C, tg)]) : Calls c.P k ⟨args⟩ c.w0 fun e w' => e = .returned V ∧ ExtM [b] c.w0 w' ∧ Blk w' b C' tg := by
  refine (enter hf hb hrs hN (fun d v hv => (look_frOf args 0 d v hv).2) ?_ h).mono fun e w' ⟨v, H', h1, ⟨h2, h3⟩, h4⟩ => ⟨by rw [h1, h2], ?_, ?_⟩
  · rw [hM]
    refine ⟨ExtM.refl _ _, fun x hx => ?_, by simp, List.nodup_nil, fun k hk => (List.not_mem_nil hk).elim⟩
    obtain rfl : x = _ := by simpa using hx
    exact ⟨.inr (by simp), hB⟩
  · have := h4.ext; rw [hM] at this; exact this
  · exact ((h4.sub h3).blk _ (List.mem_cons_self ..)).2
end
theorem eqF_cons {P : Program} {w : World} {d : Nat} {xs ys : Array Value} {f : Field} {fs : List Field} {u v : Value} {q : Bool} (hn : (f.name == "_") = false) (hx : (part f.type xs f.offset).run P w = .ok u w) (hy : (part f.type ys f.offset).run P w = .ok v w)
    (he : (Op.equalIn d f.type u v).run P w = .ok q w) : (Op.eqFields d xs ys (f :: fs)).run P w = if q then (Op.eqFields d xs ys fs).run P w else .ok false w := by
  have hn' : f.name ≠ "_" := by simpa using hn
  simp only [Op.eqFields, hn', ne_eq, not_false_eq_true, if_true, Sem.run_bind, hx, hy, he, Result.andThen_ok]
  cases q <;> simp [Sem.run_pure]
theorem part_cell {P : Program} {w : World} {t o : Nat} {xs : List Value} {v : Value} (ha : (isAgg t).run P w = .ok false w) (hv : xs[o]? = some v) : (part t ⟨xs⟩ o).run P w = .ok v w := by
  simp [part, Sem.run_bind, ha, Result.andThen, go_sem, hv]
theorem eq_int3 {w : World} {d : Nat} {a b : Int} : (Op.equalIn (d + 1) 3 (.int .i64 a) (.int .i64 b)).run Try.prog w = .ok (decide (a = b)) w := by
  rw [run_equalIn_int w d 3 .i64 .i64 a b Try.underlying3]
  rfl
theorem eqF_int {w : World} {d o : Nat} {xs ys : List Value} {f : Field} {fs : List Field} {a b : Int} {q : Bool} (hn : (f.name == "_") = false) (ht : f.type = 3) (ho : f.offset = o) (hx : xs[o]? = some (.int .i64 a)) (hy : ys[o]? = some (.int .i64 b))
    (hr : (Op.eqFields (d + 1) ⟨xs⟩ ⟨ys⟩ fs).run Try.prog w = .ok q w) : (Op.eqFields (d + 1) ⟨xs⟩ ⟨ys⟩ (f :: fs)).run Try.prog w = .ok (decide (a = b) && q) w := by
  rw [eqF_cons hn (by rw [ht, ho]; exact part_cell (Try.isAgg3 w) hx) (by rw [ht, ho]; exact part_cell (Try.isAgg3 w) hy) (by rw [ht]; exact eq_int3), hr]
  by_cases h : a = b <;> simp [h]
theorem eqF_nil {w : World} {d : Nat} {xs ys : Array Value} : (Op.eqFields d xs ys []).run Try.prog w = .ok true w := by simp [Op.eqFields, Sem.run_pure]
section
variable {w : World} {N : Nat} {F : Fr} {H : Hp} {M : List Nat} {d : Option Tmp} {ty t' : TypeId} {pos : String} {af : Array Edge} {g : Option (Nat × Bool)} {x y : Operand} {a0 a1 a2 a3 a4 b0 b1 b2 b3 b4 : Int}
theorem oq_neS {t : TypeId} {xs ys : Array Value} {q : Bool} (hm : Try.prog.eqGuardType Try.prog.depth t = false) (he : ∀ w, (Op.equalIn 10000 t (.agg xs) (.agg ys)).run Try.prog w = .ok q w) (hx : ev F x = some (.agg xs)) (hy : ev F y = some (.agg ys)) :
    OQ (cxM M w N) ⟨d, .binOp .neq t x y t', ty, pos, af, g⟩ F H (.bool (!q)) := .of fun D a w ha _ => by
  simp only [execOp, ha.ev hx, ha.ev hy, Sem.run_bind, run_eqGuard_agg _ _ _ _ _ _ _ hm, Result.andThen]
  rw [run_neq_struct, he]
  rfl
end
/-- A slice that is not nil. -/
theorem oq_eqNil {c : Cx} {F : Fr} {H : Hp} {d : Option Tmp} {ty t t' : TypeId} {pos : String} {af : Array Edge} {g : Option (Nat × Bool)} {x y : Operand} {p : Addr} {n cp e s0 : Nat} {a0 : Bool} {z0 : List Value} (ht : tyAt c.tys t = some ⟨a0, s0, z0, .slice e⟩)
    (hx : ev F x = some (.slice (some p) n cp)) (hy : ev F y = some (.slice none 0 0)) : OQ c ⟨d, .binOp .eql t x y t', ty, pos, af, g⟩ F H (.bool false) := .of fun D a w ha _ => by
  have hk := (c.ty ht).kind w
  have e0 : (Op.equalIn 10000 t (.slice (some p) n cp) (.slice none 0 0)).run c.P w = .ok false w := by
    have key : ∀ d : Nat, (Op.equalIn (d + 1) t (.slice (some p) n cp) (.slice none 0 0)).run c.P w = .ok false w := fun d => by
      simp only [Op.equalIn, Sem.run_bind, hk, Result.andThen, Sem.run_pure]
    exact key 9999
  have e : (binOp .eql t (.slice (some p) n cp) (.slice none 0 0)).run c.P w = .ok (.bool false) w := by
    simp only [binOp, Op.equal, Op.maxDepth, Sem.run_bind, e0, Result.andThen, Sem.run_pure]
  have e1 : (eqGuard .eql t x y (.slice (some p) n cp) (.slice none 0 0)).run c.P w = .ok () w := by simp [eqGuard, go_sem]
  simp only [execOp, ha.ev hx, ha.ev hy, Sem.run_bind, e, e1, Result.andThen, Sem.run_pure]
/-- All that the listed operations wait for is listed. -/
def downB (ops : List Oper) (listed : Array Bool) : Bool := go ops 0
where
  go : List Oper → Nat → Bool
  | [], _ => true
  | o :: r, k => (!listed.getD k false || o.after.all fun e => !Region.binds .any e || listed.getD e.on false) && go r (k + 1)
theorem downB_go {listed : Array Bool} : ∀ {ops : List Oper} {k j : Nat} {o : Oper}, downB.go listed ops k = true → ops[j]? = some o → listed.getD (k + j) false = true → ∀ e ∈ o.after, Region.binds .any e = true → listed.getD e.on false = true
  | [], _, _, _, _, h, _ => by simp at h
  | o' :: r, k, 0, o, h, ho, hl => by
    unfold downB.go at h
    obtain rfl : o' = o := by simpa using ho
    intro e he hb
    simp only [Bool.and_eq_true, Bool.or_eq_true, Bool.not_eq_true', Array.all_eq_true_iff_forall_mem] at h
    rcases h.1 with h1 | h1
    · rw [show k + 0 = k from rfl, h1] at hl; cases hl
    · rcases h1 e he with h2 | h2
      · rw [h2] at hb; cases hb
      · exact h2
  | o' :: r, k, j + 1, o, h, ho, hl => by
    unfold downB.go at h
    simp only [Bool.and_eq_true] at h
    exact downB_go (k := k + 1) (j := j) h.2 (by simpa using ho) (by rw [show k + 1 + j = k + (j + 1) by omega]; exact hl)
theorem downB_spec {l : List Oper} {listed : Array Bool} (h : downB l listed = true) : Down ⟨l⟩ listed := fun k o hk ho e he hb =>
  downB_go (k := 0) (j := k) h (by simpa using ho) (by simpa using hk) e he hb
theorem al_more {c : Cx} {l ql : List Oper} {cov : Array Bool} {H0 H : Hp} {n : Nat} {listed : Array Bool} {R : Fr → Hp → Prop} {F : Fr} (q : List Nat) (m : Nat) (hB : (Region.noSelect ⟨l⟩ && downB l listed && lexOk ⟨l⟩ cov q listed) = true) (hn : n = m + q.length) (hq : pickOps l q = some ql) (hs : HpSub H H0)
    (h : GX c ⟨l⟩ ql (fun F' => AL c ⟨l⟩ cov H0 m (listedBy q listed) R F' H0) F H0) : AL c ⟨l⟩ cov H0 n listed R F H := fun D a w ha hw => by
  subst hn
  simp only [Bool.and_eq_true] at hB
  exact SAnyI_lex (Has.up (M := ⟨c.M, D⟩)) hB.1.1 m q listed a hB.2 (downB_spec hB.1.2) (wpGI_mono (fun a' ⟨F', h1, h2⟩ w' hw' => h1 D a' w' h2 hw') q a (h q (pickOps_spec hq) D a ha)) w (hw.sub hs)
section
variable {c : Cx} {F : Fr} {H : Hp} {d : Option Tmp} {ty t : TypeId} {pos : String} {af : Array Edge} {g : Option (Nat × Bool)} {x y z : Operand}
end
theorem madeCells_rows (zs : List Value) : ∀ n : Nat, (madeCells zs.toArray (n * zs.length)).toList = (List.replicate n zs).flatten := by
  intro n
  have key : (List.range (n * zs.length)).map (fun j => zs[j % zs.length]!) = (List.replicate n zs).flatten := by
    induction n with
    | zero => simp
    | succ n ih =>
      rw [Nat.succ_mul, Nat.add_comm, List.range_add, List.map_append, List.map_map, List.replicate_succ, List.flatten_cons, ← ih]
      congr 1
      · refine List.ext_getElem (by simp) fun i h1 h2 => ?_
        simp at h1
        simp [Nat.mod_eq_of_lt h1, h1]
      · refine List.map_congr_left fun j _ => ?_
        simp
  rw [← key]
  simp [madeCells]
theorem ox_make {c : Cx} {F : Fr} {H : Hp} {K : Value → Hp → Prop} {d : Option Tmp} {ty : TypeId} {pos : String} {af : Array Edge} {g : Option (Nat × Bool)} {x y : Operand} {t e size bytes n : Nat} {z : Value} {zs : List Value} (hk : AppOk c.P t e size bytes) (hz : (c.P.info? e).map (fun i => i.zero) = some (some z)) (hzs : z.cells = zs.toArray) (hl : zs.length = size)
    (hx : ev F x = some (.int .i64 (n : Int))) (hy : ev F y = some (.int .i64 (n : Int))) (hb : bytes * n ≤ 281474976710656) (hn : n ≤ maxLen) (k : ∀ b, K (.slice (some ⟨b, 0, none⟩) n n) ((b, (List.replicate n zs).flatten, some (e, size, n)) :: H)) : OX c ⟨d, .makeSlice t x y, ty, pos, af, g⟩ F H K := by
  intro D a w ha hw
  obtain ⟨i, z', k1, k2, k3, k4, k5⟩ := hk.info
  have hz' : i.zero = some z := by rw [k1] at hz; simpa using hz
  have hn' : (n : Int) ≤ 9223372036854775807 := by unfold maxLen at hn; omega
  have hb' : (i.bytes : Int) * (n : Int) ≤ 281474976710656 := by
    have h : ((i.bytes * n : Nat) : Int) ≤ 281474976710656 := by rw [k4]; omega
    rwa [Int.natCast_mul] at h
  have hr := run_make (P := c.P) w t e i z hk.und k1 hz' .i64 .i64 n n (by omega) (Int.le_refl _) hb' hn'
  simp only [Int.toNat_natCast, k3, hzs] at hr
  have hc : (madeCells zs.toArray (n * size)) = ((List.replicate n zs).flatten).toArray := by
    rw [← Array.toList_inj, ← hl, madeCells_rows]
  rw [hc] at hr
  have : (execOp a.eval ⟨d, .makeSlice t x y, ty, pos, af, g⟩).run c.P w = .ok (.value (.slice (some ⟨w.heap.size, 0, none⟩) n n)) (w.alloc (.cells ((List.replicate n zs).flatten).toArray e)) := by
    simp [execOp, ha.ev hx, ha.ev hy, Sem.run_bind, Sem.run_pure, Result.andThen, hr]
  rw [this]
  exact ⟨⟨_, k w.heap.size, hw.fresh ((Ext.refl w).alloc _) (Nat.le_refl _) (Blk.row w _ e size n (by simp [hl]) hn)⟩, (Ext.refl w).alloc _⟩
section
variable {c : Cx} {S : WS c.P} {Q : QS} {F : Fr} {H : Hp}
end
end Go.Proofs.Ytmlmgipngbndgaa
namespace Go.Proofs.Ytmlmgipngbndgaa
open Go.RowKit
attribute [local irreducible] OQ OS OX Rd T TL GX GL AL AI RV wpG SAny Calls
def inCells (z : Int) : List Value := [.int .i64 z]
theorem in_read {w : World} {A : Option Addr} {n : Nat} {l : List Int} (h : RdS w 1 A n (l.map inCells)) {i : Nat} (hi : i < n) :
    ∃ b o x, A = some ⟨b, o, none⟩ ∧ b < w.heap.size ∧ l[i]? = some x ∧ w.cell? ⟨b, o + i * 1, none⟩ = some (.int .i64 x) := by
  obtain ⟨b, o, cs, hA, hb, hx, _, hc⟩ := h.row hi
  simp only [List.getElem?_map, Option.map_eq_some_iff] at hx
  obtain ⟨x, hx, rfl⟩ := hx
  exact ⟨b, o, x, hA, hb, hx, hc 0 _ rfl⟩
def idxV {α : Type} (p : α → Bool) (l : List α) : Int := match l.findIdx? p with | some i => (i : Int) | none => -1
theorem idxV_some {α : Type} {p : α → Bool} {l : List α} {k : Nat} {x : α} (h : l[k]? = some x) (hp : p x = true) (hb : ∀ y ∈ l.take k, p y = false) : idxV p l = (k : Int) := by
  have : l.findIdx? p = some k := by
    rw [List.findIdx?_eq_some_iff_getElem]
    obtain ⟨hk, rfl⟩ := List.getElem?_eq_some_iff.1 h
    refine ⟨hk, hp, fun j hj => ?_⟩
    have := hb l[j] (List.mem_iff_getElem.2 ⟨j, by simp; omega, by simp⟩)
    simp [this]
  unfold idxV; rw [this]
theorem idxV_none {α : Type} {p : α → Bool} {l : List α} (hb : ∀ y ∈ l, p y = false) : idxV p l = -1 := by
  have : l.findIdx? p = none := List.findIdx?_eq_none_iff.2 hb
  unfold idxV; rw [this]
theorem idxV_any {α : Type} {p : α → Bool} {l : List α} : decide (0 ≤ idxV p l) = l.any p := by
  unfold idxV
  cases h : l.findIdx? p with
  | some i =>
    obtain ⟨hi, hp, _⟩ := List.findIdx?_eq_some_iff_getElem.1 h
    have h2 : l.any p = true := List.any_eq_true.2 ⟨l[i], List.getElem_mem hi, hp⟩
    rw [h2]
    simp
  | none =>
    have := List.findIdx?_eq_none_iff.1 h
    have h2 : l.any p = false := by
      rw [Bool.eq_false_iff, Ne, List.any_eq_true]
      rintro ⟨x, hx, hp⟩
      rw [this x hx] at hp; cases hp
    rw [h2]
    rfl
theorem indexInt_calls (f : Nat) (caps : List Value) (p : Int → Bool) (A : Option Addr) (n c : Nat) (l : List Int) (w : World) (hr : RdS w 1 A n (l.map inCells)) (hn : n ≤ 1000000) (hc : ∀ (a : Array Value) (w : World), (callFunc f a).run Try.prog w = .ok (.enter f a) w)
    (hf : ∀ x ∈ l, ∀ w1, Ext w w1 → Calls Try.prog f ⟨.int .i64 x :: caps⟩ w1 fun e w' => e = .returned (.bool (p x)) ∧ Ext w1 w') :
    Calls Try.prog 76 #[.slice A n c, .func (.func f) #[] ⟨caps⟩] w fun e w' => e = .returned (.int .i64 (idxV p l)) ∧ Ext w w' := by
  have hl := hr.len
  simp only [List.length_map] at hl
  
  refine enterQ (c := cx w 19) Try.func76 rfl rfl rfl rfl ?_
  repeat' (first | ((with_reducible apply oq_id); first | (apply oq_fn; exact rfl; try first | exact trivial | (and_intros <;> omega))) | ((with_reducible apply tl_id); first | (with_reducible apply tl_nil) | ((with_reducible apply u_q); (iterate 4 exact rfl))) | ((with_reducible apply t_id); first | (with_reducible apply t_seq) | (apply t_region; kernel_rfl) | (with_reducible apply t_block)) | with_reducible apply q_thenN)
  apply t_loopK (ι := Nat) [0, 1, 7] (fun k => [(8, .int .i64 (k : Nat))]) (fun _ => []) (fun k => k ≤ n ∧ ∀ x ∈ l.take k, p x = false) (fun k => n - k) (0)
  (repeat (first | exact KeepF.nil | (apply KeepF.cons; exact rfl) | apply KeepF.skip))
  (repeat (first | exact FrSub.nil | (apply FrSub.cons; exact rfl)))
  (repeat (first | exact HpSub.refl _ | (apply HpSub.consE; (repeat (first | exact P0 | apply P1)); exact rfl) | exact HpSub.nil))
  · exact ⟨by omega, by simp⟩
  rintro k ⟨hk, hkp⟩
  try simp only [List.cons_append, List.nil_append]
  by_cases hlt : k < n
  · obtain ⟨b1, o1, x, rfl, _, hx, c0⟩ := in_read hr hlt
    have hfx := hf x (List.mem_of_getElem? hx)
    cases hpx : p x with
    | true =>
      rw [hpx] at hfx
      repeat' (first | ((with_reducible apply oq_id); first | (focus ((with_reducible apply oq_indexAddrN); (iterate 4 exact rfl); omega)) | (apply oq_fn; exact rfl; try first | exact trivial | (and_intros <;> omega)) | ((with_reducible apply oq_load); exact rfl; exact rfl) | ((with_reducible apply oq_call (k := f) (hc := hc)); exact rfl; exact rfl; exact fun D w1 hw1 => hfx w1 hw1.ext.ext)) | ((with_reducible apply tl_id); first | (with_reducible apply tl_nil) | ((with_reducible apply u_q); (iterate 4 exact rfl))) | ((with_reducible apply rd_id); first | (apply Rd.old; (first | (with_reducible assumption) | exact c0 | exact c1 | exact c2 | exact c3 | exact c4 | exact c5 | exact c6 | exact c7 | exact c8 | exact d0 | exact d1 | exact d2 | exact d3 | exact d4 | exact d5); first | exact List.not_mem_nil | exact m0 | exact m1 | exact m2 | exact m3 | exact m4 | exact m5 | exact m6 | exact m7 | exact m8 | exact m9)) | ((with_reducible apply t_id); first | (with_reducible apply t_seq) | (apply t_region; kernel_rfl) | ((with_reducible apply t_condT); exact rfl) | ((with_reducible apply t_condD); exact rfl; all_goals first | (intro hp; try (exfalso; omega)) | skip) | (with_reducible apply t_ret) | (with_reducible apply t_skip) | (with_reducible apply t_block)) | with_reducible apply q_thenN | with_reducible apply q_thenR | with_reducible apply q_blockR | (with_reducible apply end_ret) | exact rvs_nil | (with_reducible apply rvs_cons) | ((with_reducible apply rv_tmp); exact rfl))
      rw [idxV_some hx hpx hkp]; rfl
    | false =>
      rw [hpx] at hfx
      repeat' (first | ((with_reducible apply oq_id); first | (focus ((with_reducible apply oq_indexAddrN); (iterate 4 exact rfl); omega)) | (apply oq_fn; exact rfl; try first | exact trivial | (and_intros <;> omega)) | ((with_reducible apply oq_load); exact rfl; exact rfl) | ((with_reducible apply oq_call (k := f) (hc := hc)); exact rfl; exact rfl; exact fun D w1 hw1 => hfx w1 hw1.ext.ext)) | ((with_reducible apply tl_id); first | (with_reducible apply tl_nil) | ((with_reducible apply u_q); (iterate 4 exact rfl))) | ((with_reducible apply rd_id); first | (apply Rd.old; (first | (with_reducible assumption) | exact c0 | exact c1 | exact c2 | exact c3 | exact c4 | exact c5 | exact c6 | exact c7 | exact c8 | exact d0 | exact d1 | exact d2 | exact d3 | exact d4 | exact d5); first | exact List.not_mem_nil | exact m0 | exact m1 | exact m2 | exact m3 | exact m4 | exact m5 | exact m6 | exact m7 | exact m8 | exact m9)) | ((with_reducible apply t_id); first | (with_reducible apply t_seq) | (apply t_region; kernel_rfl) | ((with_reducible apply t_condF); exact rfl) | ((with_reducible apply t_condD); exact rfl; all_goals first | (intro hp; try (exfalso; omega)) | skip) | (with_reducible apply t_skip) | (with_reducible apply t_block)) | with_reducible apply q_thenN | with_reducible apply q_blockN)
      refine ⟨k + 1, ⟨by omega, fun y hy => ?_⟩, by omega, ?_, ?_⟩
      · rw [List.take_add_one, hx, List.mem_append] at hy
        rcases hy with hy | hy
        · exact hkp y hy
        · obtain rfl : y = x := by simpa using hy
          exact hpx
      · try simp only [List.cons_append, List.nil_append]
        (repeat (first | exact FrSub.nil | (apply FrSub.cons; exact rfl)))
      · try simp only [List.cons_append, List.nil_append]
        (repeat (first | exact HpSub.refl _ | (apply HpSub.consE; (repeat (first | exact P0 | apply P1)); exact rfl) | exact HpSub.nil))
  · repeat' (first | ((with_reducible apply oq_id); first | (apply oq_fn; exact rfl; try first | exact trivial | (and_intros <;> omega))) | ((with_reducible apply tl_id); first | (with_reducible apply tl_nil) | ((with_reducible apply u_q); (iterate 4 exact rfl))) | ((with_reducible apply t_id); first | (with_reducible apply t_seq) | (apply t_region; kernel_rfl) | ((with_reducible apply t_condD); exact rfl; all_goals first | (intro hp; try (exfalso; omega)) | skip) | (with_reducible apply t_ret) | (with_reducible apply t_exit)) | with_reducible apply q_thenN | with_reducible apply q_thenE | ((with_reducible apply q_blockE); exact rfl) | (with_reducible apply end_ret) | exact rvs_nil | (with_reducible apply rvs_cons) | ((with_reducible apply rv_tmp); exact rfl))
    rw [idxV_none (fun y hy => hkp y (by rw [List.take_of_length_le (by omega)]; exact hy))]; rfl
theorem containsInt_calls (f : Nat) (caps : List Value) (p : Int → Bool) (A : Option Addr) (n c : Nat) (l : List Int) (w : World) (hr : RdS w 1 A n (l.map inCells)) (hn : n ≤ 1000000) (hc : ∀ (a : Array Value) (w : World), (callFunc f a).run Try.prog w = .ok (.enter f a) w)
    (hf : ∀ x ∈ l, ∀ w1, Ext w w1 → Calls Try.prog f ⟨.int .i64 x :: caps⟩ w1 fun e w' => e = .returned (.bool (p x)) ∧ Ext w1 w') : Calls Try.prog 96 #[.slice A n c, .func (.func f) #[] ⟨caps⟩] w fun e w' => e = .returned (.bool (l.any p)) ∧ Ext w w' := by
  
  refine enterQ (c := cx w 9) Try.func96 rfl rfl rfl rfl ?_
  repeat' (first | ((with_reducible apply oq_id); first | (apply oq_fn; exact rfl; try first | exact trivial | (and_intros <;> omega)) | ((with_reducible apply oq_call (k := 76) (hc := Try.call76)); exact rfl; exact rfl; exact fun D w1 hw1 => indexInt_calls f caps p A n c l w1 (hr.ext hw1.ext.ext) hn hc (fun x hx w2 h2 => hf x hx w2 (hw1.ext.ext.trans h2)))) | ((with_reducible apply tl_id); first | (with_reducible apply tl_nil) | ((with_reducible apply u_q); (iterate 4 exact rfl))) | ((with_reducible apply t_id); first | (with_reducible apply t_seq) | (apply t_region; kernel_rfl) | (with_reducible apply t_ret)) | with_reducible apply q_thenN | (with_reducible apply end_ret) | exact rvs_nil | (with_reducible apply rvs_cons) | ((with_reducible apply rv_tmp); exact rfl))
  all_goals (rw [← idxV_any]; rfl)
def allFrom (lo hi : Int) (l : List Int) : Bool := l.all fun z => decide (lo ≤ z) && decide (z ≤ hi)
def outOf (lo hi : Int) (z : Int) : Bool := decide (z < lo) || decide (hi < z)
theorem allFrom_any (lo hi : Int) (l : List Int) : (!(l.any (outOf lo hi))) = allFrom lo hi l := by
  unfold allFrom
  induction l with
  | nil => rfl
  | cons z l ih =>
    simp only [List.any_cons, List.all_cons, Bool.not_or, ih]
    congr 1
    unfold outOf
    by_cases h1 : z < lo <;> by_cases h2 : hi < z <;> simp [h1, h2, Int.not_le.2, Int.not_lt.1] <;> omega
theorem from1_calls (b1 b2 : Nat) (lo hi z : Int) (w : World) (c0 : w.cell? ⟨b1, 0, none⟩ = some (.int .i64 lo)) (c1 : w.cell? ⟨b2, 0, none⟩ = some (.int .i64 hi)) :
    Calls Try.prog 97 #[.int .i64 z, .pointer (some ⟨b1, 0, none⟩), .pointer (some ⟨b2, 0, none⟩)] w fun e w' => e = .returned (.bool (outOf lo hi z)) ∧ Ext w w' := by
  refine enterQ (c := cx w 13) Try.func97 rfl rfl rfl rfl ?_
  repeat' (first | ((with_reducible apply oq_id); first | (apply oq_fn; exact rfl; try first | exact trivial | (and_intros <;> omega)) | ((with_reducible apply oq_load); exact rfl; exact rfl)) | ((with_reducible apply tl_id); first | (with_reducible apply tl_nil) | ((with_reducible apply u_q); (iterate 4 exact rfl)) | ((with_reducible apply u_skip); (iterate 3 exact rfl)) | ((with_reducible apply u_splitD); exact rfl; exact rfl; all_goals first | (intro hp; try (exfalso; omega)) | skip)) | ((with_reducible apply rd_id); first | (apply Rd.old; (first | (with_reducible assumption) | exact c0 | exact c1 | exact c2 | exact c3 | exact c4 | exact c5 | exact c6 | exact c7 | exact c8 | exact d0 | exact d1 | exact d2 | exact d3 | exact d4 | exact d5); first | exact List.not_mem_nil | exact m0 | exact m1 | exact m2 | exact m3 | exact m4 | exact m5 | exact m6 | exact m7 | exact m8 | exact m9)) | ((with_reducible apply t_id); first | (with_reducible apply t_seq) | (apply t_region; kernel_rfl) | (with_reducible apply t_ret)) | with_reducible apply q_thenN | (with_reducible apply end_ret) | exact rvs_nil | (with_reducible apply rvs_cons) | ((with_reducible apply rv_tmp); exact rfl))
  all_goals (unfold outOf; first | (rw [decide_eq_true hp]; rfl) | (rw [decide_eq_false hp]; rfl))
theorem from_calls (lo hi : Int) (A : Option Addr) (n c : Nat) (l : List Int) (w : World) (hr : RdS w 1 A n (l.map inCells)) (hn : n ≤ 1000000) :
    Calls Try.prog 63 #[.int .i64 lo, .int .i64 hi, .slice A n c] w fun e w' => e = .returned (.bool (allFrom lo hi l)) ∧ Ext w w' := by
  refine enterQ (c := cx w 11) Try.func63 rfl rfl rfl rfl ?_
  repeat' (first | ((with_reducible apply oq_id); first | (apply oq_fn; exact rfl; try first | exact trivial | (and_intros <;> omega)) | ((with_reducible apply oq_call (k := 96) (hc := Try.call96)); exact rfl; exact rfl; exact fun D w1 hw1 => containsInt_calls 97 [.pointer (some ⟨_, 0, none⟩), .pointer (some ⟨_, 0, none⟩)] (outOf lo hi) A n c l w1 (hr.ext hw1.ext.ext) hn Try.call97 (fun x hx w2 h2 => from1_calls _ _ lo hi x w2 (h2.cell (hw1.cellAt (by (repeat (first | exact P0 | apply P1))) rfl)) (h2.cell (hw1.cellAt (by (repeat (first | exact P0 | apply P1))) rfl))))) | ((with_reducible apply tl_id); first | (with_reducible apply tl_nil) | ((with_reducible apply u_q); (iterate 4 exact rfl)) | ((with_reducible apply u_s); (iterate 3 exact rfl))) | ((with_reducible apply os_x); exact rfl) | ((with_reducible apply ox_box); exact rfl; exact rfl; intro _) | ((with_reducible apply t_id); first | (with_reducible apply t_seq) | (apply t_region; kernel_rfl) | (with_reducible apply t_ret)) | with_reducible apply q_thenN | (with_reducible apply end_ret) | exact rvs_nil | (with_reducible apply rvs_cons) | ((with_reducible apply rv_tmp); exact rfl))
  all_goals (rw [← allFrom_any]; rfl)
end Go.Proofs.Ytmlmgipngbndgaa
namespace Go.Proofs.Ytmlmgipngbndgaa
open Go.RowKit
def iv (z : Int) : Value := .int .i64 z
theorem iv_flat (l : List Int) : (l.map inCells).flatten = l.map iv := by
  induction l with
  | nil => rfl
  | cons z l ih => simp [inCells, iv] at ih ⊢; exact ih
section
variable {c : Cx} {F : Fr} {H H' : Hp} {K : Value → Hp → Prop} {d : Option Tmp} {ty : TypeId} {pos : String} {af : Array Edge} {gd : Option (Nat × Bool)} {t : TypeId} {x y : Operand} {a0 : Bool} {z0 : List Value} {k0 : TyK} {g k : Nat} {tg : Tg} {row A : List Int} {B : List Value} {z u : Int}
theorem os_storeI (h : k < row.length) (ht : tyAt c.tys t = some ⟨a0, 1, z0, k0⟩) (hx : ev F x = some (.pointer (some ⟨g, 0 + k * 1, none⟩))) (hy : ev F y = some (.int .i64 u)) (hp : Pick H g (row.map iv) tg H')
    (kk : K undef ((g, (row.set k u).map iv, tg) :: H')) : OS c ⟨d, .store t x y, ty, pos, af, gd⟩ F H K :=
  store_gen (vs := [.int .i64 u]) ht hx hy rfl rfl (by simp [Value.oneCell']) hp (by simp; omega) (by
    have e : setL (row.map iv) (0 + k * 1) [Value.int .i64 u] = (row.set k u).map iv := by simp only [setL]; rw [Nat.zero_add, Nat.mul_one, List.map_set]; rfl
    rw [e]; exact kk)
end
end Go.Proofs.Ytmlmgipngbndgaa
namespace Go.Proofs.Ytmlmgipngbndgaa
structure Dep where
  seats : Int
  price : Int
  leaves : Int
  state : Int
structure Bk where
  flight : Int
  state : Int
  kept : Int
def depCells (x : Dep) : List Value := [.int .i64 x.seats, .int .i64 x.price, .int .i64 x.leaves, .int .u8 x.state]
def bkCells (x : Bk) : List Value := [.int .i64 x.flight, .int .u8 x.state, .int .i64 x.kept]
def depOk (x : Dep) : Bool := decide (0 ≤ x.seats) && decide (x.seats ≤ 50) && (decide (0 ≤ x.price) && decide (x.price ≤ 1000000)) && (decide (0 ≤ x.leaves) && decide (x.leaves ≤ 1000000)) && decide (x.state ≤ 2)
/-- Is a booking of a departure, and in a state? -/
def isB (f s : Int) (x : Bk) : Bool := decide (x.flight = f) && decide (x.state = s)
def manyV (bk : List Bk) (f s : Int) : Int := ((bk.filter (isB f s)).length : Nat)
/-- What may be kept of the price of a departure. -/
def feeV (price fee : Int) : Int := (price * fee).tdiv 100
/-- May a booking of a departure in state g be in state s? -/
def fitB (g s : Int) : Bool := (decide (g = 0) && (decide (s = 1) || decide (s = 2))) || (decide (g = 1) && decide (s = 3))
def bookedB (fl : List Dep) (fee : Int) (x : Bk) : Bool :=
  if 0 ≤ x.flight ∧ x.flight < (fl.length : Int) then
    match fl[x.flight.toNat]? with
    | none => false
    | some d => if x.state = 4 then decide (0 ≤ x.kept) && decide (x.kept ≤ feeV d.price fee) else fitB d.state x.state && decide (x.kept = 0)
  else false
def prc (fl : List Dep) (x : Bk) : Int := match fl[x.flight.toNat]? with | some d => d.price | none => 0
structure Sum4 where
  held : Int
  earned : Int
  kept : Int
  back : Int
def addB (fl : List Dep) (p : Sum4) (x : Bk) : Sum4 :=
  if x.state = 1 ∨ x.state = 2 then ⟨p.held + prc fl x, p.earned, p.kept, p.back⟩
  else if x.state = 3 then ⟨p.held, p.earned + prc fl x, p.kept, p.back⟩
  else if x.state = 4 then ⟨p.held, p.earned, p.kept + x.kept, p.back + (prc fl x - x.kept)⟩
  else p
def sumsV (fl : List Dep) (bk : List Bk) : Sum4 := bk.foldl (addB fl) ⟨0, 0, 0, 0⟩
/-- Are the seats of a departure given as they have to be? -/
def seatB (fl : List Dep) (bk : List Bk) (i : Nat) : Bool := match fl[i]? with
  | none => true
  | some d => let s := manyV bk i 1 + manyV bk i 3
    decide (s ≤ d.seats) && (decide (s = d.seats) || decide (manyV bk i 2 ≤ 0))
structure Off where
  now : Int
  notice : Int
  fee : Int
  inn : Int
  out : Int
  fl : List Dep
  bk : List Bk
def moneyB (o : Off) : Bool := decide (o.inn = (sumsV o.fl o.bk).held + (sumsV o.fl o.bk).earned + (sumsV o.fl o.bk).kept + (sumsV o.fl o.bk).back) && decide (o.out = (sumsV o.fl o.bk).back)
end Go.Proofs.Ytmlmgipngbndgaa
namespace Go.Proofs.Ytmlmgipngbndgaa
open Go.RowKit
attribute [local irreducible] OQ OS OX Rd T TL GX GL AL AI RV wpG SAny Calls
theorem one_rows {w0 : World} {M : Ms} {H H' : Hp} {w : World} {g : Nat} {z : Int} {tg : Tg} (h : Has w0 M H w) (q : Pick H g [.int .i64 z] tg H') : RdS w 1 (some ⟨g, 0, none⟩) 1 ([z].map inCells) :=
  Blk.rows (h.blk _ q.mem).2 rfl (by simp [inCells])
theorem fromOne {w0 : World} {M : Ms} {H H' : Hp} {w : World} {g : Nat} {lo hi z : Int} {tg : Tg} {cp : Nat} {q : Bool} (hq : allFrom lo hi [z] = q) (h : Has w0 M H w) (p : Pick H g [.int .i64 z] tg H') :
    Calls Try.prog 63 #[.int .i64 lo, .int .i64 hi, .slice (some ⟨g, 0, none⟩) 1 cp] w fun e w' => e = .returned (.bool q) ∧ Ext w w' :=
  hq ▸ from_calls lo hi (some ⟨g, 0, none⟩) 1 cp [z] w (one_rows h p) (by omega)
theorem within_calls (z lo hi : Int) (w : World) : Calls Try.prog 66 #[.int .i64 z, .int .i64 lo, .int .i64 hi] w fun e w' => e = .returned (.bool (decide (lo ≤ z) && decide (z ≤ hi))) ∧ Ext w w' := by
  refine enterQ (c := cx w 15) Try.func66 rfl rfl rfl rfl ?_
  repeat' (first | ((with_reducible apply oq_id); first | (apply oq_fn; exact rfl; try first | exact trivial | (and_intros <;> omega))) | ((with_reducible apply tl_id); first | (with_reducible apply tl_nil) | ((with_reducible apply u_q); (iterate 4 exact rfl)) | ((with_reducible apply u_skip); (iterate 3 exact rfl)) | ((with_reducible apply u_splitD); exact rfl; exact rfl; all_goals first | (intro hp; try (exfalso; omega)) | skip)) | ((with_reducible apply t_id); first | (with_reducible apply t_seq) | (apply t_region; kernel_rfl) | (with_reducible apply t_ret)) | with_reducible apply q_thenN | (with_reducible apply end_ret) | exact rvs_nil | (with_reducible apply rvs_cons) | ((with_reducible apply rv_tmp); exact rfl))
  all_goals (first | (rw [decide_eq_true hp]; rfl) | (rw [decide_eq_false hp]; rfl))
theorem withinQ {z lo hi : Int} {q : Bool} (hq : allFrom lo hi [z] = q) (w : World) : Calls Try.prog 66 #[.int .i64 z, .int .i64 lo, .int .i64 hi] w fun e w' => e = .returned (.bool q) ∧ Ext w w' := by
  have := within_calls z lo hi w
  have e : (decide (lo ≤ z) && decide (z ≤ hi)) = q := by rw [← hq]; unfold allFrom; simp
  rw [e] at this
  exact this
theorem depOk_in {d : Dep} (h : depOk d = true) : 0 ≤ d.seats ∧ d.seats ≤ 50 ∧ 0 ≤ d.price ∧ d.price ≤ 1000000 ∧ 0 ≤ d.leaves ∧ d.leaves ≤ 1000000 ∧ d.state ≤ 2 := by
  unfold depOk at h
  simp only [Bool.and_eq_true, decide_eq_true_eq] at h
  omega
/-- All departures are valid, their states are no negative numbers. -/
def DepsOk (fl : List Dep) : Prop := ∀ d ∈ fl, depOk d = true ∧ 0 ≤ d.state
theorem oq_mulE {c : Cx} {F : Fr} {H : Hp} {d : Option Tmp} {ty t t' : TypeId} {pos : String} {af : Array Edge} {g : Option (Nat × Bool)} {x y : Operand} {m n k : Int} (hx : ev F x = some (.int .i64 m)) (hy : ev F y = some (.int .i64 n)) (e : m * n = k) (hk : -9223372036854775808 ≤ k ∧ k ≤ 9223372036854775807) : OQ c ⟨d, .binOp .mul t x y t', ty, pos, af, g⟩ F H (.int .i64 k) := by
  subst e
  exact oq_mul hx hy ⟨hk.1, hk.2⟩
/-- All bookings are of a departure, what is kept is no more than any price. -/
def BksOk (fl : List Dep) (bk : List Bk) : Prop := ∀ x ∈ bk, 0 ≤ x.flight ∧ x.flight < (fl.length : Int) ∧ 0 ≤ x.kept ∧ x.kept ≤ 1000000
def u8Cells (z : Int) : List Value := [.int .u8 z]
/-- An office at work lies in block bd. -/
structure Desk (w : World) (bd : Nat) (o : Off) (A : Option Addr) (cf : Nat) (B : Option Addr) (cb : Nat) : Prop where
  now : w.cell? ⟨bd, 0, none⟩ = some (.int .i64 o.now)
  notice : w.cell? ⟨bd, 1, none⟩ = some (.int .i64 o.notice)
  fee : w.cell? ⟨bd, 2, none⟩ = some (.int .i64 o.fee)
  fls : w.cell? ⟨bd, 3, none⟩ = some (.slice A o.fl.length cf)
  bks : w.cell? ⟨bd, 4, none⟩ = some (.slice B o.bk.length cb)
  inn : w.cell? ⟨bd, 5, none⟩ = some (.int .i64 o.inn)
  out : w.cell? ⟨bd, 6, none⟩ = some (.int .i64 o.out)
  fl : RdS w 4 A o.fl.length (o.fl.map depCells)
  bk : RdS w 3 B o.bk.length (o.bk.map bkCells)
theorem Desk.ext {w w' : World} {bd : Nat} {o : Off} {A : Option Addr} {cf : Nat} {B : Option Addr} {cb : Nat} (h : Desk w bd o A cf B cb) (e : Ext w w') : Desk w' bd o A cf B cb :=
  ⟨e.cell h.now, e.cell h.notice, e.cell h.fee, e.cell h.fls, e.cell h.bks, e.cell h.inn, e.cell h.out, h.fl.ext e, h.bk.ext e⟩
end Go.Proofs.Ytmlmgipngbndgaa
namespace Go.Proofs.Ytmlmgipngbndgaa
open Go.RowKit
theorem flatten_at {k : Nat} : ∀ {rows : List (List Value)}, (∀ r ∈ rows, r.length = k) → ∀ {j : Nat} {u : Value}, rows.flatten[j]? = some u → ∃ i r j', rows[i]? = some r ∧ r[j']? = some u ∧ j = i * k + j'
  | [], _, j, u, h => by simp at h
  | r :: rows, hk, j, u, h => by
    simp only [List.flatten_cons] at h
    have hr := hk r (List.mem_cons_self ..)
    by_cases hj : j < r.length
    · rw [List.getElem?_append_left hj] at h
      exact ⟨0, r, j, rfl, h, by simp⟩
    · rw [List.getElem?_append_right (by omega)] at h
      obtain ⟨i, r', j', h1, h2, h3⟩ := flatten_at (fun r hr => hk r (List.mem_cons_of_mem _ hr)) h
      exact ⟨i + 1, r', j', by simpa using h1, h2, by rw [Nat.succ_mul]; omega⟩
theorem flatten_len {k : Nat} : ∀ {rows : List (List Value)}, (∀ r ∈ rows, r.length = k) → rows.flatten.length = rows.length * k
  | [], _ => by simp
  | r :: rows, hk => by
    rw [List.flatten_cons, List.length_append, hk r (List.mem_cons_self ..), flatten_len fun r hr => hk r (List.mem_cons_of_mem _ hr), List.length_cons, Nat.succ_mul]
    omega
section
variable {c : Cx} {F : Fr} {H H' : Hp} {C : List Value} {K : Value → Hp → Prop} {d : Option Tmp} {ty : TypeId} {pos : String} {af : Array Edge} {g : Option (Nat × Bool)}
theorem append_run0 {g0 : Option (Nat × Bool)} {s x : Operand} {t e size bytes c2 n cap gb : Nat} {A : Option Addr} {a : Act} {w : World} (hk : AppOk c.P t e size bytes) (hs : a.eval s = .slice (some ⟨gb, 0, none⟩) n cap)
    (hx : a.eval x = .slice A 0 c2) (hn : n ≤ cap) : (execOp a.eval ⟨d, .call ⟨.builtin .append, #[s, x], #[t, t]⟩, ty, pos, af, g0⟩).run c.P w = .ok (.value (.slice (some ⟨gb, 0, none⟩) n cap)) w := by
  obtain ⟨i, z, k1, k2, k3, k4, k5⟩ := hk.info
  have ht := hk.und
  cases A <;>
  simp [execOp, resolve, invoke, builtin, Sem.run_bind, Sem.run_pure, Result.andThen, hs, hx, Builtin.append_, run_underlying ht, sizeOf, typeInfo, k1, Builtin.lenOf, Builtin.firstCells, loadCells, loadCellsFrom, hn, storeCells]
/-- append of a slice of rows onto a slice of the call's own. -/
theorem os_appendRows {s x : Operand} {t e size bytes m c2 n cap gb : Nat} {A : Option Addr} {rows : List (List Value)} (hk : AppOk c.P t e size bytes) (hs : ev F s = some (.slice (some ⟨gb, 0, none⟩) n cap)) (hx : ev F x = some (.slice A m c2))
    (hp : Pick H gb C (some (e, size, cap)) H') (hr : ∀ D w, Has c.w0 ⟨c.M, D⟩ H w → RdS w size A m rows) (hrk : ∀ r ∈ rows, r.length = size) (hC : C.length = n * size) (h1 : ∀ r ∈ rows, ∀ u ∈ r, u.oneCell' = true) (hn : n ≤ cap) (hb : (n + m) * bytes ≤ 140737488355328) (hmax : n + m ≤ 9223372036854775807)
    (k : ∀ b cap', K (.slice (some ⟨b, 0, none⟩) (n + m) cap') ((b, C ++ rows.flatten, some (e, size, cap')) :: H')) : OS c ⟨d, .call ⟨.builtin .append, #[s, x], #[t, t]⟩, ty, pos, af, g⟩ F H K := by
  intro D a w ha hw
  have hw' := hw.perm hp.perm
  have hR := hr D w hw
  have hlen := hR.len
  by_cases hm : m = 0
  · subst hm
    have : rows = [] := List.eq_nil_of_length_eq_zero hlen
    subst this
    rw [append_run0 (d := d) (ty := ty) (pos := pos) (af := af) (g0 := g) hk (ha.ev hs) (ha.ev hx) hn]
    exact ⟨_, k gb cap, by simpa using hw'⟩
  · obtain ⟨b2, o2, rfl, _, hc⟩ := hR.at_ (by omega)
    obtain ⟨g', cap', w', r1, r2, r3, r4⟩ := append_run (d := d) (ty := ty) (pos := pos) (af := af) (g0 := g) (news := rows.flatten) hk (ha.ev hs) (own_of_blk (hw'.blk _ (List.mem_cons_self ..)).2 hC hk.pos) (ha.ev hx) (by rw [flatten_len hrk, hlen])
      (fun j u hj => by
        obtain ⟨i, r, j', h2, h3, rfl⟩ := flatten_at hrk hj
        have := (hc i r h2).2 j' u h3
        rw [Nat.add_assoc] at this
        exact this)
      (fun u hu => by
        obtain ⟨r, h2, h3⟩ := List.mem_flatten.1 hu
        exact h1 r h2 u h3) (by omega) hb hmax
    rw [r1]
    have he : ExtM [gb] w w' := ExtM.of_grown r3 (fun k e => by simpa [Value.ownBlock] using e.symm)
    refine ⟨_, k g' cap', ?_⟩
    rcases r4 with r4 | r4
    · obtain rfl : g' = gb := by simpa [Value.ownBlock] using r4
      exact hw'.wrote he r2
    · subst r4
      exact (hw'.lost he).fresh' (w := w) hw.ext.size (fun y hy => (hw'.blk y (List.mem_cons_of_mem _ hy)).2.lt) r2
end
/-- What abides growth, and the turn of a block that is no cells, from n0 on. -/
structure Abide {β : Type} (n0 : Nat) (I : β → World → Prop) : Prop where
  ext : ∀ s A B, I s A → Ext A B → I s B
  put : ∀ s A l o o', I s A → n0 ≤ l → A.heap[l]? = some o → o.isCells = false → I s (A.putObj l o')
section
variable {c : Cx} {Q : QS} {F : Fr} {H : Hp} {g : Operand} {ps : Array Tmp} {assign body : Code} {ι κ α β : Type}
/-- As SL0, or nothing at all. -/
def SLV (c : Cx) (k : Code) (R : Fr → Hp → Prop) (F : Fr) (H : Hp) : Prop := (k = .skip ∧ R F H) ∨ SL0 c k R F H
theorem SLV.wpIn {l m : Nat} {k : Code} {R : Fr → Hp → Prop} (h : SLV c k R F H) (D : List Nat) (a : Act) (w : World) (ha : Frm D c.N F a) (hw : Has c.w0 ⟨c.M, D⟩ H w) :
    k.wpIn (Fence.wide.inRound l) m c.P (fun e a' w' => e = .normal ∧ ∃ F' H', R F' H' ∧ Frm D c.N F' a' ∧ Has c.w0 ⟨c.M, D⟩ H' w') a w := by
  rcases h with ⟨rfl, h⟩ | h
  · exact wpIn_skip ⟨rfl, F, H, h, ha, hw⟩
  · exact SL0.wpIn k h D a w ha hw
structure RangeOkV (c : Cx) (F : Fr) (ns : List Nat) (hk : Hp) (ps : Array Tmp) (assign body : Code) (m : Nat) (encs : α → List Value) (G : List α → α → World → Prop)
    (hp : ι → Hp) (Pi : List α → ι → Prop) (bx : α → β → Hp) (fx : α → β → Fr) (hl : κ → Hp) (Pl : Code → List α → κ → Prop) : Prop where
  size : ∀ x, (encs x).length = ps.size
  slots : (ps.toList.all fun p => Nat.blt p c.N) = true
  assign_ : ∀ (x : α) (W : World), SLV { c with w0 := W, M := [] } assign (fun F' H' => ∃ bs, FrSub F' (fx x bs) ∧ HpSub H' (bx x bs)) (parF (ps.toList.zip (encs x)) F) []
  disj : ∀ x bs i n W D, Blks n (bx x bs) W → Has c.w0 ⟨c.M, D⟩ (hp i ++ hk) W → (∀ b ∈ ns, b < n) → ∀ y ∈ bx x bs, ∀ z ∈ hp i ++ hk, y.1 ≠ z.1
  body_ : ∀ (l : Nat) (pre : List α) (x : α) (i : ι) (bs : β) (W : World) (D : List Nat), Pi pre i → Has c.w0 ⟨c.M, D⟩ (bx x bs ++ hp i ++ hk) W → G pre x W → (∃ r, W.heap[l]? = some (.loop r)) →
    T { c with w0 := W, M := (bx x bs ++ hp i).map Prod.fst } (WS.round c.P l m) body (QB hp Pi hl Pl (pre ++ [x])) (fx x bs) (bx x bs ++ hp i)
end
section
variable {P : Program} {ops : Array Oper} {n : Nat} {o : Oper} {a : Act} {w : World} {K : Act → World → Prop} {Q : Exit → Act → World → Prop} {I : World → Prop} {cov : Array Bool}
/-- As SAnyI; what 'cov' marks is walked by hand. -/
def SInI (P : Program) (ops : Array Oper) (cov : Array Bool) (I : World → Prop) (m : Nat) (Q : Exit → Act → World → Prop) : Nat → Array Bool → Act → World → Prop
  | 0, listed, a, w => Region.ready .any ops listed = [] ∧ Q .normal a w
  | n + 1, listed, a, w => (Region.ready .any ops listed = [] → Q .normal a w) ∧
      ∀ i ∈ Region.ready .any ops listed, (cov.getD i false = true → wpOpIn Fence.wide m P ops Q i (wpAnyIn Fence.wide m P .any ops Q n (listed.setIfInBounds i true)) a w) ∧
        (cov.getD i false = false → wpOp P ops QF i (fun a' w' => (I w → I w') ∧ ∀ w'', Ext w' w'' → SInI P ops cov I m Q n (listed.setIfInBounds i true) a' w'') a w)
end
section
variable {c : Cx} {Q : Exit → Act → World → Prop} {F : Fr} {H : Hp} {D : List Nat} {a : Act} {w : World} {n : Nat}
end
end Go.Proofs.Ytmlmgipngbndgaa
namespace Go.Proofs.Ytmlmgipngbndgaa
open Go.RowKit
attribute [local irreducible] OQ OS OX Rd T TL GX GL AL AI RV wpG SAny Calls
/-- Two readings of a slice agree. -/
theorem RdS.inj {w : World} {k : Nat} {A : Option Addr} {n : Nat} {xs ys : List (List Value)} (h : RdS w k A n xs) (h' : RdS w k A n ys) : xs = ys := by
  have l1 := h.len
  have l2 := h'.len
  refine List.ext_getElem (by omega) fun i hi hi' => ?_
  obtain ⟨b, o, hA, _, hx⟩ := h.at_ (by omega)
  obtain ⟨b', o', hA', _, hx'⟩ := h'.at_ (by omega)
  rw [hA] at hA'
  obtain ⟨rfl, rfl⟩ : b = b' ∧ o = o' := by simpa using hA'
  have a1 := hx i _ (List.getElem?_eq_getElem hi)
  have a2 := hx' i _ (List.getElem?_eq_getElem hi')
  refine List.ext_getElem (by omega) fun j hj hj' => ?_
  have e1 := a1.2 j _ (List.getElem?_eq_getElem hj)
  have e2 := a2.2 j _ (List.getElem?_eq_getElem hj')
  rw [e1] at e2
  exact Option.some.inj e2
/-- What the iterator reads. -/
structure OfAt (b0 b1 b2 bd : Nat) (B : Option Addr) (nb cb : Nat) (f : Int) (S : Option Addr) (ns cs : Nat) (sts : List Int) (W : World) : Prop where
  x0 : W.cell? ⟨b0, 0, none⟩ = some (.pointer (some ⟨bd, 0, none⟩))
  x1 : W.cell? ⟨b1, 0, none⟩ = some (.int .i64 f)
  x2 : W.cell? ⟨b2, 0, none⟩ = some (.slice S ns cs)
  st : RdS W 1 S ns (sts.map u8Cells)
  bks : W.cell? ⟨bd, 4, none⟩ = some (.slice B nb cb)
  bk : ∃ bk : List Bk, RdS W 3 B nb (bk.map bkCells)
/-- Where a slice that is read lies. -/
theorem RdS.place {w : World} {k : Nat} {A : Option Addr} {n : Nat} {xs : List (List Value)} (h : RdS w k A n xs) : ∃ g o, (0 < n → A = some ⟨g, o, none⟩ ∧ g < w.heap.size) := by
  by_cases hn : 0 < n
  · obtain ⟨b, o, h1, h2, _⟩ := h.at_ hn
    exact ⟨b, o, fun _ => ⟨h1, h2⟩⟩
  · exact ⟨0, 0, fun h => absurd h hn⟩
/-- A slice that is nil. -/
theorem oq_eqNilT {c : Cx} {F : Fr} {H : Hp} {d : Option Tmp} {ty t t' : TypeId} {pos : String} {af : Array Edge} {g : Option (Nat × Bool)} {x y : Operand} {e s0 : Nat} {a0 : Bool} {z0 : List Value} (ht : tyAt c.tys t = some ⟨a0, s0, z0, .slice e⟩)
    (hx : ev F x = some (.slice none 0 0)) (hy : ev F y = some (.slice none 0 0)) : OQ c ⟨d, .binOp .eql t x y t', ty, pos, af, g⟩ F H (.bool true) := .of fun D a w ha _ => by
  have hk := (c.ty ht).kind w
  have e0 : (Op.equalIn 10000 t (.slice none 0 0) (.slice none 0 0)).run c.P w = .ok true w := by
    have key : ∀ d : Nat, (Op.equalIn (d + 1) t (.slice none 0 0) (.slice none 0 0)).run c.P w = .ok true w := fun d => by
      simp only [Op.equalIn, Sem.run_bind, hk, Result.andThen, Sem.run_pure, Option.isNone]
    exact key 9999
  have e : (binOp .eql t (.slice none 0 0) (.slice none 0 0)).run c.P w = .ok (.bool true) w := by
    simp only [binOp, Op.equal, Op.maxDepth, Sem.run_bind, e0, Result.andThen, Sem.run_pure]
  have e1 : (eqGuard .eql t x y (.slice none 0 0) (.slice none 0 0)).run c.P w = .ok () w := by simp [eqGuard, go_sem]
  simp only [execOp, ha.ev hx, ha.ev hy, Sem.run_bind, e, e1, Result.andThen, Sem.run_pure]
def clA : Option (Nat × Nat) → Option Addr
  | none => none
  | some (g, _) => some ⟨g, 0, none⟩
def clC : Option (Nat × Nat) → Nat
  | none => 0
  | some (_, c) => c
def clH (e s : Nat) (C : List Value) : Option (Nat × Nat) → Hp
  | none => []
  | some (g, c) => [(g, C, some (e, s, c))]
/-- What a copy hands out: nil, or own memory. -/
def CloneV (e s : Nat) (C : List Value) (n : Nat) (v : Value) (H : Hp) : Prop := ∃ x, (x = none → n = 0) ∧ v = .slice (clA x) n (clC x) ∧ H = clH e s C x
theorem PA {b : Nat} {C : List Value} {g : Tg} {H H' : Hp} : ∀ {G : Hp}, Pick H b C g H' → Pick (G ++ H) b C g (G ++ H')
  | [], h => h
  | x :: G, h => .tail (PA h)
theorem HpSub.skipX {x : Nat × List Value × Tg} {H G : Hp} (h : HpSub H G) : HpSub (x :: H) G := by
  induction h with
  | nil => exact .nil
  | cons p _ ih => exact .cons (.tail p) ih
theorem flat_at {α : Type} {f : α → List Value} {s : Nat} (hf : ∀ x, (f x).length = s) : ∀ {l : List α} {i : Nat} {x : α}, l[i]? = some x → ∀ {j : Nat} {v : Value}, (f x)[j]? = some v → ((l.map f).flatten)[i * s + j]? = some v
  | [], i, x, h, _, _, _ => by simp at h
  | y :: l, 0, x, h, j, v, hv => by
    obtain rfl : y = x := by simpa using h
    have hj := (List.getElem?_eq_some_iff.1 hv).1
    rw [List.map_cons, List.flatten_cons, Nat.zero_mul, Nat.zero_add, List.getElem?_append_left hj]
    exact hv
  | y :: l, i + 1, x, h, j, v, hv => by
    have h' : l[i]? = some x := by simpa using h
    have := flat_at hf h' hv
    rw [List.map_cons, List.flatten_cons, List.getElem?_append_right (by rw [hf]; rw [Nat.succ_mul]; omega), hf]
    rw [show (i + 1) * s + j - s = i * s + j by rw [Nat.succ_mul]; omega]
    exact this
theorem clH_rows {w0 : World} {M : Ms} {w : World} {e s n : Nat} {α : Type} {f : α → List Value} {l : List α} {x : Option (Nat × Nat)} (h : Has w0 M (clH e s (l.map f).flatten x) w) (hf : ∀ y, (f y).length = s) (hl : l.length = n) (hx : x = none → n = 0) : RdS w s (clA x) n (l.map f) := by
  cases x with
  | none =>
    obtain rfl := hx rfl
    obtain rfl := List.eq_nil_of_length_eq_zero hl
    exact RdS.nil _ _ _
  | some p =>
    exact Blk.rows (h.blk _ (List.mem_cons_self ..)).2 (by simpa using hl) (by simp only [List.mem_map]; rintro r ⟨x, _, rfl⟩; exact hf x)
theorem Has.right {w0 : World} {M : Ms} {w : World} {G H : Hp} (h : Has w0 M (G ++ H) w) : Has w0 M H w :=
  ⟨h.ext, fun x hx => h.blk x (List.mem_append_right _ hx), by have := h.nodup; rw [List.map_append, List.nodup_append] at this; exact this.2.1, h.marks⟩
theorem Has.left {w0 : World} {M : Ms} {w : World} {G H : Hp} (h : Has w0 M (G ++ H) w) : Has w0 M G w :=
  ⟨h.ext, fun x hx => h.blk x (List.mem_append_left _ hx), by have := h.nodup; rw [List.map_append, List.nodup_append] at this; exact this.1, h.marks⟩
theorem fromTwo {w0 : World} {M : Ms} {H H' : Hp} {w : World} {g : Nat} {lo hi z1 z2 : Int} {tg : Tg} {cp : Nat} {q : Bool} (hq : allFrom lo hi [z1, z2] = q) (h : Has w0 M H w) (p : Pick H g [.int .i64 z1, .int .i64 z2] tg H') :
    Calls Try.prog 63 #[.int .i64 lo, .int .i64 hi, .slice (some ⟨g, 0, none⟩) 2 cp] w fun e w' => e = .returned (.bool q) ∧ Ext w w' :=
  hq ▸ from_calls lo hi (some ⟨g, 0, none⟩) 2 cp [z1, z2] w (Blk.rows (h.blk _ p.mem).2 rfl (by simp only [List.mem_map]; rintro r ⟨x, _, rfl⟩; rfl)) (by omega)
end Go.Proofs.Ytmlmgipngbndgaa
namespace Go.Proofs.Ytmlmgipngbndgaa
open Go.RowKit
theorem Has.ownG {w0 : World} {M : Ms} {H G : Hp} {w : World} (h : Has w0 M H w) (p : HpSub H G) : Has w ⟨G.map Prod.fst, []⟩ G w := by
  have h' := h.sub p
  exact ⟨ExtM.refl _ _, fun x hx => ⟨.inr (List.mem_map.2 ⟨x, hx, rfl⟩), (h'.blk x hx).2⟩, h'.nodup, List.nodup_nil, fun k hk => (List.not_mem_nil hk).elim⟩
theorem Has.called {w0 : World} {M : Ms} {G R H1 : Hp} {w w' : World} (h : Has w0 M (G ++ R) w) (k : Has w ⟨G.map Prod.fst, []⟩ H1 w') : Has w0 M (H1 ++ R) w' := by
  have hn := h.nodup
  rw [List.map_append, List.nodup_append] at hn
  have hG : ∀ b, b ∈ G.map Prod.fst → (w0.heap.size ≤ b ∨ b ∈ M.wr) ∧ ∃ c t, w.heap[b]? = some (.cells c t (0, 0)) := fun b hb => by
    obtain ⟨x, hx, rfl⟩ := List.mem_map.1 hb
    have hh := h.blk x (List.mem_append_left _ hx)
    obtain ⟨c, t, h1, _⟩ := hh.2
    exact ⟨hh.1, c, t, h1⟩
  refine ⟨⟨k.ext.os.trans h.ext.os, k.ext.tape.trans h.ext.tape, k.ext.output.trans h.ext.output, Nat.le_trans h.ext.size k.ext.size, fun b hb hm => ?_⟩, fun x hx => ?_, ?_, h.marks.1, fun d hd => ⟨(h.marks.2 d hd).1, ?_⟩⟩
  · rw [k.ext.block b (Nat.lt_of_lt_of_le hb h.ext.size) (fun hg => by
      rcases (hG b hg).1 with h1 | h1
      · omega
      · exact hm h1)]
    exact h.ext.block b hb hm
  · rcases List.mem_append.1 hx with hx | hx
    · have hh := k.blk x hx
      refine ⟨?_, hh.2⟩
      rcases hh.1 with h1 | h1
      · exact .inl (Nat.le_trans h.ext.size h1)
      · exact (hG _ h1).1
    · have hh := h.blk x (List.mem_append_right _ hx)
      refine ⟨hh.1, hh.2.same (k.ext.block _ hh.2.lt fun hg => ?_)⟩
      exact hn.2.2 _ hg _ (List.mem_map.2 ⟨x, hx, rfl⟩) rfl
  · rw [List.map_append, List.nodup_append]
    refine ⟨k.nodup, hn.2.1, fun a ha b hb e => ?_⟩
    obtain ⟨x, hx, rfl⟩ := List.mem_map.1 ha
    obtain ⟨y, hy, rfl⟩ := List.mem_map.1 hb
    have hlt := (h.blk y (List.mem_append_right _ hy)).2.lt
    rcases (k.blk x hx).1 with h1 | h1
    · omega
    · exact hn.2.2 _ h1 _ (List.mem_map.2 ⟨y, hy, rfl⟩) e
  · have hd' := (h.marks.2 d hd).2
    rw [k.ext.block d (mark_lt hd') (fun hg => by
      obtain ⟨_, c, t, h1⟩ := hG d hg
      rw [hd'] at h1; cases h1)]
    exact hd'
section
variable {c : Cx} {F : Fr} {H G R : Hp} {K : Value → Hp → Prop} {d : Option Tmp} {ty : TypeId} {pos : String} {af : Array Edge} {g : Option (Nat × Bool)} {PV : Value → Hp → Prop}
/-- A call of a function that writes the blocks G, and may hand out others. -/
theorem os_callM {f : Operand} {args : Array Operand} {T : Array TypeId} {k : Nat} {fst cap vs : List Value} (hf : ev F f = some (.func (.func k) ⟨fst⟩ ⟨cap⟩)) (hc : ∀ (a : Array Value) (w : World), (callFunc k a).run c.P w = .ok (.enter k a) w)
    (ha : evs F args.toList = some vs) (hp : HpSub H (G ++ R)) (h : ∀ D w, Has c.w0 ⟨c.M, D⟩ H w → Has w ⟨G.map Prod.fst, []⟩ G w → Calls c.P k ⟨fst ++ vs ++ cap⟩ w fun e w' => ∃ v H1, e = .returned v ∧ PV v H1 ∧ Has w ⟨G.map Prod.fst, []⟩ H1 w')
    (hk : ∀ v H1, PV v H1 → K v (H1 ++ R)) : OS c ⟨d, .call ⟨.value f, args, T⟩, ty, pos, af, g⟩ F H K :=
  os_call hf hc ha fun D w hw => (h D w hw ((hw.sub hp).left.ownG (HpSub.refl _))).mono fun e w' ⟨v, H1, h1, h2, h3⟩ => ⟨v, _, h1, hk v H1 h2, (hw.sub hp).called h3⟩
end
/-- The operations of a region that may stop in a panic. -/
def TE (c : Cx) (ops : Array Oper) (rest : List Oper) (Q : QS) (F : Fr) (H : Hp) : Prop :=
  ∀ i, ops.toList.drop i = rest → ∀ D a w, Frm D c.N F a → Has c.w0 ⟨c.M, D⟩ H w → wpOps c.P ops (cv c Q) (List.range' i (ops.size - i)) a w
section
variable {c : Cx} {Q : QS} {F : Fr} {H : Hp} {ops : Array Oper} {o : Oper} {rest : List Oper} {d : Nat} {v : Value}
/-- What an operation that stops in a panic comes to. -/
def panics (P : Program) (R : List PanicEntry → World → Prop) : Result Next → Prop
  | .ok (.enter f args) w' => Calls P f args w' fun e w'' => ∃ ch, e = .panicked ch ∧ R ch w''
  | .halt (.panic v) w' => R [{ v, recovered := false }] w'
  | _ => False
/-- The operation stops in a panic. -/
def OP (c : Cx) (o : Oper) (F : Fr) (H : Hp) (K : List PanicEntry → Hp → Prop) : Prop :=
  ∀ D a w, Frm D c.N F a → Has c.w0 ⟨c.M, D⟩ H w → panics c.P (fun ch w' => ∃ H', K ch H' ∧ Has c.w0 ⟨c.M, D⟩ H' w') ((execOp a.eval o).run c.P w)
/-- What is left of a region that draws its order; what 'cov' marks is walked by hand. -/
def AE (c : Cx) (ops : Array Oper) (cov : Array Bool) (H0 : Hp) (Q : QS) (n : Nat) (listed : Array Bool) (F : Fr) (H : Hp) : Prop :=
  ∀ D a w, Frm D c.N F a → Has c.w0 ⟨c.M, D⟩ H w → SInI c.P ops cov (Has c.w0 ⟨c.M, D⟩ H0) 0 (cv c Q) n listed a w
end
section
variable {c : Cx} {F : Fr} {H : Hp}
end
end Go.Proofs.Ytmlmgipngbndgaa
namespace Go.Proofs.Ytmlmgipngbndgaa
section
variable {c : Cx} {F : Fr} {H : Hp} {d : Option Tmp} {ty t t' : TypeId} {pos : String} {af : Array Edge} {g : Option (Nat × Bool)} {x y : Operand} {k : IntKind} {m n : Int}
theorem oq_leqT (hx : ev F x = some (.int k m)) (hy : ev F y = some (.int k n)) (h : m ≤ n) : OQ c ⟨d, .binOp .leq t x y t', ty, pos, af, g⟩ F H (.bool true) := (oq_leq hx hy).as (by simp [h])
theorem oq_leqF (hx : ev F x = some (.int k m)) (hy : ev F y = some (.int k n)) (h : ¬ m ≤ n) : OQ c ⟨d, .binOp .leq t x y t', ty, pos, af, g⟩ F H (.bool false) := (oq_leq hx hy).as (by simp [h])
theorem oq_lssT (hx : ev F x = some (.int k m)) (hy : ev F y = some (.int k n)) (h : m < n) : OQ c ⟨d, .binOp .lss t x y t', ty, pos, af, g⟩ F H (.bool true) := (oq_lss hx hy).as (by simp [h])
theorem oq_lssF (hx : ev F x = some (.int k m)) (hy : ev F y = some (.int k n)) (h : ¬ m < n) : OQ c ⟨d, .binOp .lss t x y t', ty, pos, af, g⟩ F H (.bool false) := (oq_lss hx hy).as (by simp [h])
theorem oq_gtrT (hx : ev F x = some (.int k m)) (hy : ev F y = some (.int k n)) (h : n < m) : OQ c ⟨d, .binOp .gtr t x y t', ty, pos, af, g⟩ F H (.bool true) := (oq_gtr hx hy).as (by simp [h])
theorem oq_gtrF (hx : ev F x = some (.int k m)) (hy : ev F y = some (.int k n)) (h : ¬ n < m) : OQ c ⟨d, .binOp .gtr t x y t', ty, pos, af, g⟩ F H (.bool false) := (oq_gtr hx hy).as (by simp [h])
theorem oq_geqT (hx : ev F x = some (.int k m)) (hy : ev F y = some (.int k n)) (h : n ≤ m) : OQ c ⟨d, .binOp .geq t x y t', ty, pos, af, g⟩ F H (.bool true) := (oq_geq hx hy).as (by simp [h])
theorem oq_geqF (hx : ev F x = some (.int k m)) (hy : ev F y = some (.int k n)) (h : ¬ n ≤ m) : OQ c ⟨d, .binOp .geq t x y t', ty, pos, af, g⟩ F H (.bool false) := (oq_geq hx hy).as (by simp [h])
theorem oq_eqlT (hx : ev F x = some (.int k m)) (hy : ev F y = some (.int k n)) (h : m = n) : OQ c ⟨d, .binOp .eql t x y t', ty, pos, af, g⟩ F H (.bool true) := (oq_eql hx hy).as (by simp [h])
theorem oq_eqlF (hx : ev F x = some (.int k m)) (hy : ev F y = some (.int k n)) (h : ¬ m = n) : OQ c ⟨d, .binOp .eql t x y t', ty, pos, af, g⟩ F H (.bool false) := (oq_eql hx hy).as (by simp [h])
theorem oq_neqT (hx : ev F x = some (.int k m)) (hy : ev F y = some (.int k n)) (h : ¬ m = n) : OQ c ⟨d, .binOp .neq t x y t', ty, pos, af, g⟩ F H (.bool true) := (oq_neq hx hy).as (by simp [h])
theorem oq_neqF (hx : ev F x = some (.int k m)) (hy : ev F y = some (.int k n)) (h : m = n) : OQ c ⟨d, .binOp .neq t x y t', ty, pos, af, g⟩ F H (.bool false) := (oq_neq hx hy).as (by simp [h])
end
def TR (c : Cx) (n : Nat) (x : Code) (Q : QS) (F : Fr) (H : Hp) : Prop := ∀ D a w, Frm D c.N F a → Has c.w0 ⟨c.M, D⟩ H w → Code.rounds c.P x (cv c Q) n a w
section
variable {c : Cx} {Q : QS} {F : Fr} {H : Hp} {x : Code} {n : Nat}
theorem t_rounds (n : Nat) (h : TR c n x Q F H) : T c (WS.own c.P) (.loop x) Q F H := fun D a w ha hw => wp_loop_rounds n (h D a w ha hw)
theorem tr_succ (h : T c (WS.own c.P) x (thenQ (fun F' H' => TR c n x Q F' H') Q) F H) : TR c (n + 1) x Q F H := fun D a w ha hw => by
  rw [rounds_succ]
  refine wp_mono (h D a w ha hw) fun e a w ⟨D, F, H, h1, h2, h3⟩ => ?_
  cases e <;> first
    | exact ⟨D, F, H, h1, h2, h3⟩
    | exact h1 D a w h2 h3
theorem tr_id (h : TR c n x Q F H) : TR c n x Q F H := h
end
end Go.Proofs.Ytmlmgipngbndgaa
namespace Go.Proofs.Ytmlmgipngbndgaa
open Go.RowKit
attribute [local irreducible] TR OQ OS OX Rd T TL GX GL AL AI RV wpG SAny Calls
theorem isNaN_calls (z : Int) (w : World) : Calls Try.prog 137 #[.int .i64 z] w fun e w' => e = .returned (.bool false) ∧ Ext w w' := by
  refine enterQ (c := cx w 6) Try.func137 rfl rfl rfl rfl ?_
  repeat' (first | ((with_reducible apply oq_id); first | ((with_reducible apply oq_neqF); exact rfl; exact rfl; omega) | (apply oq_fn; exact rfl; try first | exact trivial | (and_intros <;> omega))) | ((with_reducible apply tl_id); first | (with_reducible apply tl_nil) | ((with_reducible apply u_q); (iterate 4 exact rfl))) | ((with_reducible apply t_id); first | (with_reducible apply t_seq) | (apply t_region; kernel_rfl) | (with_reducible apply t_ret)) | with_reducible apply q_thenN | (with_reducible apply end_ret) | exact rvs_nil | (with_reducible apply rvs_cons) | ((with_reducible apply rv_tmp); exact rfl))
  all_goals rfl
def ordV (a b : Int) : Int := if a < b then -1 else if b < a then 1 else 0
theorem cmp_calls (a b : Int) (w : World) : Calls Try.prog 132 #[.int .i64 a, .int .i64 b] w fun e w' => e = .returned (.int .i64 (ordV a b)) ∧ Ext w w' := by
  unfold ordV
  by_cases h1 : a < b
  · rw [if_pos h1]
    refine enterQ (c := cx w 20) Try.func132 rfl rfl rfl rfl ?_
    repeat' (first | ((with_reducible apply oq_id); first | ((with_reducible apply oq_lssT); exact rfl; exact rfl; omega) | (apply oq_fn; exact rfl; try first | exact trivial | (and_intros <;> omega)) | ((with_reducible apply oq_call (k := 137) (hc := Try.call137)); exact rfl; exact rfl; exact fun D w1 hw1 => isNaN_calls _ w1)) | ((with_reducible apply tl_id); first | (with_reducible apply tl_nil) | ((with_reducible apply u_q); (iterate 4 exact rfl))) | ((with_reducible apply t_id); first | (with_reducible apply t_seq) | (apply t_region; kernel_rfl) | ((with_reducible apply t_condT); exact rfl) | ((with_reducible apply t_condF); exact rfl) | (with_reducible apply t_ret) | (with_reducible apply t_skip)) | with_reducible apply q_thenN | with_reducible apply q_thenR | (with_reducible apply end_ret) | exact rvs_nil | (with_reducible apply rvs_cons) | ((with_reducible apply rv_tmp); exact rfl))
    all_goals rfl
  · rw [if_neg h1]
    by_cases h2 : b < a
    · rw [if_pos h2]
      refine enterQ (c := cx w 20) Try.func132 rfl rfl rfl rfl ?_
      repeat' (first | ((with_reducible apply oq_id); first | ((with_reducible apply oq_lssF); exact rfl; exact rfl; omega) | ((with_reducible apply oq_gtrT); exact rfl; exact rfl; omega) | (apply oq_fn; exact rfl; try first | exact trivial | (and_intros <;> omega)) | ((with_reducible apply oq_call (k := 137) (hc := Try.call137)); exact rfl; exact rfl; exact fun D w1 hw1 => isNaN_calls _ w1)) | ((with_reducible apply tl_id); first | (with_reducible apply tl_nil) | ((with_reducible apply u_q); (iterate 4 exact rfl))) | ((with_reducible apply t_id); first | (with_reducible apply t_seq) | (apply t_region; kernel_rfl) | ((with_reducible apply t_condT); exact rfl) | ((with_reducible apply t_condF); exact rfl) | (with_reducible apply t_ret) | (with_reducible apply t_skip)) | with_reducible apply q_thenN | with_reducible apply q_thenR | (with_reducible apply end_ret) | exact rvs_nil | (with_reducible apply rvs_cons) | ((with_reducible apply rv_tmp); exact rfl))
      all_goals rfl
    · rw [if_neg h2]
      refine enterQ (c := cx w 20) Try.func132 rfl rfl rfl rfl ?_
      repeat' (first | ((with_reducible apply oq_id); first | ((with_reducible apply oq_lssF); exact rfl; exact rfl; omega) | ((with_reducible apply oq_gtrF); exact rfl; exact rfl; omega) | (apply oq_fn; exact rfl; try first | exact trivial | (and_intros <;> omega)) | ((with_reducible apply oq_call (k := 137) (hc := Try.call137)); exact rfl; exact rfl; exact fun D w1 hw1 => isNaN_calls _ w1)) | ((with_reducible apply tl_id); first | (with_reducible apply tl_nil) | ((with_reducible apply u_q); (iterate 4 exact rfl))) | ((with_reducible apply t_id); first | (with_reducible apply t_seq) | (apply t_region; kernel_rfl) | ((with_reducible apply t_condF); exact rfl) | (with_reducible apply t_ret) | (with_reducible apply t_skip)) | with_reducible apply q_thenN | (with_reducible apply end_ret) | exact rvs_nil | (with_reducible apply rvs_cons) | ((with_reducible apply rv_tmp); exact rfl))
      all_goals rfl
theorem or_calls (a b : Int) (A : Nat) (cp : Nat) (w : World) (c0 : w.cell? ⟨A, 0, none⟩ = some (.int .i64 a)) (c1 : w.cell? ⟨A, 1, none⟩ = some (.int .i64 b)) : Calls Try.prog 131 #[.slice (some ⟨A, 0, none⟩) 2 cp] w fun e w' => e = .returned (.int .i64 (if a = 0 then b else a)) ∧ Ext w w' := by
  by_cases ha : a = 0
  · rw [if_pos ha]
    by_cases hb : b = 0
    · subst hb
      refine enterQ (c := cx w 18) Try.func131 rfl rfl rfl rfl ?_
      repeat' (first | ((with_reducible apply oq_id); first | ((with_reducible apply oq_lssT); exact rfl; exact rfl; omega) | ((with_reducible apply oq_lssF); exact rfl; exact rfl; omega) | ((with_reducible apply oq_neqF); exact rfl; exact rfl; omega) | (apply oq_fn; exact rfl; try first | exact trivial | (and_intros <;> omega)) | ((with_reducible apply oq_load); exact rfl; exact rfl)) | ((with_reducible apply tl_id); first | (with_reducible apply tl_nil) | ((with_reducible apply u_q); (iterate 4 exact rfl))) | ((with_reducible apply rd_id); first | (apply Rd.old; (first | (with_reducible assumption) | exact c0 | exact c1 | exact c2 | exact c3 | exact c4 | exact c5 | exact c6 | exact c7 | exact c8 | exact d0 | exact d1 | exact d2 | exact d3 | exact d4 | exact d5); first | exact List.not_mem_nil | exact m0 | exact m1 | exact m2 | exact m3 | exact m4 | exact m5 | exact m6 | exact m7 | exact m8 | exact m9)) | ((with_reducible apply t_id); first | (with_reducible apply t_seq) | (apply t_region; kernel_rfl) | ((with_reducible apply t_condT); exact rfl) | ((with_reducible apply t_condF); exact rfl) | (with_reducible apply t_ret) | (with_reducible apply t_skip) | (with_reducible apply t_exit) | (with_reducible apply t_block) | (apply t_rounds 8)) | with_reducible apply q_thenN | with_reducible apply q_blockN | with_reducible apply q_thenE | ((with_reducible apply q_blockE); exact rfl) | (with_reducible apply end_ret) | exact rvs_nil | (with_reducible apply rvs_cons) | ((with_reducible apply rv_tmp); exact rfl) | ((with_reducible apply tr_id); apply tr_succ))
      all_goals rfl
    · refine enterQ (c := cx w 18) Try.func131 rfl rfl rfl rfl ?_
      repeat' (first | ((with_reducible apply oq_id); first | ((with_reducible apply oq_lssT); exact rfl; exact rfl; omega) | ((with_reducible apply oq_neqT); exact rfl; exact rfl; omega) | ((with_reducible apply oq_neqF); exact rfl; exact rfl; omega) | (apply oq_fn; exact rfl; try first | exact trivial | (and_intros <;> omega)) | ((with_reducible apply oq_load); exact rfl; exact rfl)) | ((with_reducible apply tl_id); first | (with_reducible apply tl_nil) | ((with_reducible apply u_q); (iterate 4 exact rfl))) | ((with_reducible apply rd_id); first | (apply Rd.old; (first | (with_reducible assumption) | exact c0 | exact c1 | exact c2 | exact c3 | exact c4 | exact c5 | exact c6 | exact c7 | exact c8 | exact d0 | exact d1 | exact d2 | exact d3 | exact d4 | exact d5); first | exact List.not_mem_nil | exact m0 | exact m1 | exact m2 | exact m3 | exact m4 | exact m5 | exact m6 | exact m7 | exact m8 | exact m9)) | ((with_reducible apply t_id); first | (with_reducible apply t_seq) | (apply t_region; kernel_rfl) | ((with_reducible apply t_condT); exact rfl) | ((with_reducible apply t_condF); exact rfl) | (with_reducible apply t_ret) | (with_reducible apply t_skip) | (with_reducible apply t_block) | (apply t_rounds 8)) | with_reducible apply q_thenN | with_reducible apply q_thenR | with_reducible apply q_blockR | with_reducible apply q_blockN | (with_reducible apply end_ret) | exact rvs_nil | (with_reducible apply rvs_cons) | ((with_reducible apply rv_tmp); exact rfl) | ((with_reducible apply tr_id); apply tr_succ))
      all_goals rfl
  · rw [if_neg ha]
    refine enterQ (c := cx w 18) Try.func131 rfl rfl rfl rfl ?_
    repeat' (first | ((with_reducible apply oq_id); first | ((with_reducible apply oq_lssT); exact rfl; exact rfl; omega) | ((with_reducible apply oq_neqT); exact rfl; exact rfl; omega) | (apply oq_fn; exact rfl; try first | exact trivial | (and_intros <;> omega)) | ((with_reducible apply oq_load); exact rfl; exact rfl)) | ((with_reducible apply tl_id); first | (with_reducible apply tl_nil) | ((with_reducible apply u_q); (iterate 4 exact rfl))) | ((with_reducible apply rd_id); first | (apply Rd.old; (first | (with_reducible assumption) | exact c0 | exact c1 | exact c2 | exact c3 | exact c4 | exact c5 | exact c6 | exact c7 | exact c8 | exact d0 | exact d1 | exact d2 | exact d3 | exact d4 | exact d5); first | exact List.not_mem_nil | exact m0 | exact m1 | exact m2 | exact m3 | exact m4 | exact m5 | exact m6 | exact m7 | exact m8 | exact m9)) | ((with_reducible apply t_id); first | (with_reducible apply t_seq) | (apply t_region; kernel_rfl) | ((with_reducible apply t_condT); exact rfl) | (with_reducible apply t_ret) | (with_reducible apply t_skip) | (with_reducible apply t_block) | (apply t_rounds 8)) | with_reducible apply q_thenN | with_reducible apply q_thenR | with_reducible apply q_blockR | (with_reducible apply end_ret) | exact rvs_nil | (with_reducible apply rvs_cons) | ((with_reducible apply rv_tmp); exact rfl) | ((with_reducible apply tr_id); apply tr_succ))
    all_goals rfl
theorem orE_calls (a b : Int) (A : Nat) (cp : Nat) (w : World) (c0 : w.cell? ⟨A, 0, none⟩ = some (.int .i64 a)) (c1 : w.cell? ⟨A, 1, none⟩ = some (.int .i64 b)) : Calls Try.prog 81 #[.slice (some ⟨A, 0, none⟩) 2 cp] w fun e w' => e = .returned (.int .i64 (if a = 0 then b else a)) ∧ Ext w w' := by
  by_cases ha : a = 0
  · rw [if_pos ha]
    by_cases hb : b = 0
    · subst hb
      refine enterQ (c := cx w 18) Try.func81 rfl rfl rfl rfl ?_
      repeat' (first | ((with_reducible apply oq_id); first | ((with_reducible apply oq_lssT); exact rfl; exact rfl; omega) | ((with_reducible apply oq_lssF); exact rfl; exact rfl; omega) | ((with_reducible apply oq_neqF); exact rfl; exact rfl; omega) | (apply oq_fn; exact rfl; try first | exact trivial | (and_intros <;> omega)) | ((with_reducible apply oq_load); exact rfl; exact rfl)) | ((with_reducible apply tl_id); first | (with_reducible apply tl_nil) | ((with_reducible apply u_q); (iterate 4 exact rfl))) | ((with_reducible apply rd_id); first | (apply Rd.old; (first | (with_reducible assumption) | exact c0 | exact c1 | exact c2 | exact c3 | exact c4 | exact c5 | exact c6 | exact c7 | exact c8 | exact d0 | exact d1 | exact d2 | exact d3 | exact d4 | exact d5); first | exact List.not_mem_nil | exact m0 | exact m1 | exact m2 | exact m3 | exact m4 | exact m5 | exact m6 | exact m7 | exact m8 | exact m9)) | ((with_reducible apply t_id); first | (with_reducible apply t_seq) | (apply t_region; kernel_rfl) | ((with_reducible apply t_condT); exact rfl) | ((with_reducible apply t_condF); exact rfl) | (with_reducible apply t_ret) | (with_reducible apply t_skip) | (with_reducible apply t_exit) | (with_reducible apply t_block) | (apply t_rounds 8)) | with_reducible apply q_thenN | with_reducible apply q_blockN | with_reducible apply q_thenE | ((with_reducible apply q_blockE); exact rfl) | (with_reducible apply end_ret) | exact rvs_nil | (with_reducible apply rvs_cons) | ((with_reducible apply rv_tmp); exact rfl) | ((with_reducible apply tr_id); apply tr_succ))
      all_goals rfl
    · refine enterQ (c := cx w 18) Try.func81 rfl rfl rfl rfl ?_
      repeat' (first | ((with_reducible apply oq_id); first | ((with_reducible apply oq_lssT); exact rfl; exact rfl; omega) | ((with_reducible apply oq_neqT); exact rfl; exact rfl; omega) | ((with_reducible apply oq_neqF); exact rfl; exact rfl; omega) | (apply oq_fn; exact rfl; try first | exact trivial | (and_intros <;> omega)) | ((with_reducible apply oq_load); exact rfl; exact rfl)) | ((with_reducible apply tl_id); first | (with_reducible apply tl_nil) | ((with_reducible apply u_q); (iterate 4 exact rfl))) | ((with_reducible apply rd_id); first | (apply Rd.old; (first | (with_reducible assumption) | exact c0 | exact c1 | exact c2 | exact c3 | exact c4 | exact c5 | exact c6 | exact c7 | exact c8 | exact d0 | exact d1 | exact d2 | exact d3 | exact d4 | exact d5); first | exact List.not_mem_nil | exact m0 | exact m1 | exact m2 | exact m3 | exact m4 | exact m5 | exact m6 | exact m7 | exact m8 | exact m9)) | ((with_reducible apply t_id); first | (with_reducible apply t_seq) | (apply t_region; kernel_rfl) | ((with_reducible apply t_condT); exact rfl) | ((with_reducible apply t_condF); exact rfl) | (with_reducible apply t_ret) | (with_reducible apply t_skip) | (with_reducible apply t_block) | (apply t_rounds 8)) | with_reducible apply q_thenN | with_reducible apply q_thenR | with_reducible apply q_blockR | with_reducible apply q_blockN | (with_reducible apply end_ret) | exact rvs_nil | (with_reducible apply rvs_cons) | ((with_reducible apply rv_tmp); exact rfl) | ((with_reducible apply tr_id); apply tr_succ))
      all_goals rfl
  · rw [if_neg ha]
    refine enterQ (c := cx w 18) Try.func81 rfl rfl rfl rfl ?_
    repeat' (first | ((with_reducible apply oq_id); first | ((with_reducible apply oq_lssT); exact rfl; exact rfl; omega) | ((with_reducible apply oq_neqT); exact rfl; exact rfl; omega) | (apply oq_fn; exact rfl; try first | exact trivial | (and_intros <;> omega)) | ((with_reducible apply oq_load); exact rfl; exact rfl)) | ((with_reducible apply tl_id); first | (with_reducible apply tl_nil) | ((with_reducible apply u_q); (iterate 4 exact rfl))) | ((with_reducible apply rd_id); first | (apply Rd.old; (first | (with_reducible assumption) | exact c0 | exact c1 | exact c2 | exact c3 | exact c4 | exact c5 | exact c6 | exact c7 | exact c8 | exact d0 | exact d1 | exact d2 | exact d3 | exact d4 | exact d5); first | exact List.not_mem_nil | exact m0 | exact m1 | exact m2 | exact m3 | exact m4 | exact m5 | exact m6 | exact m7 | exact m8 | exact m9)) | ((with_reducible apply t_id); first | (with_reducible apply t_seq) | (apply t_region; kernel_rfl) | ((with_reducible apply t_condT); exact rfl) | (with_reducible apply t_ret) | (with_reducible apply t_skip) | (with_reducible apply t_block) | (apply t_rounds 8)) | with_reducible apply q_thenN | with_reducible apply q_thenR | with_reducible apply q_blockR | (with_reducible apply end_ret) | exact rvs_nil | (with_reducible apply rvs_cons) | ((with_reducible apply rv_tmp); exact rfl) | ((with_reducible apply tr_id); apply tr_succ))
    all_goals rfl
def byP (a b a' b' : Int) : Int := if ordV a a' = 0 then ordV b b' else ordV a a'
theorem byPerson_calls (a b c a' b' c' : Int) (w : World) : Calls Try.prog 111 #[.agg #[.int .i64 a, .int .i64 b, .int .i64 c], .agg #[.int .i64 a', .int .i64 b', .int .i64 c']] w fun e w' => e = .returned (.int .i64 (byP a b a' b')) ∧ Ext w w' := by
  unfold byP
  obtain ⟨p, hp⟩ : ∃ p, ordV a a' = p := ⟨_, rfl⟩
  obtain ⟨q, hq⟩ : ∃ q, ordV b b' = q := ⟨_, rfl⟩
  have H1 := fun w1 => cmp_calls a a' w1
  have H2 := fun w1 => cmp_calls b b' w1
  rw [hp] at H1 ⊢
  rw [hq] at H2 ⊢
  refine enterQ (c := cx w 17) Try.func111 rfl rfl rfl rfl ?_
  repeat' (first | ((with_reducible apply oq_id); first | (apply oq_fn; exact rfl; try first | exact trivial | (and_intros <;> omega)) | ((with_reducible apply oq_load); exact rfl; exact rfl) | ((with_reducible apply oq_call (k := 132) (hc := Try.call132)); exact rfl; exact rfl; exact fun D w1 hw1 => H1 w1) | ((with_reducible apply oq_call (k := 132) (hc := Try.call132)); exact rfl; exact rfl; exact fun D w1 hw1 => H2 w1) | ((with_reducible apply oq_call (k := 131) (hc := Try.call131)); exact rfl; exact rfl; exact fun D w1 hw1 => or_calls _ _ _ _ w1 (hw1.cellAt (by (repeat (first | exact P0 | apply P1))) rfl) (hw1.cellAt (by (repeat (first | exact P0 | apply P1))) rfl))) | ((with_reducible apply tl_id); first | (with_reducible apply tl_nil) | ((with_reducible apply u_q); (iterate 4 exact rfl)) | ((with_reducible apply u_s); (iterate 3 exact rfl))) | ((with_reducible apply gx_id); first | (with_reducible apply v_nil) | ((with_reducible apply v_q); (iterate 3 exact rfl))) | ((with_reducible apply os_x); exact rfl) | ((with_reducible apply ox_id); first | ((with_reducible apply ox_boxAgg); exact rfl; intro _) | ((with_reducible apply ox_buildSlice1); (iterate 6 exact rfl); intro _)) | ((with_reducible apply ai_id); first | ((with_reducible apply ai_q); (iterate 5 exact rfl)) | ((with_reducible apply ai_x); (iterate 5 exact rfl))) | ((with_reducible apply rd_id); first | (apply Rd.own; (repeat (first | exact P0 | apply P1)); exact rfl; done)) | ((with_reducible apply t_id); first | (apply t_mix (id := 1) [0, 1, 2, 3, 4, 5, 6, 7, 8, 9] 3 #[false, false, false, false, false, false, false, false, false, false, false, false, false]; kernel_rfl; kernel_rfl; exact rfl) | (with_reducible apply t_seq) | (apply t_region; kernel_rfl) | (with_reducible apply t_ret)) | with_reducible apply q_thenN | (with_reducible apply end_ret) | exact rvs_nil | (with_reducible apply rvs_cons) | ((with_reducible apply rv_tmp); exact rfl) | ((with_reducible apply al_id); first | (apply al_done; decide +kernel) | (apply al_one 10; decide +kernel) | (apply al_one 11; decide +kernel) | (apply al_one 12; decide +kernel)))
  all_goals rfl
end Go.Proofs.Ytmlmgipngbndgaa
namespace Go.Proofs.Ytmlmgipngbndgaa
section
variable {α : Type} (lt : α → α → Bool)
/-- The stable merge. -/
def mrg : List α → List α → List α
  | [], r => r
  | a :: l, [] => a :: l
  | a :: l, b :: r => if lt b a = true then b :: mrg (a :: l) r else a :: mrg l (b :: r)
termination_by l r => l.length + r.length
variable {lt}
theorem mrg_nil (r : List α) : mrg lt [] r = r := by unfold mrg; rfl
theorem mrg_right (l : List α) : mrg lt l [] = l := by cases l <;> (unfold mrg; rfl)
theorem mrg_lt {a b : α} {l r : List α} (h : lt b a = true) : mrg lt (a :: l) (b :: r) = b :: mrg lt (a :: l) r := by
  rw [mrg, if_pos h]
theorem mrg_ge {a b : α} {l r : List α} (h : lt b a = false) : mrg lt (a :: l) (b :: r) = a :: mrg lt l (b :: r) := by
  rw [mrg, if_neg (by rw [h]; decide)]
theorem mrg_len : ∀ (l r : List α), (mrg lt l r).length = l.length + r.length
  | [], r => by rw [mrg_nil]; simp
  | a :: l, [] => by rw [mrg_right]; simp
  | a :: l, b :: r => by
    cases h : lt b a with
    | true => rw [mrg_lt h, List.length_cons, mrg_len (a :: l) r]; simp; omega
    | false => rw [mrg_ge h, List.length_cons, mrg_len l (b :: r)]; simp; omega
termination_by l r => l.length + r.length
theorem mrg_perm : ∀ (l r : List α), (mrg lt l r).Perm (l ++ r)
  | [], r => by rw [mrg_nil]; exact List.Perm.refl _
  | a :: l, [] => by rw [mrg_right, List.append_nil]
  | a :: l, b :: r => by
    cases h : lt b a with
    | true =>
      rw [mrg_lt h]
      exact ((mrg_perm (a :: l) r).cons b).trans List.perm_middle.symm
    | false =>
      rw [mrg_ge h]
      exact (mrg_perm l (b :: r)).cons a
termination_by l r => l.length + r.length
/-- Two merges in a row. -/
theorem mrg_split : ∀ (u v u' v' : List α), (∀ x ∈ u, ∀ y ∈ v', lt y x = false) → (∀ y ∈ v, ∀ x ∈ u', lt y x = true) → mrg lt (u ++ u') (v ++ v') = mrg lt u v ++ mrg lt u' v'
  | [], [], u', v', _, _ => by rw [mrg_nil]; rfl
  | [], b :: v, [], v', _, _ => by rw [mrg_nil, mrg_nil, List.append_nil, mrg_nil]
  | [], b :: v, a :: u', v', h1, h2 => by
    have ih := mrg_split [] v (a :: u') v' (by simp) (fun y hy => h2 y (List.mem_cons_of_mem _ hy))
    rw [List.nil_append] at ih ⊢
    rw [List.cons_append, mrg_lt (h2 b List.mem_cons_self a List.mem_cons_self), ih, mrg_nil, mrg_nil]
    rfl
  | a :: u, [], u', [], h1, h2 => by rw [List.nil_append, mrg_right, mrg_right, mrg_right]
  | a :: u, [], u', b :: v', h1, h2 => by
    have ih := mrg_split u [] u' (b :: v') (fun x hx => h1 x (List.mem_cons_of_mem _ hx)) (by simp)
    rw [List.nil_append] at ih ⊢
    rw [List.cons_append, mrg_ge (h1 a List.mem_cons_self b List.mem_cons_self), ih, mrg_right, mrg_right]
    rfl
  | a :: u, b :: v, u', v', h1, h2 => by
    cases h : lt b a with
    | true =>
      have ih := mrg_split (a :: u) v u' v' h1 (fun y hy => h2 y (List.mem_cons_of_mem _ hy))
      rw [mrg_lt h, List.cons_append, List.cons_append, List.cons_append, mrg_lt h, ← List.cons_append, ih]
    | false =>
      have ih := mrg_split u (b :: v) u' v' (fun x hx => h1 x (List.mem_cons_of_mem _ hx)) h2
      rw [mrg_ge h, List.cons_append, List.cons_append, List.cons_append, mrg_ge h, ← List.cons_append, ih]
termination_by u v => u.length + v.length
/-- A weak order. -/
structure Wo (lt : α → α → Bool) : Prop where
  asym : ∀ a b, lt a b = true → lt b a = false
  tr : ∀ a b c, lt b a = false → lt c b = false → lt c a = false
theorem Wo.irr (h : Wo lt) (a : α) : lt a a = false := by
  cases h1 : lt a a with
  | false => rfl
  | true => have := h.asym a a h1; rw [h1] at this; cases this
/-- Sorted. -/
def Srt (lt : α → α → Bool) (l : List α) : Prop := l.Pairwise fun a b => lt b a = false
theorem mrg_srt (hw : Wo lt) : ∀ (l r : List α), Srt lt l → Srt lt r → Srt lt (mrg lt l r)
  | [], r, _, h => by rw [mrg_nil]; exact h
  | a :: l, [], h, _ => by rw [mrg_right]; exact h
  | a :: l, b :: r, h1, h2 => by
    have h1' := List.pairwise_cons.1 h1
    have h2' := List.pairwise_cons.1 h2
    cases h : lt b a with
    | true =>
      rw [mrg_lt h]
      refine List.pairwise_cons.2 ⟨fun x hx => ?_, mrg_srt hw (a :: l) r h1 h2'.2⟩
      rcases List.mem_append.1 ((mrg_perm (a :: l) r).mem_iff.1 hx) with hx | hx
      · rcases List.mem_cons.1 hx with rfl | hx
        · exact hw.asym _ _ h
        · exact hw.tr _ _ _ (hw.asym _ _ h) (h1'.1 x hx)
      · exact h2'.1 x hx
    | false =>
      rw [mrg_ge h]
      refine List.pairwise_cons.2 ⟨fun x hx => ?_, mrg_srt hw l (b :: r) h1'.2 h2⟩
      rcases List.mem_append.1 ((mrg_perm l (b :: r)).mem_iff.1 hx) with hx | hx
      · exact h1'.1 x hx
      · rcases List.mem_cons.1 hx with rfl | hx
        · exact h
        · exact hw.tr _ _ _ h (h2'.1 x hx)
termination_by l r => l.length + r.length
theorem mrg_assoc (hw : Wo lt) : ∀ (s t u : List α), mrg lt s (mrg lt t u) = mrg lt (mrg lt s t) u
  | [], t, u => by rw [mrg_nil, mrg_nil]
  | a :: s, [], u => by rw [mrg_nil, mrg_right]
  | a :: s, b :: t, [] => by rw [mrg_right, mrg_right]
  | a :: s, b :: t, c :: u => by
    cases hcb : lt c b with
    | false =>
      rw [mrg_ge hcb]
      cases hba : lt b a with
      | true =>
        rw [mrg_lt hba, mrg_lt hba, mrg_ge hcb, mrg_assoc hw (a :: s) t (c :: u)]
      | false =>
        rw [mrg_ge hba, mrg_ge hba, mrg_ge (hw.tr _ _ _ hba hcb), ← mrg_assoc hw s (b :: t) (c :: u), mrg_ge hcb]
    | true =>
      rw [mrg_lt hcb]
      cases hca : lt c a with
      | true =>
        rw [mrg_lt hca, mrg_assoc hw (a :: s) (b :: t) u]
        cases hba : lt b a with
        | true => rw [mrg_lt hba, mrg_lt hcb]
        | false => rw [mrg_ge hba, mrg_lt hca]
      | false =>
        have hba : lt b a = false := hw.tr _ _ _ hca (hw.asym _ _ hcb)
        rw [mrg_ge hca, mrg_ge hba, mrg_ge hca, ← mrg_assoc hw s (b :: t) (c :: u), mrg_lt hcb]
termination_by s t u => s.length + t.length + u.length
/-- Sorted lists that do not cross. -/
theorem mrg_app {u v : List α} (h : ∀ x ∈ u, ∀ y ∈ v, lt y x = false) : mrg lt u v = u ++ v := by
  have := mrg_split (lt := lt) u [] [] v h (by simp)
  simp only [List.append_nil, List.nil_append, mrg_right, mrg_nil] at this
  exact this
theorem mrg_swap {u v : List α} (h : ∀ y ∈ v, ∀ x ∈ u, lt y x = true) : mrg lt u v = v ++ u := by
  have := mrg_split (lt := lt) [] v u [] (by simp) h
  simp only [List.append_nil, List.nil_append, mrg_right, mrg_nil] at this
  exact this
/-- The stable sort. -/
def srt (lt : α → α → Bool) (l : List α) : List α := l.foldl (fun s x => mrg lt s [x]) []
theorem srt_nil : srt lt [] = [] := rfl
theorem srt_snoc (l : List α) (x : α) : srt lt (l ++ [x]) = mrg lt (srt lt l) [x] := by
  unfold srt; rw [List.foldl_append]; rfl
theorem snoc_ind {p : List α → Prop} (h0 : p []) (h1 : ∀ l x, p l → p (l ++ [x])) : ∀ l, p l := fun l => by
  have : ∀ n, ∀ l : List α, l.length = n → p l := by
    intro n
    induction n with
    | zero => intro l hl; rw [List.length_eq_zero_iff.1 hl]; exact h0
    | succ n ih =>
      intro l hl
      have hne : l ≠ [] := fun h => by rw [h] at hl; cases hl
      rw [← List.dropLast_concat_getLast hne]
      refine h1 _ _ (ih _ ?_)
      rw [List.length_dropLast, hl]; rfl
  exact this _ l rfl
theorem srt_perm (l : List α) : (srt lt l).Perm l := by
  refine snoc_ind (p := fun l => (srt lt l).Perm l) (List.Perm.refl _) (fun l x ih => ?_) l
  rw [srt_snoc]
  exact (mrg_perm _ _).trans (ih.append_right _)
theorem srt_len (l : List α) : (srt lt l).length = l.length := (srt_perm l).length_eq
theorem srt_srt (hw : Wo lt) (l : List α) : Srt lt (srt lt l) := by
  refine snoc_ind (p := fun l => Srt lt (srt lt l)) List.Pairwise.nil (fun l x ih => ?_) l
  rw [srt_snoc]
  exact mrg_srt hw _ _ ih (List.pairwise_singleton _ _)
theorem srt_app (hw : Wo lt) (l m : List α) : mrg lt (srt lt l) (srt lt m) = srt lt (l ++ m) := by
  refine snoc_ind (p := fun m => mrg lt (srt lt l) (srt lt m) = srt lt (l ++ m)) ?_ (fun m x ih => ?_) m
  · rw [srt_nil, mrg_right, List.append_nil]
  · rw [srt_snoc, mrg_assoc hw, ih, ← List.append_assoc, srt_snoc]
/-- Blocks that are sorted, each by itself. -/
def blk (lt : α → α → Bool) (s : Nat) : Nat → List α → List α
  | 0, l => srt lt l
  | f + 1, l => if l.length ≤ s then srt lt l else srt lt (l.take s) ++ blk lt s f (l.drop s)
end
section
variable {α : Type} {lt : α → α → Bool}
theorem swp_at {P M Q : List α} {x y : α} : ((P ++ x :: (M ++ y :: Q)).set P.length y).set (P.length + 1 + M.length) x = P ++ y :: (M ++ x :: Q) := by
  rw [List.set_append_right _ _ (Nat.le_refl _), Nat.sub_self, List.set_cons_zero, List.set_append_right _ _ (by omega), show P.length + 1 + M.length - P.length = M.length + 1 by omega, List.set_cons_succ,
    List.set_append_right _ _ (Nat.le_refl _), Nat.sub_self, List.set_cons_zero]
theorem get_at {P Q : List α} {x : α} {i : Nat} (h : P.length = i) : (P ++ x :: Q)[i]? = some x := by
  subst h; simp
theorem get_at2 {P M Q : List α} {x y : α} {i : Nat} (h : P.length + 1 + M.length = i) : (P ++ x :: (M ++ y :: Q))[i]? = some y := by
  subst h
  rw [List.getElem?_append_right (by omega), show P.length + 1 + M.length - P.length = M.length + 1 by omega, List.getElem?_cons_succ]
  exact get_at rfl
/-- Two ranges, swapped as far as k. -/
def swr (P X M Y Q : List α) (k : Nat) : List α := P ++ (Y.take k ++ (X.drop k ++ (M ++ (X.take k ++ (Y.drop k ++ Q)))))
theorem swr_zero (P X M Y Q : List α) : swr P X M Y Q 0 = P ++ (X ++ (M ++ (Y ++ Q))) := by
  unfold swr; simp
theorem swr_all {P X M Y Q : List α} {n : Nat} (hx : X.length = n) (hy : Y.length = n) : swr P X M Y Q n = P ++ (Y ++ (M ++ (X ++ Q))) := by
  unfold swr
  rw [List.take_of_length_le (by omega), List.take_of_length_le (by omega), List.drop_of_length_le (by omega), List.drop_of_length_le (by omega)]
  simp
theorem swr_step {P X M Y Q : List α} {n k : Nat} (hx : X.length = n) (hy : Y.length = n) (hk : k < n) : ∃ x y, (swr P X M Y Q k)[P.length + k]? = some x ∧ (swr P X M Y Q k)[P.length + n + M.length + k]? = some y ∧
    ((swr P X M Y Q k).set (P.length + k) y).set (P.length + n + M.length + k) x = swr P X M Y Q (k + 1) := by
  obtain ⟨x, hx1⟩ : ∃ x, X.drop k = x :: X.drop (k + 1) := ⟨_, List.drop_eq_getElem_cons (by omega)⟩
  obtain ⟨y, hy1⟩ : ∃ y, Y.drop k = y :: Y.drop (k + 1) := ⟨_, List.drop_eq_getElem_cons (by omega)⟩
  have hx2 : X.take (k + 1) = X.take k ++ [x] := by
    have h1 : X[k]? = some x := by
      have := congrArg (·[0]?) hx1
      simpa using this
    rw [List.take_add_one, h1]; rfl
  have hy2 : Y.take (k + 1) = Y.take k ++ [y] := by
    have h1 : Y[k]? = some y := by
      have := congrArg (·[0]?) hy1
      simpa using this
    rw [List.take_add_one, h1]; rfl
  have e : swr P X M Y Q k = (P ++ Y.take k) ++ x :: ((X.drop (k + 1) ++ (M ++ X.take k)) ++ y :: (Y.drop (k + 1) ++ Q)) := by
    unfold swr; rw [hx1, hy1]; simp only [List.append_assoc, List.cons_append]
  have e2 : swr P X M Y Q (k + 1) = (P ++ Y.take k) ++ y :: ((X.drop (k + 1) ++ (M ++ X.take k)) ++ x :: (Y.drop (k + 1) ++ Q)) := by
    unfold swr; rw [hx2, hy2]; simp only [List.append_assoc, List.cons_append, List.nil_append]
  have l1 : (P ++ Y.take k).length = P.length + k := by simp; omega
  have l2 : (P ++ Y.take k).length + 1 + (X.drop (k + 1) ++ (M ++ X.take k)).length = P.length + n + M.length + k := by simp; omega
  refine ⟨x, y, ?_, ?_, ?_⟩
  · rw [e]; exact get_at l1
  · rw [e]; exact get_at2 l2
  · rw [e, e2, ← l2, ← l1]; exact swp_at
/-- One step of an insertion. -/
theorem ins_step {P S S2 Q : List α} {z x : α} : (((P ++ (S ++ [z])) ++ x :: (S2 ++ Q)).set (P.length + S.length + 1) z).set (P.length + S.length) x = (P ++ S) ++ x :: ((z :: S2) ++ Q) := by
  have e : (P ++ (S ++ [z])) ++ x :: (S2 ++ Q) = (P ++ S) ++ z :: ([] ++ x :: (S2 ++ Q)) := by simp only [List.append_assoc, List.cons_append, List.nil_append]
  have l1 : (P ++ S).length = P.length + S.length := by simp
  have l2 : (P ++ S).length + 1 + ([] : List α).length = P.length + S.length + 1 := by simp
  have h := swp_at (P := P ++ S) (M := []) (Q := S2 ++ Q) (x := z) (y := x)
  rw [l2, l1] at h
  rw [e, List.set_comm _ _ (by omega), h]
  simp only [List.cons_append, List.nil_append]
theorem ins_done (hw : Wo lt) {S1 S2 : List α} {x : α} (hs : Srt lt (S1 ++ S2)) (h1 : S1 = [] ∨ ∃ S z, S1 = S ++ [z] ∧ lt x z = false) (h2 : ∀ y ∈ S2, lt x y = true) : mrg lt (S1 ++ S2) [x] = S1 ++ x :: S2 := by
  have h := mrg_split (lt := lt) S1 [] S2 [x] (fun y hy z hz => ?_) (by simp)
  · have h3 : mrg lt S2 [x] = [x] ++ S2 := mrg_swap (fun y hy z hz => by rw [List.mem_singleton.1 hy]; exact h2 z hz)
    rw [List.nil_append, mrg_right, h3] at h
    exact h
  · rw [List.mem_singleton.1 hz]
    rcases h1 with rfl | ⟨S, z, rfl, h3⟩
    · cases hy
    · rcases List.mem_append.1 hy with hy | hy
      · have hp := (List.pairwise_append.1 (List.pairwise_append.1 hs).1).2.2 y hy z (List.mem_singleton.2 rfl)
        exact hw.tr _ _ _ hp h3
      · rw [List.mem_singleton.1 hy]; exact h3
/-- Where two sorted lists are parted. -/
theorem sym_pick (hw : Wo lt) {U V : List α} (hU : Srt lt U) (hV : Srt lt V) {h i lo hi : Nat} (hi0 : lo ≤ i) (hi1 : i ≤ hi) (hlo : (lo = 0 ∨ V.length + lo = h)) (hhi : (hi = h ∨ hi = U.length)) (hh : hi ≤ U.length) (hh2 : hi ≤ h) (hh3 : h ≤ V.length + lo)
    (h1 : i = lo ∨ ∃ x y, U[i - 1]? = some x ∧ V[h - i]? = some y ∧ lt y x = false) (h2 : i = hi ∨ ∃ x y, U[i]? = some x ∧ V[h - 1 - i]? = some y ∧ lt y x = true) :
    mrg lt U V = mrg lt (U.take i) (V.take (h - i)) ++ mrg lt (U.drop i) (V.drop (h - i)) := by
  have key := mrg_split (lt := lt) (U.take i) (V.take (h - i)) (U.drop i) (V.drop (h - i)) (fun x hx y hy => ?_) (fun y hy x hx => ?_)
  · rw [List.take_append_drop, List.take_append_drop] at key
    exact key
  · obtain ⟨k, hk, rfl⟩ := List.getElem_of_mem hx
    obtain ⟨j, hj, rfl⟩ := List.getElem_of_mem hy
    rw [List.getElem_take, List.getElem_drop]
    simp only [List.length_take, List.length_drop] at hk hj
    rcases h1 with rfl | ⟨x, y, hx1, hy1, hxy⟩
    · omega
    · obtain ⟨hx2, rfl⟩ := List.getElem?_eq_some_iff.1 hx1
      obtain ⟨hy2, rfl⟩ := List.getElem?_eq_some_iff.1 hy1
      have a1 : lt U[i - 1] U[k] = false := by
        by_cases hki : k = i - 1
        · subst hki; exact hw.irr _
        · exact List.pairwise_iff_getElem.1 hU k (i - 1) (by omega) hx2 (by omega)
      have a2 : lt V[h - i + j] V[h - i] = false := by
        by_cases hj0 : j = 0
        · subst hj0; exact hw.irr _
        · exact List.pairwise_iff_getElem.1 hV (h - i) (h - i + j) hy2 (by omega) (by omega)
      exact hw.tr _ _ _ (hw.tr _ _ _ a1 hxy) a2
  · obtain ⟨k, hk, rfl⟩ := List.getElem_of_mem hx
    obtain ⟨j, hj, rfl⟩ := List.getElem_of_mem hy
    rw [List.getElem_take, List.getElem_drop]
    simp only [List.length_take, List.length_drop] at hk hj
    rcases h2 with rfl | ⟨x, y, hx1, hy1, hxy⟩
    · omega
    · obtain ⟨hx2, rfl⟩ := List.getElem?_eq_some_iff.1 hx1
      obtain ⟨hy2, rfl⟩ := List.getElem?_eq_some_iff.1 hy1
      have a1 : lt U[i + k] U[i] = false := by
        by_cases hk0 : k = 0
        · subst hk0; exact hw.irr _
        · exact List.pairwise_iff_getElem.1 hU i (i + k) hx2 (by omega) (by omega)
      have a2 : lt V[h - 1 - i] V[j] = false := by
        by_cases hjh : j = h - 1 - i
        · subst hjh; exact hw.irr _
        · exact List.pairwise_iff_getElem.1 hV j (h - 1 - i) (by omega) hy2 (by omega)
      cases hc : lt V[j] U[i + k] with
      | true => rfl
      | false =>
        have b1 := hw.tr _ _ _ a1 hc
        have b2 := hw.tr _ _ _ b1 a2
        rw [hxy] at b2; cases b2
/-- Sorted blocks. -/
inductive Bl (lt : α → α → Bool) (s : Nat) : List α → List α → Prop
  | last {L : List α} (h : L.length ≤ s) : Bl lt s L (srt lt L)
  | more {A L D : List α} (h : A.length = s) (k : Bl lt s L D) : Bl lt s (A ++ L) (srt lt A ++ D)
inductive Pf (lt : α → α → Bool) (s : Nat) : List α → List α → Prop
  | zero : Pf lt s [] []
  | snoc {A P B : List α} (k : Pf lt s A P) (h : B.length = s) : Pf lt s (A ++ B) (P ++ srt lt B)
theorem Pf.bl {s : Nat} {A P : List α} (h : Pf lt s A P) : ∀ {R E : List α}, Bl lt s R E → Bl lt s (A ++ R) (P ++ E) := by
  induction h with
  | zero => intro R E h; exact h
  | snoc k hB ih =>
    intro R E h
    rw [List.append_assoc, List.append_assoc]
    exact ih (.more hB h)
theorem Pf.len {s : Nat} {A P : List α} (h : Pf lt s A P) : P.length = A.length := by
  induction h with
  | zero => rfl
  | snoc k hB ih => rw [List.length_append, List.length_append, ih, srt_len]
theorem Bl.len {s : Nat} {A P : List α} (h : Bl lt s A P) : P.length = A.length := by
  induction h with
  | last h => exact srt_len _
  | more h k ih => rw [List.length_append, List.length_append, ih, srt_len]
theorem Bl.small {s : Nat} {L D : List α} (h : Bl lt s L D) (hl : L.length ≤ s) : D = srt lt L := by
  cases h with
  | last _ => rfl
  | more hA k =>
    rename_i A L D
    have hL : L.length = 0 := by simp at hl; omega
    obtain rfl := List.length_eq_zero_iff.1 hL
    have := k.len
    obtain rfl := List.length_eq_zero_iff.1 this
    simp
theorem Bl.split {s : Nat} {L D : List α} (h : Bl lt s L D) (hl : s < L.length) : ∃ A R E, A.length = s ∧ L = A ++ R ∧ D = srt lt A ++ E ∧ Bl lt s R E := by
  cases h with
  | last h => omega
  | more hA k => exact ⟨_, _, _, hA, rfl, rfl, k⟩
theorem Bl.split' {s : Nat} {L D : List α} (h : Bl lt s L D) (hl : s ≤ L.length) : ∃ A R E, A.length = s ∧ L = A ++ R ∧ D = srt lt A ++ E ∧ Bl lt s R E := by
  by_cases hs : s < L.length
  · exact h.split hs
  · refine ⟨L, [], [], by omega, by simp, by rw [h.small (by omega)]; simp, ?_⟩
    exact .last (Nat.zero_le _)
end
end Go.Proofs.Ytmlmgipngbndgaa
namespace Go.Proofs.Ytmlmgipngbndgaa
open Go.RowKit
attribute [local irreducible] TR OQ OS OX Rd T TL GX GL AL AI RV wpG SAny Calls
structure Sh where
  who : Int
  fr : Int
  to : Int
def shCells (x : Sh) : List Value := [.int .i64 x.who, .int .i64 x.fr, .int .i64 x.to]
theorem sh_len (l : List Sh) : ∀ r ∈ l.map shCells, r.length = 3 := by simp only [List.mem_map]; rintro r ⟨x, _, rfl⟩; rfl
theorem sh_one (l : List Sh) : ∀ r ∈ l.map shCells, ∀ u ∈ r, u.oneCell' = true := by
  simp only [List.mem_map]
  rintro r ⟨x, _, rfl⟩ u hu
  simp [shCells] at hu
  rcases hu with rfl | rfl | rfl <;> rfl
theorem cloneS_T (A : Option Addr) (n c : Nat) (l : List Sh) (w : World) (hr : RdS w 3 A n (l.map shCells)) (hnil : A = none → n = 0 ∧ c = 0) (hn : n ≤ 1000000) :
    Calls Try.prog 89 #[.slice A n c] w fun e w' => ∃ v H', e = .returned v ∧ CloneV 101 3 (l.map shCells).flatten n v H' ∧ Has w ⟨[], []⟩ H' w' := by
  cases A with
  | none =>
    obtain ⟨rfl, rfl⟩ := hnil rfl
    refine enterF (c := cx w 8) Try.func89 rfl rfl rfl rfl ?_
    repeat' (first | ((with_reducible apply oq_id); first | ((with_reducible apply oq_eqNilT); (iterate 3 exact rfl)) | (apply oq_fn; exact rfl; try first | exact trivial | (and_intros <;> omega))) | ((with_reducible apply tl_id); first | (with_reducible apply tl_nil) | ((with_reducible apply u_q); (iterate 4 exact rfl))) | ((with_reducible apply t_id); first | (with_reducible apply t_seq) | (apply t_region; kernel_rfl) | ((with_reducible apply t_condT); exact rfl) | (with_reducible apply t_ret)) | with_reducible apply q_thenN | with_reducible apply q_thenR | (with_reducible apply end_ret) | exact rvs_nil | (with_reducible apply rvs_cons) | ((with_reducible apply rv_tmp); exact rfl))
    exact ⟨_, ⟨none, fun _ => rfl, rfl, rfl⟩, HpSub.nil⟩
  | some p =>
    refine enterF (c := cx w 8) Try.func89 rfl rfl rfl rfl ?_
    repeat' (first | ((with_reducible apply oq_id); first | ((with_reducible apply oq_eqNil); (iterate 3 exact rfl)) | (apply oq_fn; exact rfl; try first | exact trivial | (and_intros <;> omega))) | ((with_reducible apply tl_id); first | (with_reducible apply tl_nil) | ((with_reducible apply u_s); (iterate 3 exact rfl); (with_reducible apply os_appendRows (hk := app_ok75) (rows := l.map shCells) (hr := fun D w1 hw1 => hr.ext hw1.ext.ext)); exact rfl; exact rfl; exact P0; exact sh_len l; exact rfl; exact sh_one l; exact Nat.le_refl _; omega; omega; intro b cap'; simp only [Nat.zero_add, List.nil_append]) | ((with_reducible apply u_q); (iterate 4 exact rfl)) | ((with_reducible apply u_s); (iterate 3 exact rfl))) | ((with_reducible apply os_x); exact rfl) | ((with_reducible apply ox_buildSlice); (iterate 4 exact rfl)) | ((with_reducible apply t_id); first | (with_reducible apply t_seq) | (apply t_region; kernel_rfl) | ((with_reducible apply t_condF); exact rfl) | (with_reducible apply t_ret) | (with_reducible apply t_skip)) | with_reducible apply q_thenN | ((with_reducible apply Norm.nil); exact rfl) | (with_reducible apply end_ret) | exact rvs_nil | (with_reducible apply rvs_cons) | ((with_reducible apply rv_tmp); exact rfl) | exact (rfl : (_ : Bool) = true) | (intro _; with_reducible apply tl_id))
    exact ⟨_, ⟨some (b, cap'), fun h => (by cases h), rfl, rfl⟩, HpSub.refl _⟩
end Go.Proofs.Ytmlmgipngbndgaa
namespace Go.Proofs.Ytmlmgipngbndgaa
/-- The order of shifts. -/
def ltS (x y : Sh) : Bool := decide (byP x.who x.fr y.who y.fr < 0)
theorem ordV_neg {a b : Int} : ordV a b < 0 ↔ a < b := by unfold ordV; split <;> (try split) <;> omega
theorem ordV_zero {a b : Int} : ordV a b = 0 ↔ a = b := by unfold ordV; split <;> (try split) <;> omega
theorem ltS_iff {x y : Sh} : ltS x y = true ↔ x.who < y.who ∨ (x.who = y.who ∧ x.fr < y.fr) := by
  unfold ltS byP
  rw [decide_eq_true_iff]
  by_cases h : ordV x.who y.who = 0
  · rw [if_pos h, ordV_neg]; rw [ordV_zero] at h; omega
  · rw [if_neg h, ordV_neg]; rw [ordV_zero] at h; omega
theorem ltS_no {x y : Sh} : ltS x y = false ↔ y.who < x.who ∨ (x.who = y.who ∧ y.fr ≤ x.fr) := by
  cases h : ltS x y with
  | true => have := ltS_iff.1 h; simp; omega
  | false =>
    have : ¬ (ltS x y = true) := by rw [h]; decide
    rw [ltS_iff] at this
    simp; omega
theorem woS : Wo ltS := ⟨fun a b h => by have := ltS_iff.1 h; exact ltS_no.2 (by omega), fun a b c h1 h2 => by have := ltS_no.1 h1; have := ltS_no.1 h2; exact ltS_no.2 (by omega)⟩
abbrev srtS (l : List Sh) : List Sh := srt ltS l
/-- A shift that is valid. -/
def shOk (x : Sh) : Prop := (0 ≤ x.who ∧ x.who ≤ 5) ∧ 0 ≤ x.fr ∧ x.fr < x.to ∧ x.to ≤ 1000000
instance (x : Sh) : Decidable (shOk x) := by unfold shOk; infer_instance
/-- Shifts of one person at one time. -/
def lap (x y : Sh) : Prop := x.who = y.who ∧ x.fr < y.to ∧ y.fr < x.to
instance (x y : Sh) : Decidable (lap x y) := by unfold lap; infer_instance
theorem lap_symm {x y : Sh} (h : lap x y) : lap y x := ⟨h.1.symm, h.2.2, h.2.1⟩
/-- A roster that is valid, but for its number. -/
def Ros (l : List Sh) : Prop := (∀ x ∈ l, shOk x) ∧ l.Pairwise fun x y => ¬ lap x y
instance (l : List Sh) : Decidable (Ros l) := by unfold Ros; infer_instance
/-- The same, told of the sorted list. -/
def Fit (S : List Sh) : Prop := ∀ i x, S[i]? = some x → shOk x ∧ ∀ p, 0 < i → S[i - 1]? = some p → p.who = x.who → p.to ≤ x.fr
theorem Fit.before {S : List Sh} (hs : Srt ltS S) (h : Fit S) : ∀ {i j : Nat} {x y : Sh}, i < j → S[i]? = some x → S[j]? = some y → x.who = y.who → x.to ≤ y.fr
  | i, 0, x, y, hij, _, _, _ => by omega
  | i, j + 1, x, y, hij, hx, hy, hw => by
    obtain ⟨hj1, rfl⟩ := List.getElem?_eq_some_iff.1 hy
    obtain ⟨hi1, rfl⟩ := List.getElem?_eq_some_iff.1 hx
    have hz : S[j]? = some S[j] := List.getElem?_eq_getElem (by omega)
    have s1 := ltS_no.1 (List.pairwise_iff_getElem.1 hs j (j + 1) (by omega) hj1 (by omega))
    by_cases hji : i = j
    · subst hji
      exact (h (i + 1) _ hy).2 _ (by omega) hz hw
    · have s2 := ltS_no.1 (List.pairwise_iff_getElem.1 hs i j hi1 (by omega) (by omega))
      have ih := Fit.before hs h (show i < j by omega) hx hz (by omega)
      have hp := (h (j + 1) _ hy).2 _ (by omega) hz (by omega)
      have ho := (h j _ hz).1
      unfold shOk at ho
      omega
theorem fit_iff {S l : List Sh} (hs : Srt ltS S) (hp : S.Perm l) : Fit S ↔ Ros l := by
  constructor
  · intro h
    refine ⟨fun x hx => ?_, ?_⟩
    · obtain ⟨i, hi, rfl⟩ := List.getElem_of_mem (hp.mem_iff.2 hx)
      exact (h i _ (List.getElem?_eq_getElem hi)).1
    · refine (hp.pairwise_iff (R := fun x y => ¬ lap x y) (fun {x y} h1 h2 => h1 (lap_symm h2))).1 ?_
      refine List.pairwise_iff_getElem.2 fun i j hi hj hij hl => ?_
      have := h.before hs hij (List.getElem?_eq_getElem hi) (List.getElem?_eq_getElem hj) hl.1
      have := hl.2.2
      omega
  · rintro ⟨h1, h2⟩ i x hx
    have hxl := hp.mem_iff.1 (List.mem_of_getElem? hx)
    refine ⟨h1 x hxl, fun p hi hpx hw => ?_⟩
    have h3 := (hp.pairwise_iff (R := fun x y => ¬ lap x y) (fun {x y} h1 h2 => h1 (lap_symm h2))).2 h2
    obtain ⟨hi1, rfl⟩ := List.getElem?_eq_some_iff.1 hx
    obtain ⟨hi2, rfl⟩ := List.getElem?_eq_some_iff.1 hpx
    have h4 := List.pairwise_iff_getElem.1 h3 (i - 1) i hi2 hi1 (by omega)
    have h5 := ltS_no.1 (List.pairwise_iff_getElem.1 hs (i - 1) i hi2 hi1 (by omega))
    have h6 := (h1 _ hxl)
    unfold shOk at h6
    unfold lap at h4
    omega
theorem fitS_iff (l : List Sh) : Fit (srtS l) ↔ Ros l := fit_iff (srt_srt woS l) (srt_perm l)
/-! Who is tired -/
structure Du where
  most : Int
  rest : Int
  win : Int
  sum : Int
structure Ti where
  kind : Int
  who : Int
  at_ : Int
deriving DecidableEq
def tiCells (x : Ti) : List Value := [.int .i64 x.kind, .int .i64 x.who, .int .i64 x.at_]
/-- The minutes of a shift between two times. -/
def minS (who fr to : Int) (y : Sh) : Int := if y.who = who then max (min y.to to - max y.fr fr) 0 else 0
def workV (l : List Sh) (who fr to : Int) : Int := (l.map (minS who fr to)).sum
/-- As the program has it. -/
def minT (x : Sh) (w : Int) (y : Sh) : Int := if y.who = x.who then max 0 (min y.to (x.fr + w) - y.fr) else 0
def workT (S : List Sh) (i : Nat) (x : Sh) (w : Int) : Int := ((S.drop i).map (minT x w)).sum
theorem sum_zero {α : Type} {f : α → Int} : ∀ {l : List α}, (∀ x ∈ l, f x = 0) → (l.map f).sum = 0
  | [], _ => rfl
  | a :: l, h => by
    rw [List.map_cons, List.sum_cons, h a List.mem_cons_self, sum_zero fun x hx => h x (List.mem_cons_of_mem _ hx)]; rfl
theorem sum_congr {α : Type} {f g : α → Int} : ∀ {l : List α}, (∀ x ∈ l, f x = g x) → (l.map f).sum = (l.map g).sum
  | [], _ => rfl
  | a :: l, h => by
    rw [List.map_cons, List.sum_cons, List.map_cons, List.sum_cons, h a List.mem_cons_self, sum_congr fun x hx => h x (List.mem_cons_of_mem _ hx)]
theorem work_eq {S : List Sh} (hs : Srt ltS S) (hf : Fit S) {i : Nat} {x : Sh} (hx : S[i]? = some x) {w : Int} (hw : 0 ≤ w) : workT S i x w = workV S x.who x.fr (x.fr + w) := by
  obtain ⟨hi, he⟩ := List.getElem?_eq_some_iff.1 hx
  have e1 : workV S x.who x.fr (x.fr + w) = ((S.take i).map (minS x.who x.fr (x.fr + w))).sum + ((S.drop i).map (minS x.who x.fr (x.fr + w))).sum := by
    unfold workV
    rw [← List.sum_append, ← List.map_append, List.take_append_drop]
  have e2 : ((S.take i).map (minS x.who x.fr (x.fr + w))).sum = 0 := sum_zero fun y hy => by
    obtain ⟨j, hj, rfl⟩ := List.getElem_of_mem hy
    rw [List.getElem_take]
    simp only [List.length_take] at hj
    unfold minS
    by_cases hwh : S[j].who = x.who
    · rw [if_pos hwh]
      have := hf.before hs (show j < i by omega) (List.getElem?_eq_getElem (by omega)) hx hwh
      omega
    · rw [if_neg hwh]
  have e3 : workT S i x w = ((S.drop i).map (minS x.who x.fr (x.fr + w))).sum := sum_congr fun y hy => by
    obtain ⟨j, hj, rfl⟩ := List.getElem_of_mem hy
    rw [List.getElem_drop]
    simp only [List.length_drop] at hj
    unfold minT minS
    by_cases hwh : S[i + j].who = x.who
    · rw [if_pos hwh, if_pos hwh]
      have : x.fr ≤ S[i + j].fr := by
        by_cases h0 : j = 0
        · subst h0; rw [← he]; exact Int.le_refl _
        · have := ltS_no.1 (List.pairwise_iff_getElem.1 hs i (i + j) hi (by omega) (by omega)); rw [he] at this; omega
      omega
    · rw [if_neg hwh, if_neg hwh]
  rw [e1, e2, e3, Int.zero_add]
/-- The cases of one shift. -/
def restB (d : Du) (S : List Sh) (i : Nat) (x : Sh) : Bool := decide (0 < i) && match S[i - 1]? with | some p => decide (p.who = x.who) && decide (x.fr - p.to < d.rest) | none => false
def casV (d : Du) (S : List Sh) (i : Nat) (x : Sh) : List Ti :=
  (if x.to - x.fr > d.most then [⟨1, x.who, x.fr⟩] else []) ++ ((if restB d S i x = true then [⟨2, x.who, x.fr⟩] else []) ++ (if workV S x.who x.fr (x.fr + d.win) > d.sum then [⟨3, x.who, x.fr⟩] else []))
def casAt (d : Du) (S : List Sh) (i : Nat) : List Ti := match S[i]? with | some x => casV d S i x | none => []
def tiTo (d : Du) (S : List Sh) : Nat → List Ti
  | 0 => []
  | k + 1 => tiTo d S k ++ casAt d S k
def tiV (d : Du) (l : List Sh) : List Ti := tiTo d (srtS l) l.length
theorem tiTo_succ {d : Du} {S : List Sh} {k : Nat} {x : Sh} (h : S[k]? = some x) : tiTo d S (k + 1) = tiTo d S k ++ casV d S k x := by
  show tiTo d S k ++ casAt d S k = _
  unfold casAt; rw [h]
/-- Are the limits valid? -/
def duB (d : Du) : Prop := (1 ≤ d.most ∧ d.most ≤ 100000) ∧ (0 ≤ d.rest ∧ d.rest ≤ 100000) ∧ (1 ≤ d.win ∧ d.win ≤ 100000) ∧ 0 ≤ d.sum ∧ d.sum ≤ d.win
instance (d : Du) : Decidable (duB d) := by unfold duB; infer_instance
def duE (d : Du) : Int := if duB d then 0 else 80
def rosE (l : List Sh) : Int := if 40 < l.length then 4 else if Ros l then 0 else 81
def tiE (d : Du) (l : List Sh) : Int := if duE d = 0 then rosE l else duE d
structure Deal where
  kind : Int
  n : Int
  seats : Int
  price : Int
  leaves : Int
end Go.Proofs.Ytmlmgipngbndgaa
namespace Go.Proofs.Ytmlmgipngbndgaa
open Go.RowKit
theorem flat_len {α : Type} {f : α → List Value} {s : Nat} (hf : ∀ x, (f x).length = s) : ∀ (l : List α), ((l.map f).flatten).length = l.length * s
  | [] => by simp
  | x :: l => by
    simp only [List.map_cons, List.flatten_cons, List.length_append, hf, flat_len hf l, List.length_cons, Nat.add_mul]
    omega
theorem flat_set {α : Type} {f : α → List Value} {s : Nat} (hf : ∀ x, (f x).length = s) : ∀ {l : List α} {i : Nat} {x y : α}, l[i]? = some x → ∀ {k : Nat} {v : Value}, k < s → f y = (f x).set k v → ((l.map f).flatten).set (i * s + k) v = ((l.set i y).map f).flatten
  | [], i, x, y, h, k, v, hk, hy => by simp at h
  | a :: l, 0, x, y, h, k, v, hk, hy => by
    obtain rfl : a = x := by simpa using h
    simp only [List.map_cons, List.flatten_cons, List.set_cons_zero, Nat.zero_mul, Nat.zero_add]
    rw [List.set_append_left _ _ (by rw [hf]; exact hk), hy]
  | a :: l, i + 1, x, y, h, k, v, hk, hy => by
    have h' : l[i]? = some x := by simpa using h
    simp only [List.map_cons, List.flatten_cons, List.set_cons_succ]
    rw [List.set_append_right _ _ (by rw [hf, Nat.add_mul]; omega), hf, show (i + 1) * s + k - s = i * s + k by rw [Nat.add_mul]; omega, flat_set hf h' hk hy]
section
variable {c : Cx} {F : Fr} {H H' : Hp} {K : Value → Hp → Prop} {d : Option Tmp} {ty t : TypeId} {pos : String} {af : Array Edge} {g : Option (Nat × Bool)} {x y : Operand} {v : Value} {a0 : Bool} {z0 : List Value} {k0 : TyK} {b o : Nat} {C C' : List Value} {tg : Tg}
end
abbrev shB (l : List Sh) : List Value := (l.map shCells).flatten
theorem sh_flat_len (l : List Sh) : (shB l).length = l.length * 3 := flat_len (s := 3) (fun _ => rfl) l
theorem sh_at {l : List Sh} {i : Nat} {x : Sh} (h : l[i]? = some x) : (shB l)[0 + i * 3]? = some (.int .i64 x.who) ∧ (shB l)[0 + i * 3 + 1]? = some (.int .i64 x.fr) ∧ (shB l)[0 + i * 3 + 1 + 1]? = some (.int .i64 x.to) := by
  rw [Nat.zero_add]
  exact ⟨flat_at (f := shCells) (s := 3) (fun _ => rfl) h (j := 0) rfl, flat_at (f := shCells) (s := 3) (fun _ => rfl) h (j := 1) rfl, flat_at (f := shCells) (s := 3) (fun _ => rfl) h (j := 2) rfl⟩
theorem sh_set {l : List Sh} {i : Nat} {x y : Sh} (h : l[i]? = some x) : setL (shB l) (0 + i * 3) [.int .i64 y.who, .int .i64 y.fr, .int .i64 y.to] = shB (l.set i y) := by
  simp only [setL, Nat.zero_add]
  have e1 := flat_set (f := shCells) (s := 3) (fun _ => rfl) (l := l) (i := i) (x := x) (y := ⟨y.who, x.fr, x.to⟩) h (k := 0) (v := .int .i64 y.who) (by omega) rfl
  have h2 : (l.set i ⟨y.who, x.fr, x.to⟩)[i]? = some ⟨y.who, x.fr, x.to⟩ := by
    rw [List.getElem?_set, if_pos rfl, if_pos (List.getElem?_eq_some_iff.1 h).1]
  have e2 := flat_set (f := shCells) (s := 3) (fun _ => rfl) (l := l.set i ⟨y.who, x.fr, x.to⟩) (i := i) (y := ⟨y.who, y.fr, x.to⟩) h2 (k := 1) (v := .int .i64 y.fr) (by omega) rfl
  have h3 : (l.set i ⟨y.who, y.fr, x.to⟩)[i]? = some ⟨y.who, y.fr, x.to⟩ := by
    rw [List.getElem?_set, if_pos rfl, if_pos (List.getElem?_eq_some_iff.1 h).1]
  have e3 := flat_set (f := shCells) (s := 3) (fun _ => rfl) (l := l.set i ⟨y.who, y.fr, x.to⟩) (i := i) (y := y) h3 (k := 2) (v := .int .i64 y.to) (by omega) rfl
  simp only [List.set_set, Nat.add_zero] at e1 e2 e3
  rw [Nat.add_assoc]
  rw [e1, e2, e3]
section
variable {c : Cx} {F : Fr} {H H' : Hp} {K : Value → Hp → Prop} {d : Option Tmp} {ty t : TypeId} {pos : String} {af : Array Edge} {gd : Option (Nat × Bool)} {x y : Operand} {a0 : Bool} {z0 : List Value} {k0 : TyK} {g i : Nat} {tg : Tg} {l l' : List Sh} {z : Sh}
theorem os_storeSh (u : Sh) (hz : l[i]? = some z) (hl : l.set i u = l') (ht : tyAt c.tys t = some ⟨a0, 3, z0, k0⟩) (hx : ev F x = some (.pointer (some ⟨g, 0 + i * 3, none⟩))) (hy : ev F y = some (.agg #[.int .i64 u.who, .int .i64 u.fr, .int .i64 u.to])) (hp : Pick H g (shB l) tg H')
    (kk : K undef ((g, shB l', tg) :: H')) : OS c ⟨d, .store t x y, ty, pos, af, gd⟩ F H K :=
  store_gen (vs := [.int .i64 u.who, .int .i64 u.fr, .int .i64 u.to]) ht hx hy rfl rfl (by simp [Value.oneCell']) hp (by rw [sh_flat_len]; have := (List.getElem?_eq_some_iff.1 hz).1; omega) (by rw [sh_set hz, hl]; exact kk)
end
theorem SAnyI_lexE {P : Program} {ops : Array Oper} {cov : Array Bool} {Q : Act → World → Prop} {I : World → Prop} (hU : Up I) (hs : Region.noSelect ops = true) (n : Nat) : ∀ (l : List Nat) (listed : Array Bool) (a : Act) (w0 : World), I w0 → lexOk ops cov l listed = true → Down ops listed →
    wpGI P ops I (fun a' => ∀ w, Ext w0 w → SAnyI P ops cov I Q n (listedBy l listed) a' w) l a → ∀ w, Ext w0 w → SAnyI P ops cov I Q (n + l.length) listed a w
  | [], _, _, _, _, _, _, h => h
  | i :: l, listed, a, w0, hw0, hB, hd, h => by
    simp only [lexOk, Bool.and_eq_true] at hB
    obtain ⟨⟨⟨hr, hf⟩, hc⟩, hB'⟩ := hB
    have hr' : i ∈ Region.ready .any ops listed := by simpa using hr
    unfold wpGI at h
    cases ho : ops[i]? with
    | none => simp only [ho] at h
    | some o =>
      simp only [ho] at h
      by_cases hw : Region.wanted o (yielded ops a.tmps) = true
      · simp only [hw, if_true] at h
        obtain ⟨v, hv, hK⟩ := h
        exact SAnyI_first hU ho (Region.noSelect_spec hs) hc (n + l.length) listed a w0 hw0 hd (Region.free_spec ho hf) hr' (.inl ⟨hw, hv⟩) (SAnyI_lexE hU hs n l _ _ w0 hw0 hB' (hd.set hr') hK)
      · simp only [hw] at h
        exact SAnyI_first hU ho (Region.noSelect_spec hs) hc (n + l.length) listed a w0 hw0 hd (Region.free_spec ho hf) hr' (.inr ⟨by simpa using hw, rfl⟩) (SAnyI_lexE hU hs n l _ _ w0 hw0 hB' (hd.set hr') h)
theorem t_mixZ {c : Cx} {Q : QS} {F : Fr} {H : Hp} {id : Nat} {l ql : List Oper} (q : List Nat) (n : Nat) (hm : c.P.follows .mixedOrders = true) (hB : (Region.noSelect ⟨l⟩ && (n + q.length == (Array.mk l).size) && lexOk ⟨l⟩ #[] q (Array.replicate (Array.mk l).size false)) = true) (hq : pickOps l q = some ql)
    (h : GX c ⟨l⟩ ql (fun F' => AL c ⟨l⟩ #[] [] n (listedBy q (Array.replicate (Array.mk l).size false)) (fun F H => Q .normal F H) F' H) F []) : T c (WS.own c.P) (.region id ⟨l⟩ true) Q F H := fun D a w ha hw => by
  show (Code.region id ⟨l⟩ true).wp c.P (cv c Q) a w
  simp only [Bool.and_eq_true, beq_iff_eq] at hB
  obtain ⟨⟨hs, hn⟩, hl⟩ := hB
  have hI : Has c.w0 ⟨c.M, D⟩ [] w := hw.sub HpSub.nil
  refine wp_region_any hm (wpAny_of_SAnyI (Q := fun a w => ∃ D F H, Q .normal F H ∧ Frm D c.N F a ∧ Has c.w0 ⟨c.M, D⟩ H w) (I := Has c.w0 ⟨c.M, D⟩ []) (cov := #[]) (fun _ _ h => h) _ _ _ _ ?_)
  rw [← hn]
  have key := SAnyI_lexE (P := c.P) (cov := #[]) (Q := fun a w => ∃ D F H, Q .normal F H ∧ Frm D c.N F a ∧ Has c.w0 ⟨c.M, D⟩ H w) (Has.up (M := ⟨c.M, D⟩)) hs n q (Array.replicate (Array.mk l).size false) a w hI hl (Down.none _)
    (wpGI_mono (fun a' ⟨F', h1, h2⟩ w' hw' => h1 D a' w' h2 (hw.grow hw')) q a (h q (pickOps_spec hq) D a ha)) w.drew (Ext.refl w).drew
  exact hn.symm ▸ key
end Go.Proofs.Ytmlmgipngbndgaa
namespace Go.Proofs.Ytmlmgipngbndgaa
open Go.RowKit
attribute [local irreducible] OQ OS OX Rd T TL GX GL AL AI RV wpG SAny Calls
theorem swapR_W (g cp n a b k : Nat) (P X M Y Q : List Sh) (w : World) (hB : Blk w g (shB (P ++ (X ++ (M ++ (Y ++ Q))))) (some (101, 3, cp))) (hX : X.length = k) (hY : Y.length = k) (ha : P.length = a) (hb : P.length + k + M.length = b) (hn : (P ++ (X ++ (M ++ (Y ++ Q)))).length = n) (hn1 : n ≤ 1000000) :
    Calls Try.prog 141 #[.slice (some ⟨g, 0, none⟩) n cp, .int .i64 (a : Nat), .int .i64 (b : Nat), .int .i64 (k : Nat), .func (.func 111) #[] #[]] w fun e w' => e = .returned (.tuple #[]) ∧ ExtM [g] w w' ∧ Blk w' g (shB (P ++ (Y ++ (M ++ (X ++ Q))))) (some (101, 3, cp)) := by
  simp only [List.length_append, hX, hY] at hn
  rw [← swr_zero] at hB
  rw [← swr_all (P := P) (M := M) (Q := Q) hX hY]
  have HS := fun i (h : i < k) => swr_step (P := P) (M := M) (Q := Q) hX hY h
  rw [hb] at HS
  rw [ha] at HS
  generalize swr P X M Y Q = S at HS hB ⊢
  refine enterW (c := cxM [g] w 38) Try.func141 rfl rfl rfl rfl hB ?_
  repeat' (first | ((with_reducible apply oq_id); first | (apply oq_fn; exact rfl; try first | exact trivial | (and_intros <;> omega))) | ((with_reducible apply tl_id); first | (with_reducible apply tl_nil) | ((with_reducible apply u_q); (iterate 4 exact rfl))) | ((with_reducible apply t_id); first | (with_reducible apply t_seq) | (apply t_region; kernel_rfl) | (with_reducible apply t_block)) | with_reducible apply q_thenN)
  apply t_loopK (ι := Nat) [0, 1, 2, 3] (fun i => [(10, .int .i64 (i : Nat))]) (fun i => [(g, shB (S i), some (101, 3, cp))]) (fun i => i ≤ k) (fun i => k - i) (0)
  (repeat (first | exact KeepF.nil | (apply KeepF.cons; exact rfl) | apply KeepF.skip))
  (repeat (first | exact FrSub.nil | (apply FrSub.cons; exact rfl)))
  (repeat (first | exact HpSub.refl _ | (apply HpSub.consE; (repeat (first | exact P0 | apply P1)); exact rfl) | exact HpSub.nil))
  · exact Nat.zero_le _
  rintro i hi
  try simp only [List.cons_append, List.nil_append]
  by_cases hlt : i < k
  · obtain ⟨x, y, hx, hy, hs⟩ := HS i hlt
    have hy2 : ((S i).set (a + i) y)[b + i]? = some y := by rw [List.getElem?_set_ne (by omega)]; exact hy
    obtain ⟨q0, q1, q2⟩ := sh_at hx
    obtain ⟨r0, r1, r2⟩ := sh_at hy
    repeat' (first | ((with_reducible apply oq_id); first | ((with_reducible apply oq_addE (k := ((a + i : Nat) : Int))); exact rfl; exact rfl; omega) | ((with_reducible apply oq_addE (k := ((b + i : Nat) : Int))); exact rfl; exact rfl; omega) | (focus ((with_reducible apply oq_indexAddrN); (iterate 4 exact rfl); omega)) | ((with_reducible apply oq_lssT); exact rfl; exact rfl; omega) | (apply oq_fn; exact rfl; try first | exact trivial | (and_intros <;> omega)) | ((with_reducible apply oq_loadAgg); exact rfl; exact rfl)) | ((with_reducible apply tl_id); first | (with_reducible apply tl_nil) | ((with_reducible apply u_q); (iterate 4 exact rfl))) | ((with_reducible apply gx_id); first | (with_reducible apply v_nil) | ((with_reducible apply v_q); (iterate 3 exact rfl))) | ((with_reducible apply os_id); first | ((with_reducible apply (os_storeSh y hx rfl)); (iterate 3 exact rfl); (repeat (first | exact P0 | apply P1))) | ((with_reducible apply (os_storeSh x hy2 hs)); (iterate 3 exact rfl); (repeat (first | exact P0 | apply P1)))) | ((with_reducible apply ai_id); first | ((with_reducible apply ai_q); (iterate 5 exact rfl)) | ((with_reducible apply ai_n0); (iterate 3 exact rfl))) | ((with_reducible apply al_keep); focus (repeat (first | exact HpSub.refl _ | (apply HpSub.cons; (repeat (first | exact P0 | apply P1))) | apply HpSub.skipX | exact HpSub.nil))) | ((with_reducible apply rd_id); first | (apply Rd.own; (repeat (first | exact P0 | apply P1)); with_reducible (first | exact q0 | exact q1 | exact q2 | exact r0 | exact r1 | exact r2); done)) | ((with_reducible apply t_id); first | (apply t_mixZ (id := 3) [0, 1, 2, 3, 4, 5, 6, 7, 8, 9, 10, 11, 12, 14, 15, 16, 17, 18] 6; kernel_rfl; kernel_rfl; exact rfl) | (with_reducible apply t_seq) | (apply t_region; kernel_rfl) | ((with_reducible apply t_condT); exact rfl) | (with_reducible apply t_skip) | (with_reducible apply t_block)) | with_reducible apply q_thenN | with_reducible apply q_blockN | exact Rdn.zero | apply Rdn.succ | ((with_reducible apply al_id); first | (apply al_done; decide +kernel) | (apply al_one 13; decide +kernel) | (apply al_one 19; decide +kernel) | (apply al_one 20; decide +kernel) | (apply al_one 21; decide +kernel) | (apply al_one 22; decide +kernel) | (apply al_one 23; decide +kernel) | (apply al_two 13 19; decide +kernel)))
    all_goals (refine ⟨(i + 1), (by omega), (by omega), ?_, ?_⟩ <;> (try simp only [List.cons_append, List.nil_append]) <;> (repeat' (first | exact FrSub.nil | (apply FrSub.cons; exact rfl) | exact HpSub.refl _)))
  · obtain rfl : i = k := by omega
    repeat' (first | ((with_reducible apply oq_id); first | ((with_reducible apply oq_lssF); exact rfl; exact rfl; omega) | (apply oq_fn; exact rfl; try first | exact trivial | (and_intros <;> omega))) | ((with_reducible apply tl_id); first | (with_reducible apply tl_nil) | ((with_reducible apply u_q); (iterate 4 exact rfl))) | ((with_reducible apply t_id); first | (with_reducible apply t_seq) | (apply t_region; kernel_rfl) | ((with_reducible apply t_condF); exact rfl) | (with_reducible apply t_exit)) | with_reducible apply q_thenN | with_reducible apply q_thenE | ((with_reducible apply q_blockE); exact rfl) | (with_reducible apply end_normal) | exact rvs_nil)
    all_goals exact ⟨rfl, by (repeat (first | exact HpSub.refl _ | (apply HpSub.consE; (repeat (first | exact P0 | apply P1)); exact rfl) | exact HpSub.nil))⟩
theorem Has.blkP {w0 : World} {M : Ms} {H H' : Hp} {w : World} {b : Nat} {C : List Value} {tg : Tg} (h : Has w0 M H w) (p : Pick H b C tg H') : Blk w b C tg := (h.blk _ p.mem).2
theorem rot_W (g cp n a m b : Nat) (P X Y Q : List Sh) (w : World) (hB : Blk w g (shB (P ++ (X ++ (Y ++ Q)))) (some (101, 3, cp))) (hX : 0 < X.length) (hY : 0 < Y.length) (ha : P.length = a) (hm : a + X.length = m) (hb : m + Y.length = b) (hn : (P ++ (X ++ (Y ++ Q))).length = n) (hn1 : n ≤ 1000000) :
    Calls Try.prog 140 #[.slice (some ⟨g, 0, none⟩) n cp, .int .i64 (a : Nat), .int .i64 (m : Nat), .int .i64 (b : Nat), .func (.func 111) #[] #[]] w fun e w' => e = .returned (.tuple #[]) ∧ ExtM [g] w w' ∧ Blk w' g (shB (P ++ (Y ++ (X ++ Q)))) (some (101, 3, cp)) := by
  have hn0 := hn
  simp only [List.length_append] at hn
  refine enterW (c := cxM [g] w 58) Try.func140 rfl rfl rfl rfl hB ?_
  repeat' (first | ((with_reducible apply oq_id); first | ((with_reducible apply oq_subE (k := ((X.length : Nat) : Int))); exact rfl; exact rfl; omega) | ((with_reducible apply oq_subE (k := ((Y.length : Nat) : Int))); exact rfl; exact rfl; omega) | (apply oq_fn; exact rfl; try first | exact trivial | (and_intros <;> omega))) | ((with_reducible apply tl_id); first | (with_reducible apply tl_nil) | ((with_reducible apply u_q); (iterate 4 exact rfl))) | ((with_reducible apply t_id); first | (with_reducible apply t_seq) | (apply t_region; kernel_rfl) | (with_reducible apply t_block)) | with_reducible apply q_thenN)
  apply t_loopK (ι := Nat × Nat × List Sh × List Sh × List Sh × List Sh) [0, 2, 4, 50, 51, 52, 53, 54, 55, 56] (fun z => [(10, .int .i64 (z.1 : Nat)), (11, .int .i64 (z.2.1 : Nat))]) (fun z => [(g, shB (z.2.2.1 ++ (z.2.2.2.1 ++ (z.2.2.2.2.1 ++ z.2.2.2.2.2))), some (101, 3, cp))]) (fun z => z.2.2.2.1.length = z.1 ∧ z.2.2.2.2.1.length = z.2.1 ∧ 0 < z.1 ∧ 0 < z.2.1 ∧ z.2.2.1.length + z.1 = m ∧ m + z.2.1 ≤ n ∧ (z.2.2.1 ++ (z.2.2.2.1 ++ (z.2.2.2.2.1 ++ z.2.2.2.2.2))).length = n ∧ z.2.2.1 ++ (z.2.2.2.2.1 ++ (z.2.2.2.1 ++ z.2.2.2.2.2)) = P ++ (Y ++ (X ++ Q))) (fun z => z.1 + z.2.1) ((X.length, Y.length, P, X, Y, Q))
  (repeat (first | exact KeepF.nil | (apply KeepF.cons; exact rfl) | apply KeepF.skip))
  (repeat (first | exact FrSub.nil | (apply FrSub.cons; exact rfl)))
  (repeat (first | exact HpSub.refl _ | (apply HpSub.consE; (repeat (first | exact P0 | apply P1)); exact rfl) | exact HpSub.nil))
  · exact ⟨rfl, rfl, hX, hY, (by simp only; omega), (by simp only; omega), hn0, rfl⟩
  rintro ⟨i, j, P1, X1, Y1, Q1⟩ ⟨h1, h2, h3, h4, h5, h6, h7, h8⟩
  simp only at h1 h2 h3 h4 h5 h6 h7 h8
  dsimp only
  try simp only [List.cons_append, List.nil_append]
  have h7' := h7
  simp only [List.length_append] at h7'
  rcases Nat.lt_trichotomy i j with hij | hij | hij
  · obtain ⟨A, B, rfl, hB2⟩ : ∃ A B, Y1 = A ++ B ∧ B.length = i := ⟨Y1.take (j - i), Y1.drop (j - i), (List.take_append_drop _ _).symm, by simp; omega⟩
    simp only [List.length_append] at h2
    rw [List.append_assoc A B Q1] at h7 ⊢
    repeat' (first | ((with_reducible apply oq_id); first | ((with_reducible apply oq_subE (k := ((m - i : Nat) : Int))); exact rfl; exact rfl; omega) | ((with_reducible apply oq_addE (k := ((m + j : Nat) : Int))); exact rfl; exact rfl; omega) | ((with_reducible apply oq_subE (k := ((m + j - i : Nat) : Int))); exact rfl; exact rfl; omega) | ((with_reducible apply oq_subE (k := ((j - i : Nat) : Int))); exact rfl; exact rfl; omega) | ((with_reducible apply oq_neqT); exact rfl; exact rfl; omega) | ((with_reducible apply oq_gtrF); exact rfl; exact rfl; omega) | (apply oq_fn; exact rfl; try first | exact trivial | (and_intros <;> omega))) | ((with_reducible apply tl_id); first | (with_reducible apply tl_nil) | ((with_reducible apply u_s); (iterate 3 exact rfl); (with_reducible apply os_callW (b := g) (k := 141) (hc := Try.call141)); exact rfl; exact rfl; (repeat (first | exact P0 | apply P1)); exact fun D w1 hw1 => swapR_W g cp n (m - i) (m + j - i) i P1 X1 A B Q1 w1 (hw1.blkP (by (repeat (first | exact P0 | apply P1)))) h1 hB2 (by omega) (by omega) h7 hn1) | ((with_reducible apply u_q); (iterate 4 exact rfl))) | ((with_reducible apply t_id); first | (with_reducible apply t_seq) | (apply t_region; kernel_rfl) | ((with_reducible apply t_condT); exact rfl) | ((with_reducible apply t_condF); exact rfl) | (with_reducible apply t_skip) | (with_reducible apply t_block)) | with_reducible apply q_thenN | with_reducible apply q_blockN)
    all_goals (refine ⟨(i, j - i, P1, B, A, X1 ++ Q1), ⟨hB2, (by simp only; omega), h3, (by simp only; omega), h5, (by simp only; omega), (by simp only [List.length_append] at h7 ⊢; omega), ?_⟩, (by simp only; omega), ?_, ?_⟩)
    all_goals first
      | (rw [← h8]; simp only [List.append_assoc]; done)
      | ((try simp only [List.cons_append, List.nil_append]); (repeat (first | exact FrSub.nil | (apply FrSub.cons; exact rfl))); done)
      | ((try simp only [List.cons_append, List.nil_append]); (repeat (first | exact HpSub.refl _ | (apply HpSub.consE; (repeat (first | exact P0 | apply P1)); exact rfl) | exact HpSub.nil)); done)
  · subst hij
    repeat' (first | ((with_reducible apply oq_id); first | ((with_reducible apply oq_subE (k := ((m - i : Nat) : Int))); exact rfl; exact rfl; omega) | ((with_reducible apply oq_neqF); exact rfl; exact rfl; omega) | (apply oq_fn; exact rfl; try first | exact trivial | (and_intros <;> omega))) | ((with_reducible apply tl_id); first | (with_reducible apply tl_nil) | ((with_reducible apply u_s); (iterate 3 exact rfl); (with_reducible apply os_callW (b := g) (k := 141) (hc := Try.call141)); exact rfl; exact rfl; (repeat (first | exact P0 | apply P1)); exact fun D w1 hw1 => swapR_W g cp n (m - i) m i P1 X1 [] Y1 Q1 w1 (hw1.blkP (by (repeat (first | exact P0 | apply P1)))) h1 h2 (by omega) (by simp only [List.length_nil]; omega) h7 hn1) | ((with_reducible apply u_q); (iterate 4 exact rfl))) | ((with_reducible apply t_id); first | (with_reducible apply t_seq) | (apply t_region; kernel_rfl) | ((with_reducible apply t_condF); exact rfl) | (with_reducible apply t_exit)) | with_reducible apply q_thenN | with_reducible apply q_thenE | ((with_reducible apply q_blockE); exact rfl) | (with_reducible apply end_normal) | exact rvs_nil)
    all_goals (refine ⟨rfl, ?_⟩; rw [← h8]; exact HpSub.refl _)
  · obtain ⟨A, B, rfl, hA2⟩ : ∃ A B, X1 = A ++ B ∧ A.length = j := ⟨X1.take j, X1.drop j, (List.take_append_drop _ _).symm, by simp; omega⟩
    simp only [List.length_append] at h1
    rw [List.append_assoc A B (Y1 ++ Q1)] at h7 ⊢
    repeat' (first | ((with_reducible apply oq_id); first | ((with_reducible apply oq_subE (k := ((m - i : Nat) : Int))); exact rfl; exact rfl; omega) | ((with_reducible apply oq_subE (k := ((i - j : Nat) : Int))); exact rfl; exact rfl; omega) | ((with_reducible apply oq_neqT); exact rfl; exact rfl; omega) | ((with_reducible apply oq_gtrT); exact rfl; exact rfl; omega) | (apply oq_fn; exact rfl; try first | exact trivial | (and_intros <;> omega))) | ((with_reducible apply tl_id); first | (with_reducible apply tl_nil) | ((with_reducible apply u_s); (iterate 3 exact rfl); (with_reducible apply os_callW (b := g) (k := 141) (hc := Try.call141)); exact rfl; exact rfl; (repeat (first | exact P0 | apply P1)); exact fun D w1 hw1 => swapR_W g cp n (m - i) m j P1 A B Y1 Q1 w1 (hw1.blkP (by (repeat (first | exact P0 | apply P1)))) hA2 h2 (by omega) (by omega) h7 hn1) | ((with_reducible apply u_q); (iterate 4 exact rfl))) | ((with_reducible apply t_id); first | (with_reducible apply t_seq) | (apply t_region; kernel_rfl) | ((with_reducible apply t_condT); exact rfl) | (with_reducible apply t_skip) | (with_reducible apply t_block)) | with_reducible apply q_thenN | with_reducible apply q_blockN)
    all_goals (refine ⟨(i - j, j, P1 ++ Y1, B, A, Q1), ⟨(by simp only; omega), hA2, (by simp only; omega), h4, (by simp only [List.length_append]; omega), (by simp only; omega), (by simp only [List.length_append] at h7 ⊢; omega), ?_⟩, (by simp only; omega), ?_, ?_⟩)
    all_goals first
      | (rw [← h8]; simp only [List.append_assoc]; done)
      | ((try simp only [List.cons_append, List.nil_append]); (repeat (first | exact FrSub.nil | (apply FrSub.cons; exact rfl))); done)
      | (simp only [List.append_assoc]; (try simp only [List.cons_append, List.nil_append]); (repeat (first | exact HpSub.refl _ | (apply HpSub.consE; (repeat (first | exact P0 | apply P1)); exact rfl) | exact HpSub.nil)); done)
theorem byP_neg {x y : Sh} : (byP x.who x.fr y.who y.fr < 0) ↔ ltS x y = true := by unfold ltS; rw [decide_eq_true_iff]
theorem srt_take {X : List Sh} {k : Nat} {x : Sh} (h : X[k]? = some x) : srtS (X.take (k + 1)) = mrg ltS (srtS (X.take k)) [x] := by
  rw [List.take_add_one, h]; exact srt_snoc _ _
theorem split_last {α : Type} {l : List α} (h : l ≠ []) : ∃ S z, l = S ++ [z] := ⟨l.dropLast, l.getLast h, (List.dropLast_concat_getLast h).symm⟩
theorem ins_W (g cp n a b : Nat) (P X Q : List Sh) (w : World) (hB : Blk w g (shB (P ++ (X ++ Q))) (some (101, 3, cp))) (ha : P.length = a) (hb : a + X.length = b) (hn : (P ++ (X ++ Q)).length = n) (hn1 : n ≤ 1000000) :
    Calls Try.prog 138 #[.slice (some ⟨g, 0, none⟩) n cp, .int .i64 (a : Nat), .int .i64 (b : Nat), .func (.func 111) #[] #[]] w fun e w' => e = .returned (.tuple #[]) ∧ ExtM [g] w w' ∧ Blk w' g (shB (P ++ (srtS X ++ Q))) (some (101, 3, cp)) := by
  simp only [List.length_append] at hn
  have h1 : srtS (X.take (0 + 1)) ++ (X.drop (0 + 1) ++ Q) = X ++ Q := by
    cases X with
    | nil => rfl
    | cons x X => simp [srtS, srt, mrg_nil]
  rw [← h1] at hB
  refine enterW (c := cxM [g] w 53) Try.func138 rfl rfl rfl rfl hB ?_
  repeat' (first | ((with_reducible apply oq_id); first | ((with_reducible apply oq_addE (k := ((a + 1 + 0 : Nat) : Int))); exact rfl; exact rfl; omega) | (apply oq_fn; exact rfl; try first | exact trivial | (and_intros <;> omega))) | ((with_reducible apply tl_id); first | (with_reducible apply tl_nil) | ((with_reducible apply u_q); (iterate 4 exact rfl))) | ((with_reducible apply t_id); first | (with_reducible apply t_seq) | (apply t_region; kernel_rfl) | (with_reducible apply t_block)) | with_reducible apply q_thenN)
  apply t_loopK (ι := Nat) [0, 1, 2, 3] (fun k => [(8, .int .i64 ((a + 1 + k : Nat) : Int))]) (fun k => [(g, shB (P ++ (srtS (X.take (k + 1)) ++ (X.drop (k + 1) ++ Q))), some (101, 3, cp))]) (fun k => k = 0 ∨ k + 1 ≤ X.length) (fun k => b - k) (0)
  (repeat (first | exact KeepF.nil | (apply KeepF.cons; exact rfl) | apply KeepF.skip))
  (repeat (first | exact FrSub.nil | (apply FrSub.cons; exact rfl)))
  (repeat (first | exact HpSub.refl _ | (apply HpSub.consE; (repeat (first | exact P0 | apply P1)); exact rfl) | exact HpSub.nil))
  · exact .inl rfl
  rintro k hk
  dsimp only
  by_cases hlt : k + 1 < X.length
  · obtain ⟨x, hx⟩ : ∃ x, X[k + 1]? = some x := ⟨_, List.getElem?_eq_getElem hlt⟩
    have hxs := srt_take hx
    have hsl : (srtS (X.take (k + 1))).length = k + 1 := by rw [srtS, srt_len]; simp; omega
    have hso : Srt ltS (srtS (X.take (k + 1))) := srt_srt woS _
    obtain ⟨R, hR⟩ : ∃ R, X.drop (k + 1 + 1) = R := ⟨_, rfl⟩
    have hRl : R.length = X.length - (k + 1 + 1) := by rw [← hR]; simp
    have hdr : X.drop (k + 1) = x :: R := by
      obtain ⟨h2, h3⟩ := List.getElem?_eq_some_iff.1 hx
      rw [List.drop_eq_getElem_cons h2, h3, hR]
    have e0 : P ++ (srtS (X.take (k + 1)) ++ (X.drop (k + 1) ++ Q)) = (P ++ srtS (X.take (k + 1))) ++ x :: ([] ++ (R ++ Q)) := by
      rw [hdr]; simp only [List.append_assoc, List.cons_append, List.nil_append]
    rw [e0]
    refine t_cut (ι := Unit) (fun _ => [(0, .slice (some ⟨g, 0, none⟩) n cp), (1, .int .i64 (a : Nat)), (2, .int .i64 (b : Nat)), (3, .func (.func 111) #[] #[]), (8, .int .i64 (a + 1 + k : Nat))]) (fun _ => [(g, shB ((P ++ srtS (X.take (k + 1))) ++ x :: ([] ++ (R ++ Q))), some (101, 3, cp))]) (fun _ => True) ?_ ?_
    · repeat' (first | ((with_reducible apply oq_id); first | ((with_reducible apply oq_lssT); exact rfl; exact rfl; omega) | (apply oq_fn; exact rfl; try first | exact trivial | (and_intros <;> omega))) | ((with_reducible apply tl_id); first | (with_reducible apply tl_nil) | ((with_reducible apply u_q); (iterate 4 exact rfl))) | ((with_reducible apply t_id); first | (with_reducible apply t_seq) | (apply t_region; kernel_rfl) | ((with_reducible apply t_condT); exact rfl) | (with_reducible apply t_skip)) | with_reducible apply q_thenN)
      all_goals exact ⟨rfl, (), trivial, by (repeat (first | exact FrSub.nil | (apply FrSub.cons; exact rfl))), by (repeat (first | exact HpSub.refl _ | (apply HpSub.consE; (repeat (first | exact P0 | apply P1)); exact rfl) | exact HpSub.nil))⟩
    rintro ⟨⟩ -
    refine t_cut (ι := Unit) (fun _ => [(0, .slice (some ⟨g, 0, none⟩) n cp), (1, .int .i64 (a : Nat)), (2, .int .i64 (b : Nat)), (3, .func (.func 111) #[] #[]), (8, .int .i64 (a + 1 + k : Nat))]) (fun _ => [(g, shB (P ++ (srtS (X.take (k + 1 + 1)) ++ (X.drop (k + 1 + 1) ++ Q))), some (101, 3, cp))]) (fun _ => True) ?_ ?_
    · repeat' (first | ((with_reducible apply oq_id); first | (apply oq_fn; exact rfl; try first | exact trivial | (and_intros <;> omega))) | ((with_reducible apply tl_id); first | (with_reducible apply tl_nil) | ((with_reducible apply u_q); (iterate 4 exact rfl))) | ((with_reducible apply t_id); first | (with_reducible apply t_seq) | (apply t_region; kernel_rfl) | (with_reducible apply t_block)) | with_reducible apply q_thenN)
      apply t_loopK (ι := List Sh × List Sh) [0, 1, 2, 3, 8, 12, 13, 14, 15, 16, 17] (fun z => [(9, .int .i64 ((a + z.1.length : Nat) : Int)), (8, .int .i64 ((a + 1 + k : Nat) : Int))]) (fun z => [(g, shB ((P ++ z.1) ++ x :: (z.2 ++ (R ++ Q))), some (101, 3, cp))]) (fun z => z.1 ++ z.2 = srtS (X.take (k + 1)) ∧ ∀ y ∈ z.2, ltS x y = true) (fun z => z.1.length) ((srtS (X.take (k + 1)), []))
      (repeat (first | exact KeepF.nil | (apply KeepF.cons; exact rfl) | apply KeepF.skip))
      (repeat (first | exact FrSub.nil | (apply FrSub.cons; exact rfl) | (apply FrSub.consE; exact rfl; (simp only [hsl]; congr 2; omega))))
      (repeat (first | exact HpSub.refl _ | (apply HpSub.consE; (repeat (first | exact P0 | apply P1)); exact rfl) | exact HpSub.nil))
      · exact ⟨List.append_nil _, fun y hy => by cases hy⟩
      rintro ⟨S1, S2⟩ ⟨hs, hgt⟩
      simp only at hs hgt
      dsimp only
      have hl12 : S1.length + S2.length = k + 1 := by rw [← hsl, ← hs, List.length_append]
      rw [← hs] at hso
      by_cases h0 : S1 = []
      · subst h0
        have he : P ++ (srtS (X.take (k + 1 + 1)) ++ (X.drop (k + 1 + 1) ++ Q)) = (P ++ []) ++ x :: (S2 ++ (R ++ Q)) := by
          rw [hxs, ← hs, ins_done woS hso (.inl rfl) hgt, hR]
          simp only [List.append_assoc, List.cons_append, List.nil_append, List.append_nil]
        simp only [List.length_nil, Nat.add_zero]
        repeat' (first | ((with_reducible apply oq_id); first | ((with_reducible apply oq_gtrF); exact rfl; exact rfl; omega) | (apply oq_fn; exact rfl; try first | exact trivial | (and_intros <;> omega))) | ((with_reducible apply gx_id); first | (with_reducible apply v_nil) | ((with_reducible apply v_q); (iterate 3 exact rfl)) | ((with_reducible apply v_skip); (iterate 3 exact rfl))) | ((with_reducible apply t_id); first | (with_reducible apply t_seq) | (apply t_drawn; kernel_rfl; decide +kernel; try simp only [List.append_eq, List.cons_append, List.nil_append]) | ((with_reducible apply t_condF); exact rfl) | (with_reducible apply t_exit)) | with_reducible apply q_thenN | with_reducible apply q_blockN | with_reducible apply q_thenE | ((with_reducible apply q_blockE); exact rfl))
        all_goals exact ⟨rfl, (), trivial, by (repeat (first | exact FrSub.nil | (apply FrSub.cons; exact rfl))), by (rw [he]; (repeat (first | exact HpSub.refl _ | (apply HpSub.consE; (repeat (first | exact P0 | apply P1)); exact rfl) | exact HpSub.nil)))⟩
      · obtain ⟨S, z, rfl⟩ := split_last h0
        simp only [List.length_append, List.length_cons, List.length_nil, Nat.zero_add] at hl12 ⊢
        have hst := ins_step (P := P) (S := S) (S2 := S2) (Q := R ++ Q) (z := z) (x := x)
        rw [ha] at hst
        have hdx : ((P ++ (S ++ [z])) ++ x :: (S2 ++ (R ++ Q)))[a + (S.length + 1)]? = some x := get_at (by simp; omega)
        have hdz : ((P ++ (S ++ [z])) ++ x :: (S2 ++ (R ++ Q)))[a + S.length]? = some z := by
          rw [show (P ++ (S ++ [z])) ++ x :: (S2 ++ (R ++ Q)) = (P ++ S) ++ z :: (x :: (S2 ++ (R ++ Q))) by simp only [List.append_assoc, List.cons_append, List.nil_append]]
          exact get_at (by simp; omega)
        obtain ⟨D, hD⟩ : ∃ D, (P ++ (S ++ [z])) ++ x :: (S2 ++ (R ++ Q)) = D := ⟨_, rfl⟩
        rw [hD] at hdx hdz hst ⊢
        have hdx2 : (D.set (a + S.length + 1) z)[a + S.length]? = some z := by rw [List.getElem?_set_ne (by omega)]; exact hdz
        rw [show a + (S.length + 1) = a + S.length + 1 by omega] at hdx ⊢
        obtain ⟨q0, q1, q2⟩ := sh_at hdx
        obtain ⟨r0, r1, r2⟩ := sh_at hdz
        have HC := fun w1 => byPerson_calls x.who x.fr x.to z.who z.fr z.to w1
        obtain ⟨o, ho⟩ : ∃ o, byP x.who x.fr z.who z.fr = o := ⟨_, rfl⟩
        rw [ho] at HC
        cases hc : ltS x z with
        | true =>
          have HN : o < 0 := by rw [← ho]; exact byP_neg.2 hc
          repeat' (first | ((with_reducible apply oq_id); first | ((with_reducible apply oq_subE (k := ((a + S.length : Nat) : Int))); exact rfl; exact rfl; omega) | (focus ((with_reducible apply oq_indexAddrN); (iterate 4 exact rfl); omega)) | ((with_reducible apply oq_gtrT); exact rfl; exact rfl; omega) | ((with_reducible apply oq_lssT); exact rfl; exact rfl; omega) | (apply oq_fn; exact rfl; try first | exact trivial | (and_intros <;> omega)) | ((with_reducible apply oq_loadAgg); exact rfl; exact rfl) | ((with_reducible apply oq_call (k := 111) (hc := Try.call111)); exact rfl; exact rfl; exact fun D w1 hw1 => HC w1)) | ((with_reducible apply tl_id); first | (with_reducible apply tl_nil) | ((with_reducible apply u_q); (iterate 4 exact rfl))) | ((with_reducible apply gx_id); first | (with_reducible apply v_nil) | ((with_reducible apply v_q); (iterate 3 exact rfl))) | ((with_reducible apply os_id); first | ((with_reducible apply (os_storeSh z hdx rfl)); (iterate 3 exact rfl); (repeat (first | exact P0 | apply P1))) | ((with_reducible apply (os_storeSh x hdx2 hst)); (iterate 3 exact rfl); (repeat (first | exact P0 | apply P1)))) | ((with_reducible apply ai_id); first | ((with_reducible apply ai_q); (iterate 5 exact rfl)) | ((with_reducible apply ai_n0); (iterate 3 exact rfl))) | ((with_reducible apply al_keep); focus (repeat (first | exact HpSub.refl _ | (apply HpSub.cons; (repeat (first | exact P0 | apply P1))) | apply HpSub.skipX | exact HpSub.nil))) | ((with_reducible apply rd_id); first | (apply Rd.own; (repeat (first | exact P0 | apply P1)); with_reducible (first | exact q0 | exact q1 | exact q2 | exact r0 | exact r1 | exact r2); done)) | ((with_reducible apply t_id); first | (apply t_mixZ (id := 6) [0, 1, 2, 3, 4, 5, 6, 7, 8, 10, 11, 12] 6; kernel_rfl; kernel_rfl; exact rfl) | (with_reducible apply t_seq) | (apply t_region; kernel_rfl) | (apply t_drawn; kernel_rfl; decide +kernel; try simp only [List.append_eq, List.cons_append, List.nil_append]) | ((with_reducible apply t_condT); exact rfl) | (with_reducible apply t_skip) | (with_reducible apply t_block)) | with_reducible apply q_thenN | with_reducible apply q_blockN | exact Rdn.zero | apply Rdn.succ | ((with_reducible apply al_id); first | (apply al_done; decide +kernel) | (apply al_one 9; decide +kernel) | (apply al_one 13; decide +kernel) | (apply al_one 14; decide +kernel) | (apply al_one 15; decide +kernel) | (apply al_one 16; decide +kernel) | (apply al_one 17; decide +kernel) | (apply al_two 9 13; decide +kernel)))
          all_goals (refine ⟨(S, z :: S2), ⟨(by rw [← hs]; simp only [List.append_assoc, List.cons_append, List.nil_append]), fun y hy => ?_⟩, (by simp only [List.length_append, List.length_cons, List.length_nil]; omega), ?_, ?_⟩)
          all_goals first
            | ((try simp only [List.cons_append, List.nil_append]); (repeat (first | exact FrSub.nil | (apply FrSub.cons; exact rfl))); done)
            | ((try simp only [List.cons_append, List.nil_append]); (repeat (first | exact HpSub.refl _ | (apply HpSub.consE; (repeat (first | exact P0 | apply P1)); exact rfl) | exact HpSub.nil)); done)
            | (rcases List.mem_cons.1 hy with rfl | hy; exact hc; exact hgt y hy)
        | false =>
          have he : P ++ (srtS (X.take (k + 1 + 1)) ++ (X.drop (k + 1 + 1) ++ Q)) = (P ++ (S ++ [z])) ++ x :: (S2 ++ (R ++ Q)) := by
            rw [hxs, ← hs, ins_done woS hso (.inr ⟨S, z, rfl, hc⟩) hgt, hR]
            simp only [List.append_assoc, List.cons_append, List.nil_append]
          have HN : ¬ o < 0 := by rw [← ho]; intro h; rw [byP_neg, hc] at h; cases h
          repeat' (first | ((with_reducible apply oq_id); first | ((with_reducible apply oq_subE (k := ((a + S.length : Nat) : Int))); exact rfl; exact rfl; omega) | (focus ((with_reducible apply oq_indexAddrN); (iterate 4 exact rfl); omega)) | ((with_reducible apply oq_gtrT); exact rfl; exact rfl; omega) | ((with_reducible apply oq_lssF); exact rfl; exact rfl; omega) | (apply oq_fn; exact rfl; try first | exact trivial | (and_intros <;> omega)) | ((with_reducible apply oq_loadAgg); exact rfl; exact rfl) | ((with_reducible apply oq_call (k := 111) (hc := Try.call111)); exact rfl; exact rfl; exact fun D w1 hw1 => HC w1)) | ((with_reducible apply gx_id); first | (with_reducible apply v_nil) | ((with_reducible apply v_q); (iterate 3 exact rfl))) | ((with_reducible apply rd_id); first | (apply Rd.own; (repeat (first | exact P0 | apply P1)); with_reducible (first | exact q0 | exact q1 | exact q2 | exact r0 | exact r1 | exact r2); done)) | ((with_reducible apply t_id); first | (with_reducible apply t_seq) | (apply t_drawn; kernel_rfl; decide +kernel; try simp only [List.append_eq, List.cons_append, List.nil_append]) | ((with_reducible apply t_condF); exact rfl) | (with_reducible apply t_exit)) | with_reducible apply q_thenN | with_reducible apply q_blockN | with_reducible apply q_thenE | ((with_reducible apply q_blockE); exact rfl) | exact Rdn.zero | apply Rdn.succ)
          all_goals exact ⟨rfl, (), trivial, by (repeat (first | exact FrSub.nil | (apply FrSub.cons; exact rfl))), by (rw [he, hD]; (repeat (first | exact HpSub.refl _ | (apply HpSub.consE; (repeat (first | exact P0 | apply P1)); exact rfl) | exact HpSub.nil)))⟩
    · rintro ⟨⟩ -
      repeat' (first | ((with_reducible apply oq_id); first | ((with_reducible apply oq_addE (k := ((a + 1 + (k + 1) : Nat) : Int))); exact rfl; exact rfl; omega) | (apply oq_fn; exact rfl; try first | exact trivial | (and_intros <;> omega))) | ((with_reducible apply tl_id); first | (with_reducible apply tl_nil) | ((with_reducible apply u_q); (iterate 4 exact rfl))) | ((with_reducible apply t_id); first | (apply t_region; kernel_rfl)) | with_reducible apply q_thenN)
      all_goals (refine ⟨(k + 1), (by omega), (by omega), ?_, ?_⟩ <;> (try simp only [List.cons_append, List.nil_append]) <;> (repeat' (first | exact FrSub.nil | (apply FrSub.cons; exact rfl) | exact HpSub.refl _)))
  · have hkx : srtS (X.take (k + 1)) ++ (X.drop (k + 1) ++ Q) = srtS X ++ Q := by
      rw [List.take_of_length_le (by omega), List.drop_of_length_le (by omega)]; rfl
    rw [hkx]
    repeat' (first | ((with_reducible apply oq_id); first | ((with_reducible apply oq_lssF); exact rfl; exact rfl; omega) | (apply oq_fn; exact rfl; try first | exact trivial | (and_intros <;> omega))) | ((with_reducible apply tl_id); first | (with_reducible apply tl_nil) | ((with_reducible apply u_q); (iterate 4 exact rfl))) | ((with_reducible apply t_id); first | (with_reducible apply t_seq) | (apply t_region; kernel_rfl) | ((with_reducible apply t_condF); exact rfl) | (with_reducible apply t_exit)) | with_reducible apply q_thenN | with_reducible apply q_thenE | ((with_reducible apply q_blockE); exact rfl) | (with_reducible apply end_normal) | exact rvs_nil)
    all_goals exact ⟨rfl, by (repeat (first | exact HpSub.refl _ | (apply HpSub.consE; (repeat (first | exact P0 | apply P1)); exact rfl) | exact HpSub.nil))⟩
end Go.Proofs.Ytmlmgipngbndgaa
namespace Go.Proofs.Ytmlmgipngbndgaa
section
variable {α : Type} {lt : α → α → Bool}
theorem get_seg {P U R : List α} {a q : Nat} {x : α} (ha : P.length = a) (h : U[q]? = some x) : (P ++ (U ++ R))[a + q]? = some x := by
  subst ha
  have := (List.getElem?_eq_some_iff.1 h).1
  rw [List.getElem?_append_right (by omega), show P.length + q - P.length = q by omega, List.getElem?_append_left this, h]
theorem get_seg2 {P U V R : List α} {m q : Nat} {x : α} (ha : P.length + U.length = m) (h : V[q]? = some x) : (P ++ (U ++ (V ++ R)))[m + q]? = some x := by
  rw [← List.append_assoc]
  exact get_seg (by simp; omega) h
theorem srt_le (hw : Wo lt) {V : List α} (hV : Srt lt V) {i j : Nat} {x y : α} (hij : i ≤ j) (hx : V[i]? = some x) (hy : V[j]? = some y) : lt y x = false := by
  obtain ⟨h1, rfl⟩ := List.getElem?_eq_some_iff.1 hx
  obtain ⟨h2, rfl⟩ := List.getElem?_eq_some_iff.1 hy
  by_cases h : i = j
  · subst h; exact hw.irr _
  · exact List.pairwise_iff_getElem.1 hV i j h1 h2 (by omega)
theorem mrg_one (hw : Wo lt) {V : List α} {x : α} {i : Nat} (hV : Srt lt V) (h1 : i = 0 ∨ ∃ y, V[i - 1]? = some y ∧ lt y x = true) (h2 : i = V.length ∨ ∃ y, V[i]? = some y ∧ lt y x = false) : mrg lt [x] V = V.take i ++ x :: V.drop i := by
  have a1 : ∀ y ∈ V.take i, lt y x = true := fun y hy => by
    obtain ⟨k, hk, rfl⟩ := List.getElem_of_mem hy
    rw [List.getElem_take]
    simp only [List.length_take] at hk
    rcases h1 with h1 | ⟨z, hz, hzx⟩
    · omega
    · have := srt_le hw hV (show k ≤ i - 1 by omega) (List.getElem?_eq_getElem (by omega)) hz
      cases hc : lt V[k] x with
      | true => rfl
      | false =>
        have := hw.tr _ _ _ hc this
        rw [hzx] at this; cases this
  have a2 : ∀ y ∈ V.drop i, lt y x = false := fun y hy => by
    obtain ⟨k, hk, rfl⟩ := List.getElem_of_mem hy
    rw [List.getElem_drop]
    simp only [List.length_drop] at hk
    rcases h2 with h2 | ⟨z, hz, hzx⟩
    · omega
    · exact hw.tr _ _ _ hzx (srt_le hw hV (show i ≤ i + k by omega) hz (List.getElem?_eq_getElem (by omega)))
  have key := mrg_split (lt := lt) [] (V.take i) [x] (V.drop i) (by simp) (fun y hy z hz => by rw [List.mem_singleton.1 hz]; exact a1 y hy)
  have h3 : mrg lt [x] (V.drop i) = [x] ++ V.drop i := mrg_app (fun y hy z hz => by rw [List.mem_singleton.1 hy]; exact a2 z hz)
  rw [List.nil_append, List.take_append_drop, mrg_nil, h3] at key
  exact key
theorem mrg_last (hw : Wo lt) {U : List α} {y : α} {i : Nat} (hi : i ≤ U.length) (hU : Srt lt U) (h1 : i = 0 ∨ ∃ x, U[i - 1]? = some x ∧ lt y x = false) (h2 : i = U.length ∨ ∃ x, U[i]? = some x ∧ lt y x = true) : mrg lt U [y] = U.take i ++ y :: U.drop i := by
  have key := ins_done hw (S1 := U.take i) (S2 := U.drop i) (x := y) (by rw [List.take_append_drop]; exact hU) ?_ ?_
  · rw [List.take_append_drop] at key
    exact key
  · rcases h1 with rfl | ⟨x, hx, hyx⟩
    · exact .inl rfl
    · by_cases h0 : i = 0
      · subst h0; exact .inl rfl
      · right
        refine ⟨U.take (i - 1), x, ?_, hyx⟩
        have := List.take_add_one (l := U) (i := i - 1)
        rw [hx, show i - 1 + 1 = i by omega] at this
        exact this
  · intro z hz
    obtain ⟨k, hk, rfl⟩ := List.getElem_of_mem hz
    rw [List.getElem_drop]
    simp only [List.length_drop] at hk
    rcases h2 with h2 | ⟨x, hx, hyx⟩
    · omega
    · have := srt_le hw hU (show i ≤ i + k by omega) hx (List.getElem?_eq_getElem (by omega))
      cases hc : lt y U[i + k] with
      | true => rfl
      | false =>
        have := hw.tr _ _ _ this hc
        rw [hyx] at this; cases this
/-- x moves on by one place. -/
theorem mov_step {P V Q : List α} {k : Nat} {x y : α} (hy : V[k]? = some y) : (P ++ (V.take k ++ x :: (V.drop k ++ Q)))[P.length + k]? = some x ∧ (P ++ (V.take k ++ x :: (V.drop k ++ Q)))[P.length + k + 1]? = some y ∧
    ((P ++ (V.take k ++ x :: (V.drop k ++ Q))).set (P.length + k) y).set (P.length + k + 1) x = P ++ (V.take (k + 1) ++ x :: (V.drop (k + 1) ++ Q)) := by
  obtain ⟨hk, he⟩ := List.getElem?_eq_some_iff.1 hy
  have e1 : V.drop k = y :: V.drop (k + 1) := by rw [List.drop_eq_getElem_cons hk, he]
  have e2 : V.take (k + 1) = V.take k ++ [y] := by rw [List.take_add_one, hy]; rfl
  have l1 : (P ++ V.take k).length = P.length + k := by simp; omega
  have e : P ++ (V.take k ++ x :: (V.drop k ++ Q)) = (P ++ V.take k) ++ x :: ([] ++ y :: (V.drop (k + 1) ++ Q)) := by rw [e1]; simp only [List.append_assoc, List.cons_append, List.nil_append]
  refine ⟨?_, ?_, ?_⟩
  · rw [e]; exact get_at l1
  · rw [e]; exact get_at2 (by rw [l1]; simp)
  · have h := swp_at (P := P ++ V.take k) (M := []) (Q := V.drop (k + 1) ++ Q) (x := x) (y := y)
    rw [l1] at h
    simp only [List.length_nil, Nat.add_zero] at h
    rw [e, h, e2]
    simp only [List.append_assoc, List.cons_append, List.nil_append]
/-- y moves back by one place. -/
theorem mov_back {P U Q : List α} {k : Nat} {x y : α} (hx : U[k]? = some x) : (P ++ (U.take (k + 1) ++ y :: (U.drop (k + 1) ++ Q)))[P.length + k + 1]? = some y ∧ (P ++ (U.take (k + 1) ++ y :: (U.drop (k + 1) ++ Q)))[P.length + k]? = some x ∧
    ((P ++ (U.take (k + 1) ++ y :: (U.drop (k + 1) ++ Q))).set (P.length + k + 1) x).set (P.length + k) y = P ++ (U.take k ++ y :: (U.drop k ++ Q)) := by
  obtain ⟨hk, he⟩ := List.getElem?_eq_some_iff.1 hx
  have e1 : U.drop k = x :: U.drop (k + 1) := by rw [List.drop_eq_getElem_cons hk, he]
  have e2 : U.take (k + 1) = U.take k ++ [x] := by rw [List.take_add_one, hx]; rfl
  have l1 : (P ++ U.take k).length = P.length + k := by simp; omega
  have e : P ++ (U.take (k + 1) ++ y :: (U.drop (k + 1) ++ Q)) = (P ++ U.take k) ++ x :: ([] ++ y :: (U.drop (k + 1) ++ Q)) := by rw [e2]; simp only [List.append_assoc, List.cons_append, List.nil_append]
  refine ⟨?_, ?_, ?_⟩
  · rw [e]; exact get_at2 (by rw [l1]; simp)
  · rw [e]; exact get_at l1
  · have h := swp_at (P := P ++ U.take k) (M := []) (Q := U.drop (k + 1) ++ Q) (x := x) (y := y)
    rw [l1] at h
    simp only [List.length_nil, Nat.add_zero] at h
    rw [e, List.set_comm _ _ (by omega), h, e1]
    simp only [List.append_assoc, List.cons_append, List.nil_append]
end
end Go.Proofs.Ytmlmgipngbndgaa
