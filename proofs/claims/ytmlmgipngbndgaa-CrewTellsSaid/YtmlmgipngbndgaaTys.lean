/- What is known of the types. -/
import Derived.Test.YtmlmgipngbndgaaSl4
import Derived.Test.YtmlmgipngbndgaaChecked
namespace Go.Proofs.Ytmlmgipngbndgaa
open Go.RowKit

def FOk (P : Program) : List Field → List (Nat × Nat × Bool) → Prop
  | [], [] => True
  | d :: ds, (off, n, g) :: fs => d.offset = off ∧ (∀ w, (sizeOf d.type).run P w = .ok n w) ∧ (∀ w, (isAgg d.type).run P w = .ok g w) ∧ FOk P ds fs
  | _, _ => False
theorem FOk.len {P : Program} {ds : Array Field} {fs : List (Nat × Nat × Bool)} (h : FOk P ds.toList fs) : ds.size = fs.length := by
  have : ∀ (l : List Field) (fs : List (Nat × Nat × Bool)), FOk P l fs → l.length = fs.length := by
    intro l
    induction l with
    | nil => intro fs h; cases fs with | nil => rfl | cons a b => exact h.elim
    | cons d l ih => intro fs h; cases fs with | nil => exact h.elim | cons a b => obtain ⟨x, y, z⟩ := a; simp [ih b h.2.2.2]
  simpa using this _ _ h
theorem FOk.at_ {P : Program} : ∀ {ds : List Field} {fs : List (Nat × Nat × Bool)}, FOk P ds fs → ∀ (f off n : Nat) (g : Bool), fs[f]? = some (off, n, g) →
      ∃ d : Field, ds[f]? = some d ∧ d.offset = off ∧ (∀ w, (sizeOf d.type).run P w = .ok n w) ∧ ∀ w, (isAgg d.type).run P w = .ok g w
  | [], [], _, f, off, n, g, h => by simp at h
  | [], _ :: _, h, _, _, _, _, _ => h.elim
  | _ :: _, [], h, _, _, _, _, _ => h.elim
  | d :: ds, (off', n', g') :: fs, h, 0, off, n, g, hf => by
    obtain ⟨rfl, rfl, rfl⟩ : off' = off ∧ n' = n ∧ g' = g := by simpa using hf
    exact ⟨d, rfl, h.1, h.2.1, h.2.2.1⟩
  | d :: ds, (off', n', g') :: fs, h, f + 1, off, n, g, hf => by
    obtain ⟨d', h1, h2⟩ := FOk.at_ h.2.2.2 f off n g (by simpa using hf)
    exact ⟨d', by simpa using h1, h2⟩
theorem struct_ok {P : Program} {t : Nat} {ds : Array Field} {fs : List (Nat × Nat × Bool)} (hu : ∀ w, (underlying t).run P w = .ok (.struct ds) w) (h : FOk P ds.toList fs) : KindOk P t (.struct fs) :=
  ⟨ds, hu, h.len, fun f off n g hf => by
    obtain ⟨d, h1, h2⟩ := h.at_ f off n g hf
    exact ⟨d, by simpa using h1, h2⟩⟩

theorem ty_ok3 : TyOk Try.prog 3 ⟨false, 1, [(.int .i64 0)], .int .i64⟩ := ⟨Try.isAgg3, Try.sizeOf3, fun w => ⟨_, Try.zeroValue3 w, rfl⟩, rfl, Try.runUnderlying3⟩ -- int
theorem ty_ok4 : TyOk Try.prog 4 ⟨false, 1, [(.bool false)], .other⟩ := ⟨Try.isAgg4, Try.sizeOf4, fun w => ⟨_, Try.zeroValue4 w, rfl⟩, rfl, trivial⟩ -- bool
theorem ty_ok5 : TyOk Try.prog 5 ⟨false, 1, [(.int .u8 0)], .int .u8⟩ := ⟨Try.isAgg5, Try.sizeOf5, fun w => ⟨_, Try.zeroValue5 w, rfl⟩, rfl, Try.runUnderlying5⟩ -- uint8
theorem ty_ok20 : TyOk Try.prog 20 ⟨false, 1, [.nilIface], .other⟩ := ⟨Try.isAgg20, Try.sizeOf20, fun w => ⟨_, Try.zeroValue20 w, rfl⟩, rfl, trivial⟩ -- interface {}
theorem ty_ok22 : TyOk Try.prog 22 ⟨false, 1, [(.slice none 0 0)], .slice 106⟩ := ⟨Try.isAgg22, Try.sizeOf22, fun w => ⟨_, Try.zeroValue22 w, rfl⟩, rfl, Try.runUnderlying22⟩ -- []api.Departure
theorem ty_ok23 : TyOk Try.prog 23 ⟨false, 1, [(.slice none 0 0)], .slice 71⟩ := ⟨Try.isAgg23, Try.sizeOf23, fun w => ⟨_, Try.zeroValue23 w, rfl⟩, rfl, Try.runUnderlying23⟩ -- []api.Booking
theorem ty_ok25 : TyOk Try.prog 25 ⟨true, 7, [.int .i64 0, .int .i64 0, .int .i64 0, .slice none 0 0, .slice none 0 0, .int .i64 0, .int .i64 0], .struct [(0, 1, false), (1, 1, false), (2, 1, false), (3, 1, false), (4, 1, false), (5, 1, false), (6, 1, false)]⟩ := ⟨Try.isAgg25, Try.sizeOf25, fun w => ⟨_, Try.zeroValue25 w, rfl⟩, rfl, struct_ok Try.runUnderlying25 ⟨rfl, Try.sizeOf3, Try.isAgg3, ⟨rfl, Try.sizeOf3, Try.isAgg3, ⟨rfl, Try.sizeOf3, Try.isAgg3, ⟨rfl, Try.sizeOf22, Try.isAgg22, ⟨rfl, Try.sizeOf23, Try.isAgg23, ⟨rfl, Try.sizeOf3, Try.isAgg3, ⟨rfl, Try.sizeOf3, Try.isAgg3, trivial⟩⟩⟩⟩⟩⟩⟩⟩ -- api.Office
theorem ty_ok27 : TyOk Try.prog 27 ⟨false, 1, [(.int .i64 0)], .int .i64⟩ := ⟨Try.isAgg27, Try.sizeOf27, fun w => ⟨_, Try.zeroValue27 w, rfl⟩, rfl, Try.runUnderlying27⟩ -- api.Errno
theorem ty_ok40 : TyOk Try.prog 40 ⟨true, 3, [.int .i64 0, .int .i64 0, .int .i64 0], .struct [(0, 1, false), (1, 1, false), (2, 1, false)]⟩ := ⟨Try.isAgg40, Try.sizeOf40, fun w => ⟨_, Try.zeroValue40 w, rfl⟩, rfl, struct_ok Try.runUnderlying40 ⟨rfl, Try.sizeOf3, Try.isAgg3, ⟨rfl, Try.sizeOf3, Try.isAgg3, ⟨rfl, Try.sizeOf3, Try.isAgg3, trivial⟩⟩⟩⟩ -- api.Care
theorem ty_ok41 : TyOk Try.prog 41 ⟨false, 1, [(.slice none 0 0)], .slice 3⟩ := ⟨Try.isAgg41, Try.sizeOf41, fun w => ⟨_, Try.zeroValue41 w, rfl⟩, rfl, Try.runUnderlying41⟩ -- []int
theorem ty_ok54 : TyOk Try.prog 54 ⟨false, 1, [(.slice none 0 0)], .slice 63⟩ := ⟨Try.isAgg54, Try.sizeOf54, fun w => ⟨_, Try.zeroValue54 w, rfl⟩, rfl, Try.runUnderlying54⟩ -- []api.Deal
theorem ty_ok63 : TyOk Try.prog 63 ⟨true, 5, [.int .u8 0, .int .i64 0, .int .i64 0, .int .i64 0, .int .i64 0], .struct [(0, 1, false), (1, 1, false), (2, 1, false), (3, 1, false), (4, 1, false)]⟩ := ⟨Try.isAgg63, Try.sizeOf63, fun w => ⟨_, Try.zeroValue63 w, rfl⟩, rfl, struct_ok Try.runUnderlying63 ⟨rfl, Try.sizeOf5, Try.isAgg5, ⟨rfl, Try.sizeOf3, Try.isAgg3, ⟨rfl, Try.sizeOf3, Try.isAgg3, ⟨rfl, Try.sizeOf3, Try.isAgg3, ⟨rfl, Try.sizeOf3, Try.isAgg3, trivial⟩⟩⟩⟩⟩⟩ -- api.Deal
theorem ty_ok71 : TyOk Try.prog 71 ⟨true, 3, [.int .i64 0, .int .u8 0, .int .i64 0], .struct [(0, 1, false), (1, 1, false), (2, 1, false)]⟩ := ⟨Try.isAgg71, Try.sizeOf71, fun w => ⟨_, Try.zeroValue71 w, rfl⟩, rfl, struct_ok Try.runUnderlying71 ⟨rfl, Try.sizeOf3, Try.isAgg3, ⟨rfl, Try.sizeOf5, Try.isAgg5, ⟨rfl, Try.sizeOf3, Try.isAgg3, trivial⟩⟩⟩⟩ -- api.Booking
theorem ty_ok74 : TyOk Try.prog 74 ⟨true, 4, [.int .i64 0, .int .i64 0, .int .i64 0, .int .i64 0], .struct [(0, 1, false), (1, 1, false), (2, 1, false), (3, 1, false)]⟩ := ⟨Try.isAgg74, Try.sizeOf74, fun w => ⟨_, Try.zeroValue74 w, rfl⟩, rfl, struct_ok Try.runUnderlying74 ⟨rfl, Try.sizeOf3, Try.isAgg3, ⟨rfl, Try.sizeOf3, Try.isAgg3, ⟨rfl, Try.sizeOf3, Try.isAgg3, ⟨rfl, Try.sizeOf3, Try.isAgg3, trivial⟩⟩⟩⟩⟩ -- api.Duty
theorem ty_ok75 : TyOk Try.prog 75 ⟨false, 1, [(.slice none 0 0)], .slice 101⟩ := ⟨Try.isAgg75, Try.sizeOf75, fun w => ⟨_, Try.zeroValue75 w, rfl⟩, rfl, Try.runUnderlying75⟩ -- []api.Shift
theorem ty_ok77 : TyOk Try.prog 77 ⟨false, 1, [(.slice none 0 0)], .slice 99⟩ := ⟨Try.isAgg77, Try.sizeOf77, fun w => ⟨_, Try.zeroValue77 w, rfl⟩, rfl, Try.runUnderlying77⟩ -- []api.Tired
theorem ty_ok89 : TyOk Try.prog 89 ⟨false, 1, [(.slice none 0 0)], .slice 114⟩ := ⟨Try.isAgg89, Try.sizeOf89, fun w => ⟨_, Try.zeroValue89 w, rfl⟩, rfl, Try.runUnderlying89⟩ -- []api.Trip
theorem ty_ok90 : TyOk Try.prog 90 ⟨false, 1, [(.slice none 0 0)], .slice 41⟩ := ⟨Try.isAgg90, Try.sizeOf90, fun w => ⟨_, Try.zeroValue90 w, rfl⟩, rfl, Try.runUnderlying90⟩ -- [][]int
theorem ty_ok99 : TyOk Try.prog 99 ⟨true, 3, [.int .i64 0, .int .i64 0, .int .i64 0], .struct [(0, 1, false), (1, 1, false), (2, 1, false)]⟩ := ⟨Try.isAgg99, Try.sizeOf99, fun w => ⟨_, Try.zeroValue99 w, rfl⟩, rfl, struct_ok Try.runUnderlying99 ⟨rfl, Try.sizeOf3, Try.isAgg3, ⟨rfl, Try.sizeOf3, Try.isAgg3, ⟨rfl, Try.sizeOf3, Try.isAgg3, trivial⟩⟩⟩⟩ -- api.Tired
theorem ty_ok101 : TyOk Try.prog 101 ⟨true, 3, [.int .i64 0, .int .i64 0, .int .i64 0], .struct [(0, 1, false), (1, 1, false), (2, 1, false)]⟩ := ⟨Try.isAgg101, Try.sizeOf101, fun w => ⟨_, Try.zeroValue101 w, rfl⟩, rfl, struct_ok Try.runUnderlying101 ⟨rfl, Try.sizeOf3, Try.isAgg3, ⟨rfl, Try.sizeOf3, Try.isAgg3, ⟨rfl, Try.sizeOf3, Try.isAgg3, trivial⟩⟩⟩⟩ -- api.Shift
theorem ty_ok106 : TyOk Try.prog 106 ⟨true, 4, [.int .i64 0, .int .i64 0, .int .i64 0, .int .u8 0], .struct [(0, 1, false), (1, 1, false), (2, 1, false), (3, 1, false)]⟩ := ⟨Try.isAgg106, Try.sizeOf106, fun w => ⟨_, Try.zeroValue106 w, rfl⟩, rfl, struct_ok Try.runUnderlying106 ⟨rfl, Try.sizeOf3, Try.isAgg3, ⟨rfl, Try.sizeOf3, Try.isAgg3, ⟨rfl, Try.sizeOf3, Try.isAgg3, ⟨rfl, Try.sizeOf5, Try.isAgg5, trivial⟩⟩⟩⟩⟩ -- api.Departure
theorem ty_ok109 : TyOk Try.prog 109 ⟨false, 1, [(.slice none 0 0)], .slice 5⟩ := ⟨Try.isAgg109, Try.sizeOf109, fun w => ⟨_, Try.zeroValue109 w, rfl⟩, rfl, Try.runUnderlying109⟩ -- []uint8
theorem ty_ok114 : TyOk Try.prog 114 ⟨true, 3, [.int .i64 0, .int .i64 0, .int .i64 0], .struct [(0, 1, false), (1, 1, false), (2, 1, false)]⟩ := ⟨Try.isAgg114, Try.sizeOf114, fun w => ⟨_, Try.zeroValue114 w, rfl⟩, rfl, struct_ok Try.runUnderlying114 ⟨rfl, Try.sizeOf3, Try.isAgg3, ⟨rfl, Try.sizeOf3, Try.isAgg3, ⟨rfl, Try.sizeOf3, Try.isAgg3, trivial⟩⟩⟩⟩ -- api.Trip
theorem ty_ok121 : TyOk Try.prog 121 ⟨false, 1, [(.pointer none)], .ptr 135⟩ := ⟨Try.isAgg121, Try.sizeOf121, fun w => ⟨_, Try.zeroValue121 w, rfl⟩, rfl, Try.runUnderlying121⟩ -- *crew.desk
theorem ty_ok129 : TyOk Try.prog 129 ⟨true, 4, [.int .i64 0, .int .i64 0, .int .i64 0, .int .i64 0], .struct [(0, 1, false), (1, 1, false), (2, 1, false), (3, 1, false)]⟩ := ⟨Try.isAgg129, Try.sizeOf129, fun w => ⟨_, Try.zeroValue129 w, rfl⟩, rfl, struct_ok Try.runUnderlying129 ⟨rfl, Try.sizeOf3, Try.isAgg3, ⟨rfl, Try.sizeOf3, Try.isAgg3, ⟨rfl, Try.sizeOf3, Try.isAgg3, ⟨rfl, Try.sizeOf3, Try.isAgg3, trivial⟩⟩⟩⟩⟩ -- crew.purse
theorem ty_ok133 : TyOk Try.prog 133 ⟨false, 1, [(.pointer none)], .ptr 71⟩ := ⟨Try.isAgg133, Try.sizeOf133, fun w => ⟨_, Try.zeroValue133 w, rfl⟩, rfl, Try.runUnderlying133⟩ -- *api.Booking
theorem ty_ok135 : TyOk Try.prog 135 ⟨true, 7, [.int .i64 0, .int .i64 0, .int .i64 0, .slice none 0 0, .slice none 0 0, .int .i64 0, .int .i64 0], .struct [(0, 7, true)]⟩ := ⟨Try.isAgg135, Try.sizeOf135, fun w => ⟨_, Try.zeroValue135 w, rfl⟩, rfl, struct_ok Try.runUnderlying135 ⟨rfl, Try.sizeOf25, Try.isAgg25, trivial⟩⟩ -- crew.desk
theorem ty_ok145 : TyOk Try.prog 145 ⟨false, 1, [.nilFunc], .other⟩ := ⟨Try.isAgg145, Try.sizeOf145, fun w => ⟨_, Try.zeroValue145 w, rfl⟩, rfl, trivial⟩ -- func(int) bool
theorem ty_ok150 : TyOk Try.prog 150 ⟨false, 1, [.nilFunc], .other⟩ := ⟨Try.isAgg150, Try.sizeOf150, fun w => ⟨_, Try.zeroValue150 w, rfl⟩, rfl, trivial⟩ -- func(api.Trip) bool
theorem ty_ok152 : TyOk Try.prog 152 ⟨false, 1, [.nilFunc], .other⟩ := ⟨Try.isAgg152, Try.sizeOf152, fun w => ⟨_, Try.zeroValue152 w, rfl⟩, rfl, trivial⟩ -- func(int, int, []api.Shift) bool
theorem ty_ok165 : TyOk Try.prog 165 ⟨false, 1, [(.int .u64 0)], .int .u64⟩ := ⟨Try.isAgg165, Try.sizeOf165, fun w => ⟨_, Try.zeroValue165 w, rfl⟩, rfl, Try.runUnderlying165⟩ -- uint
theorem ty_ok169 : TyOk Try.prog 169 ⟨true, 1, [.int .i64 0], .struct [(0, 1, false)]⟩ := ⟨Try.isAgg169, Try.sizeOf169, fun w => ⟨_, Try.zeroValue169 w, rfl⟩, rfl, struct_ok Try.runUnderlying169 ⟨rfl, Try.sizeOf27, Try.isAgg27, trivial⟩⟩ -- crew.refusal
theorem ty_ok171 : TyOk Try.prog 171 ⟨false, 1, [.nilFunc], .other⟩ := ⟨Try.isAgg171, Try.sizeOf171, fun w => ⟨_, Try.zeroValue171 w, rfl⟩, rfl, trivial⟩ -- func(*crew.desk, api.Deal)
theorem ty_ok172 : TyOk Try.prog 172 ⟨true, 8, [.nilFunc, .nilFunc, .nilFunc, .nilFunc, .nilFunc, .nilFunc, .nilFunc, .nilFunc], .array 8 171⟩ := ⟨Try.isAgg172, Try.sizeOf172, fun w => ⟨_, Try.zeroValue172 w, rfl⟩, rfl, Try.runUnderlying172⟩ -- [8]func(*crew.desk, api.Deal)
theorem ty_ok178 : TyOk Try.prog 178 ⟨false, 1, [(.slice none 0 0)], .slice 27⟩ := ⟨Try.isAgg178, Try.sizeOf178, fun w => ⟨_, Try.zeroValue178 w, rfl⟩, rfl, Try.runUnderlying178⟩ -- []api.Errno
theorem ty_ok180 : TyOk Try.prog 180 ⟨false, 1, [.nilFunc], .other⟩ := ⟨Try.isAgg180, Try.sizeOf180, fun w => ⟨_, Try.zeroValue180 w, rfl⟩, rfl, trivial⟩ -- func(api.Shift, api.Shift) int
theorem ty_ok181 : TyOk Try.prog 181 ⟨true, 2, [.int .i64 0, .bool false], .struct [(0, 1, false), (1, 1, false)]⟩ := ⟨Try.isAgg181, Try.sizeOf181, fun w => ⟨_, Try.zeroValue181 w, rfl⟩, rfl, struct_ok Try.runUnderlying181 ⟨rfl, Try.sizeOf3, Try.isAgg3, ⟨rfl, Try.sizeOf4, Try.isAgg4, trivial⟩⟩⟩ -- struct { kind int; is bool }
theorem ty_ok182 : TyOk Try.prog 182 ⟨true, 6, [.int .i64 0, .bool false, .int .i64 0, .bool false, .int .i64 0, .bool false], .array 3 181⟩ := ⟨Try.isAgg182, Try.sizeOf182, fun w => ⟨_, Try.zeroValue182 w, rfl⟩, rfl, Try.runUnderlying182⟩ -- [3]struct { kind int; is bool }
theorem ty_ok187 : TyOk Try.prog 187 ⟨true, 3, [.slice none 0 0, .slice none 0 0, .slice none 0 0], .array 3 109⟩ := ⟨Try.isAgg187, Try.sizeOf187, fun w => ⟨_, Try.zeroValue187 w, rfl⟩, rfl, Try.runUnderlying187⟩ -- [3][]uint8
theorem ty_ok190 : TyOk Try.prog 190 ⟨false, 1, [(.int .u32 0)], .int .u32⟩ := ⟨Try.isAgg190, Try.sizeOf190, fun w => ⟨_, Try.zeroValue190 w, rfl⟩, rfl, Try.runUnderlying190⟩ -- uint32
theorem ty_ok193 : TyOk Try.prog 193 ⟨false, 1, [(.int .u64 0)], .int .u64⟩ := ⟨Try.isAgg193, Try.sizeOf193, fun w => ⟨_, Try.zeroValue193 w, rfl⟩, rfl, Try.runUnderlying193⟩ -- uint64
def tys : List (Nat × TyI) := [(3, ⟨false, 1, [(.int .i64 0)], .int .i64⟩),
  (4, ⟨false, 1, [(.bool false)], .other⟩),
  (5, ⟨false, 1, [(.int .u8 0)], .int .u8⟩),
  (20, ⟨false, 1, [.nilIface], .other⟩),
  (22, ⟨false, 1, [(.slice none 0 0)], .slice 106⟩),
  (23, ⟨false, 1, [(.slice none 0 0)], .slice 71⟩),
  (25, ⟨true, 7, [.int .i64 0, .int .i64 0, .int .i64 0, .slice none 0 0, .slice none 0 0, .int .i64 0, .int .i64 0], .struct [(0, 1, false), (1, 1, false), (2, 1, false), (3, 1, false), (4, 1, false), (5, 1, false), (6, 1, false)]⟩),
  (27, ⟨false, 1, [(.int .i64 0)], .int .i64⟩),
  (40, ⟨true, 3, [.int .i64 0, .int .i64 0, .int .i64 0], .struct [(0, 1, false), (1, 1, false), (2, 1, false)]⟩),
  (41, ⟨false, 1, [(.slice none 0 0)], .slice 3⟩),
  (54, ⟨false, 1, [(.slice none 0 0)], .slice 63⟩),
  (63, ⟨true, 5, [.int .u8 0, .int .i64 0, .int .i64 0, .int .i64 0, .int .i64 0], .struct [(0, 1, false), (1, 1, false), (2, 1, false), (3, 1, false), (4, 1, false)]⟩),
  (71, ⟨true, 3, [.int .i64 0, .int .u8 0, .int .i64 0], .struct [(0, 1, false), (1, 1, false), (2, 1, false)]⟩),
  (74, ⟨true, 4, [.int .i64 0, .int .i64 0, .int .i64 0, .int .i64 0], .struct [(0, 1, false), (1, 1, false), (2, 1, false), (3, 1, false)]⟩),
  (75, ⟨false, 1, [(.slice none 0 0)], .slice 101⟩),
  (77, ⟨false, 1, [(.slice none 0 0)], .slice 99⟩),
  (89, ⟨false, 1, [(.slice none 0 0)], .slice 114⟩),
  (90, ⟨false, 1, [(.slice none 0 0)], .slice 41⟩),
  (99, ⟨true, 3, [.int .i64 0, .int .i64 0, .int .i64 0], .struct [(0, 1, false), (1, 1, false), (2, 1, false)]⟩),
  (101, ⟨true, 3, [.int .i64 0, .int .i64 0, .int .i64 0], .struct [(0, 1, false), (1, 1, false), (2, 1, false)]⟩),
  (106, ⟨true, 4, [.int .i64 0, .int .i64 0, .int .i64 0, .int .u8 0], .struct [(0, 1, false), (1, 1, false), (2, 1, false), (3, 1, false)]⟩),
  (109, ⟨false, 1, [(.slice none 0 0)], .slice 5⟩),
  (114, ⟨true, 3, [.int .i64 0, .int .i64 0, .int .i64 0], .struct [(0, 1, false), (1, 1, false), (2, 1, false)]⟩),
  (121, ⟨false, 1, [(.pointer none)], .ptr 135⟩),
  (129, ⟨true, 4, [.int .i64 0, .int .i64 0, .int .i64 0, .int .i64 0], .struct [(0, 1, false), (1, 1, false), (2, 1, false), (3, 1, false)]⟩),
  (133, ⟨false, 1, [(.pointer none)], .ptr 71⟩),
  (135, ⟨true, 7, [.int .i64 0, .int .i64 0, .int .i64 0, .slice none 0 0, .slice none 0 0, .int .i64 0, .int .i64 0], .struct [(0, 7, true)]⟩),
  (145, ⟨false, 1, [.nilFunc], .other⟩),
  (150, ⟨false, 1, [.nilFunc], .other⟩),
  (152, ⟨false, 1, [.nilFunc], .other⟩),
  (165, ⟨false, 1, [(.int .u64 0)], .int .u64⟩),
  (169, ⟨true, 1, [.int .i64 0], .struct [(0, 1, false)]⟩),
  (171, ⟨false, 1, [.nilFunc], .other⟩),
  (172, ⟨true, 8, [.nilFunc, .nilFunc, .nilFunc, .nilFunc, .nilFunc, .nilFunc, .nilFunc, .nilFunc], .array 8 171⟩),
  (178, ⟨false, 1, [(.slice none 0 0)], .slice 27⟩),
  (180, ⟨false, 1, [.nilFunc], .other⟩),
  (181, ⟨true, 2, [.int .i64 0, .bool false], .struct [(0, 1, false), (1, 1, false)]⟩),
  (182, ⟨true, 6, [.int .i64 0, .bool false, .int .i64 0, .bool false, .int .i64 0, .bool false], .array 3 181⟩),
  (187, ⟨true, 3, [.slice none 0 0, .slice none 0 0, .slice none 0 0], .array 3 109⟩),
  (190, ⟨false, 1, [(.int .u32 0)], .int .u32⟩),
  (193, ⟨false, 1, [(.int .u64 0)], .int .u64⟩)]
theorem tys_ok : ∀ x ∈ tys, TyOk Try.prog x.1 x.2 := by
  unfold tys
  refine List.forall_mem_cons.2 ⟨ty_ok3, ?_⟩
  refine List.forall_mem_cons.2 ⟨ty_ok4, ?_⟩
  refine List.forall_mem_cons.2 ⟨ty_ok5, ?_⟩
  refine List.forall_mem_cons.2 ⟨ty_ok20, ?_⟩
  refine List.forall_mem_cons.2 ⟨ty_ok22, ?_⟩
  refine List.forall_mem_cons.2 ⟨ty_ok23, ?_⟩
  refine List.forall_mem_cons.2 ⟨ty_ok25, ?_⟩
  refine List.forall_mem_cons.2 ⟨ty_ok27, ?_⟩
  refine List.forall_mem_cons.2 ⟨ty_ok40, ?_⟩
  refine List.forall_mem_cons.2 ⟨ty_ok41, ?_⟩
  refine List.forall_mem_cons.2 ⟨ty_ok54, ?_⟩
  refine List.forall_mem_cons.2 ⟨ty_ok63, ?_⟩
  refine List.forall_mem_cons.2 ⟨ty_ok71, ?_⟩
  refine List.forall_mem_cons.2 ⟨ty_ok74, ?_⟩
  refine List.forall_mem_cons.2 ⟨ty_ok75, ?_⟩
  refine List.forall_mem_cons.2 ⟨ty_ok77, ?_⟩
  refine List.forall_mem_cons.2 ⟨ty_ok89, ?_⟩
  refine List.forall_mem_cons.2 ⟨ty_ok90, ?_⟩
  refine List.forall_mem_cons.2 ⟨ty_ok99, ?_⟩
  refine List.forall_mem_cons.2 ⟨ty_ok101, ?_⟩
  refine List.forall_mem_cons.2 ⟨ty_ok106, ?_⟩
  refine List.forall_mem_cons.2 ⟨ty_ok109, ?_⟩
  refine List.forall_mem_cons.2 ⟨ty_ok114, ?_⟩
  refine List.forall_mem_cons.2 ⟨ty_ok121, ?_⟩
  refine List.forall_mem_cons.2 ⟨ty_ok129, ?_⟩
  refine List.forall_mem_cons.2 ⟨ty_ok133, ?_⟩
  refine List.forall_mem_cons.2 ⟨ty_ok135, ?_⟩
  refine List.forall_mem_cons.2 ⟨ty_ok145, ?_⟩
  refine List.forall_mem_cons.2 ⟨ty_ok150, ?_⟩
  refine List.forall_mem_cons.2 ⟨ty_ok152, ?_⟩
  refine List.forall_mem_cons.2 ⟨ty_ok165, ?_⟩
  refine List.forall_mem_cons.2 ⟨ty_ok169, ?_⟩
  refine List.forall_mem_cons.2 ⟨ty_ok171, ?_⟩
  refine List.forall_mem_cons.2 ⟨ty_ok172, ?_⟩
  refine List.forall_mem_cons.2 ⟨ty_ok178, ?_⟩
  refine List.forall_mem_cons.2 ⟨ty_ok180, ?_⟩
  refine List.forall_mem_cons.2 ⟨ty_ok181, ?_⟩
  refine List.forall_mem_cons.2 ⟨ty_ok182, ?_⟩
  refine List.forall_mem_cons.2 ⟨ty_ok187, ?_⟩
  refine List.forall_mem_cons.2 ⟨ty_ok190, ?_⟩
  refine List.forall_mem_cons.2 ⟨ty_ok193, ?_⟩
  exact fun x hx => (List.not_mem_nil hx).elim
theorem app_ok22 : AppOk Try.prog 22 106 4 32 := ⟨Try.underlying22, ⟨Try.t106, _, (by kernel_rfl), rfl, rfl, rfl, rfl⟩, by decide⟩
theorem app_ok23 : AppOk Try.prog 23 71 3 24 := ⟨Try.underlying23, ⟨Try.t71, _, (by kernel_rfl), rfl, rfl, rfl, rfl⟩, by decide⟩
theorem app_ok41 : AppOk Try.prog 41 3 1 8 := ⟨Try.underlying41, ⟨Try.t3, _, (by kernel_rfl), rfl, rfl, rfl, rfl⟩, by decide⟩
theorem app_ok75 : AppOk Try.prog 75 101 3 24 := ⟨Try.underlying75, ⟨Try.t101, _, (by kernel_rfl), rfl, rfl, rfl, rfl⟩, by decide⟩
theorem app_ok77 : AppOk Try.prog 77 99 3 24 := ⟨Try.underlying77, ⟨Try.t99, _, (by kernel_rfl), rfl, rfl, rfl, rfl⟩, by decide⟩
theorem app_ok90 : AppOk Try.prog 90 41 1 24 := ⟨Try.underlying90, ⟨Try.t41, _, (by kernel_rfl), rfl, rfl, rfl, rfl⟩, by decide⟩
/-- The setting of a walk that only adds to the world. -/
@[reducible] noncomputable def cx (w : World) (N : Nat) : Cx := ⟨Try.prog, tys, tys_ok, w, [], N⟩
/-- The setting of a walk that may write the blocks M. -/
@[reducible] noncomputable def cxM (M : List Nat) (w : World) (N : Nat) : Cx := ⟨Try.prog, tys, tys_ok, w, M, N⟩
end Go.Proofs.Ytmlmgipngbndgaa
