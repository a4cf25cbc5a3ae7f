/- What is known of the types. -/
import Derived.Test.YtalidommelefaaaSl4
import Derived.Test.YtalidommelefaaaChecked
namespace Go.Proofs.Ytalidommelefaaa
set_option linter.unusedVariables false
set_option linter.unusedSimpArgs false
open Go.RowKit

def FOk (P : Program) : List Field → List (Nat × Nat × Bool) → Prop
  | [], [] => True
  | d :: ds, (off, n, g) :: fs => d.offset = off ∧ (∀ w, (sizeOf d.type).run P w = .ok n w) ∧ (∀ w, (isAgg d.type).run P w = .ok g w) ∧ FOk P ds fs
  | _, _ => False
theorem FOk.len {P : Program} {ds : Array Field} {fs : List (Nat × Nat × Bool)} (h : FOk P ds.toList fs) : ds.size = fs.length := by
  have : ∀ (l : List Field) (fs : List (Nat × Nat × Bool)), FOk P l fs → l.length = fs.length := by
    intro l
    induction l with
    | nil => intro fs h; cases fs with | nil => rfl | cons a b => exact h.elim
    | cons d l ih => intro fs h; cases fs with | nil => exact h.elim | cons a b => obtain ⟨x, y, z⟩ := a; simp [ih b h.2.2.2]
  simpa using this _ _ h
theorem FOk.at_ {P : Program} : ∀ {ds : List Field} {fs : List (Nat × Nat × Bool)}, FOk P ds fs → ∀ (f off n : Nat) (g : Bool), fs[f]? = some (off, n, g) →
      ∃ d : Field, ds[f]? = some d ∧ d.offset = off ∧ (∀ w, (sizeOf d.type).run P w = .ok n w) ∧ ∀ w, (isAgg d.type).run P w = .ok g w
  | [], [], _, f, off, n, g, h => by simp at h
  | [], _ :: _, h, _, _, _, _, _ => h.elim
  | _ :: _, [], h, _, _, _, _, _ => h.elim
  | d :: ds, (off', n', g') :: fs, h, 0, off, n, g, hf => by
    obtain ⟨rfl, rfl, rfl⟩ : off' = off ∧ n' = n ∧ g' = g := by simpa using hf
    exact ⟨d, rfl, h.1, h.2.1, h.2.2.1⟩
  | d :: ds, (off', n', g') :: fs, h, f + 1, off, n, g, hf => by
    obtain ⟨d', h1, h2⟩ := FOk.at_ h.2.2.2 f off n g (by simpa using hf)
    exact ⟨d', by simpa using h1, h2⟩
theorem struct_ok {P : Program} {t : Nat} {ds : Array Field} {fs : List (Nat × Nat × Bool)} (hu : ∀ w, (underlying t).run P w = .ok (.struct ds) w) (h : FOk P ds.toList fs) : KindOk P t (.struct fs) :=
  ⟨ds, hu, h.len, fun f off n g hf => by
    obtain ⟨d, h1, h2⟩ := h.at_ f off n g hf
    exact ⟨d, by simpa using h1, h2⟩⟩

theorem ty_ok3 : TyOk Try.prog 3 ⟨false, 1, [(.int .i64 0)], .int .i64⟩ := ⟨Try.isAgg3, Try.sizeOf3, fun w => ⟨_, Try.zeroValue3 w, rfl⟩, rfl, Try.runUnderlying3⟩
theorem ty_ok4 : TyOk Try.prog 4 ⟨false, 1, [(.bool false)], .other⟩ := ⟨Try.isAgg4, Try.sizeOf4, fun w => ⟨_, Try.zeroValue4 w, rfl⟩, rfl, trivial⟩
theorem ty_ok5 : TyOk Try.prog 5 ⟨false, 1, [(.int .u8 0)], .int .u8⟩ := ⟨Try.isAgg5, Try.sizeOf5, fun w => ⟨_, Try.zeroValue5 w, rfl⟩, rfl, Try.runUnderlying5⟩
theorem ty_ok9 : TyOk Try.prog 9 ⟨false, 1, [(.string { data := #[] })], .other⟩ := ⟨Try.isAgg9, Try.sizeOf9, fun w => ⟨_, Try.zeroValue9 w, rfl⟩, rfl, trivial⟩
theorem ty_ok23 : TyOk Try.prog 23 ⟨true, 3, [.int .i64 0, .int .i64 0, .int .i64 0], .struct [(0, 1, false), (1, 1, false), (2, 1, false)]⟩ := ⟨Try.isAgg23, Try.sizeOf23, fun w => ⟨_, Try.zeroValue23 w, rfl⟩, rfl, struct_ok Try.runUnderlying23 ⟨rfl, Try.sizeOf3, Try.isAgg3, ⟨rfl, Try.sizeOf3, Try.isAgg3, ⟨rfl, Try.sizeOf3, Try.isAgg3, trivial⟩⟩⟩⟩
theorem ty_ok24 : TyOk Try.prog 24 ⟨false, 1, [(.slice none 0 0)], .slice 102⟩ := ⟨Try.isAgg24, Try.sizeOf24, fun w => ⟨_, Try.zeroValue24 w, rfl⟩, rfl, Try.runUnderlying24⟩
theorem ty_ok26 : TyOk Try.prog 26 ⟨true, 2, [.int .i64 0, .int .i64 0], .struct [(0, 1, false), (1, 1, false)]⟩ := ⟨Try.isAgg26, Try.sizeOf26, fun w => ⟨_, Try.zeroValue26 w, rfl⟩, rfl, struct_ok Try.runUnderlying26 ⟨rfl, Try.sizeOf3, Try.isAgg3, ⟨rfl, Try.sizeOf3, Try.isAgg3, trivial⟩⟩⟩
theorem ty_ok27 : TyOk Try.prog 27 ⟨false, 1, [(.int .i64 0)], .int .i64⟩ := ⟨Try.isAgg27, Try.sizeOf27, fun w => ⟨_, Try.zeroValue27 w, rfl⟩, rfl, Try.runUnderlying27⟩
theorem ty_ok40 : TyOk Try.prog 40 ⟨false, 1, [(.slice none 0 0)], .slice 108⟩ := ⟨Try.isAgg40, Try.sizeOf40, fun w => ⟨_, Try.zeroValue40 w, rfl⟩, rfl, Try.runUnderlying40⟩
theorem ty_ok41 : TyOk Try.prog 41 ⟨false, 1, [.nilFunc], .other⟩ := ⟨Try.isAgg41, Try.sizeOf41, fun w => ⟨_, Try.zeroValue41 w, rfl⟩, rfl, trivial⟩
theorem ty_ok42 : TyOk Try.prog 42 ⟨false, 1, [(.slice none 0 0)], .slice 76⟩ := ⟨Try.isAgg42, Try.sizeOf42, fun w => ⟨_, Try.zeroValue42 w, rfl⟩, rfl, Try.runUnderlying42⟩
theorem ty_ok43 : TyOk Try.prog 43 ⟨false, 1, [(.slice none 0 0)], .slice 96⟩ := ⟨Try.isAgg43, Try.sizeOf43, fun w => ⟨_, Try.zeroValue43 w, rfl⟩, rfl, Try.runUnderlying43⟩
theorem ty_ok52 : TyOk Try.prog 52 ⟨true, 4, [.int .i64 0, .int .i64 0, .int .i64 0, .int .i64 0], .struct [(0, 2, true), (2, 2, true)]⟩ := ⟨Try.isAgg52, Try.sizeOf52, fun w => ⟨_, Try.zeroValue52 w, rfl⟩, rfl, struct_ok Try.runUnderlying52 ⟨rfl, Try.sizeOf26, Try.isAgg26, ⟨rfl, Try.sizeOf26, Try.isAgg26, trivial⟩⟩⟩
theorem ty_ok61 : TyOk Try.prog 61 ⟨true, 4, [.int .i64 0, .int .i64 0, .int .i64 0, .int .i64 0], .struct [(0, 2, true), (2, 2, true)]⟩ := ⟨Try.isAgg61, Try.sizeOf61, fun w => ⟨_, Try.zeroValue61 w, rfl⟩, rfl, struct_ok Try.runUnderlying61 ⟨rfl, Try.sizeOf26, Try.isAgg26, ⟨rfl, Try.sizeOf26, Try.isAgg26, trivial⟩⟩⟩
theorem ty_ok76 : TyOk Try.prog 76 ⟨true, 5, [.int .i64 0, .int .i64 0, .int .i64 0, .int .i64 0, .int .i64 0], .struct [(0, 1, false), (1, 2, true), (3, 2, true)]⟩ := ⟨Try.isAgg76, Try.sizeOf76, fun w => ⟨_, Try.zeroValue76 w, rfl⟩, rfl, struct_ok Try.runUnderlying76 ⟨rfl, Try.sizeOf3, Try.isAgg3, ⟨rfl, Try.sizeOf26, Try.isAgg26, ⟨rfl, Try.sizeOf26, Try.isAgg26, trivial⟩⟩⟩⟩
theorem ty_ok82 : TyOk Try.prog 82 ⟨false, 1, [(.slice none 0 0)], .slice 3⟩ := ⟨Try.isAgg82, Try.sizeOf82, fun w => ⟨_, Try.zeroValue82 w, rfl⟩, rfl, Try.runUnderlying82⟩
theorem ty_ok83 : TyOk Try.prog 83 ⟨false, 1, [(.int .u16 0)], .int .u16⟩ := ⟨Try.isAgg83, Try.sizeOf83, fun w => ⟨_, Try.zeroValue83 w, rfl⟩, rfl, Try.runUnderlying83⟩
theorem ty_ok88 : TyOk Try.prog 88 ⟨false, 1, [.nilFunc], .other⟩ := ⟨Try.isAgg88, Try.sizeOf88, fun w => ⟨_, Try.zeroValue88 w, rfl⟩, rfl, trivial⟩
theorem ty_ok91 : TyOk Try.prog 91 ⟨false, 1, [(.slice none 0 0)], .slice 5⟩ := ⟨Try.isAgg91, Try.sizeOf91, fun w => ⟨_, Try.zeroValue91 w, rfl⟩, rfl, Try.runUnderlying91⟩
theorem ty_ok96 : TyOk Try.prog 96 ⟨true, 6, [.int .i64 0, .int .i64 0, .int .i64 0, .int .i64 0, .int .i64 0, .int .i64 0], .struct [(0, 1, false), (1, 4, true), (5, 1, false)]⟩ := ⟨Try.isAgg96, Try.sizeOf96, fun w => ⟨_, Try.zeroValue96 w, rfl⟩, rfl, struct_ok Try.runUnderlying96 ⟨rfl, Try.sizeOf3, Try.isAgg3, ⟨rfl, Try.sizeOf52, Try.isAgg52, ⟨rfl, Try.sizeOf3, Try.isAgg3, trivial⟩⟩⟩⟩
theorem ty_ok102 : TyOk Try.prog 102 ⟨true, 6, [.int .i64 0, .int .i64 0, .int .i64 0, .int .i64 0, .int .i64 0, .int .i64 0], .struct [(0, 1, false), (1, 1, false), (2, 1, false), (3, 1, false), (4, 2, true)]⟩ := ⟨Try.isAgg102, Try.sizeOf102, fun w => ⟨_, Try.zeroValue102 w, rfl⟩, rfl, struct_ok Try.runUnderlying102 ⟨rfl, Try.sizeOf3, Try.isAgg3, ⟨rfl, Try.sizeOf3, Try.isAgg3, ⟨rfl, Try.sizeOf3, Try.isAgg3, ⟨rfl, Try.sizeOf3, Try.isAgg3, ⟨rfl, Try.sizeOf26, Try.isAgg26, trivial⟩⟩⟩⟩⟩⟩
theorem ty_ok108 : TyOk Try.prog 108 ⟨true, 2, [.int .i64 0, .int .i64 0], .struct [(0, 1, false), (1, 1, false)]⟩ := ⟨Try.isAgg108, Try.sizeOf108, fun w => ⟨_, Try.zeroValue108 w, rfl⟩, rfl, struct_ok Try.runUnderlying108 ⟨rfl, Try.sizeOf3, Try.isAgg3, ⟨rfl, Try.sizeOf3, Try.isAgg3, trivial⟩⟩⟩
theorem ty_ok109 : TyOk Try.prog 109 ⟨false, 1, [(.slice none 0 0)], .slice 26⟩ := ⟨Try.isAgg109, Try.sizeOf109, fun w => ⟨_, Try.zeroValue109 w, rfl⟩, rfl, Try.runUnderlying109⟩
theorem ty_ok115 : TyOk Try.prog 115 ⟨false, 1, [(.pointer none)], .ptr 171⟩ := ⟨Try.isAgg115, Try.sizeOf115, fun w => ⟨_, Try.zeroValue115 w, rfl⟩, rfl, Try.runUnderlying115⟩
theorem ty_ok131 : TyOk Try.prog 131 ⟨false, 1, [.nilFunc], .other⟩ := ⟨Try.isAgg131, Try.sizeOf131, fun w => ⟨_, Try.zeroValue131 w, rfl⟩, rfl, trivial⟩
theorem ty_ok133 : TyOk Try.prog 133 ⟨false, 1, [.nilFunc], .other⟩ := ⟨Try.isAgg133, Try.sizeOf133, fun w => ⟨_, Try.zeroValue133 w, rfl⟩, rfl, trivial⟩
theorem ty_ok134 : TyOk Try.prog 134 ⟨true, 10, [.int .i64 0, .int .i64 0, .int .i64 0, .int .i64 0, .int .i64 0, .int .i64 0, .int .i64 0, .int .i64 0, .int .i64 0, .int .i64 0], .array 5 26⟩ := ⟨Try.isAgg134, Try.sizeOf134, fun w => ⟨_, Try.zeroValue134 w, rfl⟩, rfl, Try.runUnderlying134⟩
theorem ty_ok140 : TyOk Try.prog 140 ⟨false, 1, [.nilFunc], .other⟩ := ⟨Try.isAgg140, Try.sizeOf140, fun w => ⟨_, Try.zeroValue140 w, rfl⟩, rfl, trivial⟩
theorem ty_ok144 : TyOk Try.prog 144 ⟨false, 1, [.nilFunc], .other⟩ := ⟨Try.isAgg144, Try.sizeOf144, fun w => ⟨_, Try.zeroValue144 w, rfl⟩, rfl, trivial⟩
theorem ty_ok149 : TyOk Try.prog 149 ⟨false, 1, [.nilFunc], .other⟩ := ⟨Try.isAgg149, Try.sizeOf149, fun w => ⟨_, Try.zeroValue149 w, rfl⟩, rfl, trivial⟩
theorem ty_ok151 : TyOk Try.prog 151 ⟨false, 1, [.nilFunc], .other⟩ := ⟨Try.isAgg151, Try.sizeOf151, fun w => ⟨_, Try.zeroValue151 w, rfl⟩, rfl, trivial⟩
theorem ty_ok158 : TyOk Try.prog 158 ⟨true, 4, [.int .i64 0, .int .i64 0, .int .i64 0, .int .i64 0], .array 2 26⟩ := ⟨Try.isAgg158, Try.sizeOf158, fun w => ⟨_, Try.zeroValue158 w, rfl⟩, rfl, Try.runUnderlying158⟩
theorem ty_ok164 : TyOk Try.prog 164 ⟨false, 1, [(.slice none 0 0)], .slice 166⟩ := ⟨Try.isAgg164, Try.sizeOf164, fun w => ⟨_, Try.zeroValue164 w, rfl⟩, rfl, Try.runUnderlying164⟩
theorem ty_ok166 : TyOk Try.prog 166 ⟨true, 3, [.int .i64 0, .int .i64 0, .int .i64 0], .struct [(0, 1, false), (1, 2, true)]⟩ := ⟨Try.isAgg166, Try.sizeOf166, fun w => ⟨_, Try.zeroValue166 w, rfl⟩, rfl, struct_ok Try.runUnderlying166 ⟨rfl, Try.sizeOf3, Try.isAgg3, ⟨rfl, Try.sizeOf26, Try.isAgg26, trivial⟩⟩⟩
theorem ty_ok169 : TyOk Try.prog 169 ⟨true, 5, [.int .i64 0, .int .i64 0, .int .i64 0, .int .i64 0, .int .i64 0], .array 5 3⟩ := ⟨Try.isAgg169, Try.sizeOf169, fun w => ⟨_, Try.zeroValue169 w, rfl⟩, rfl, Try.runUnderlying169⟩
theorem ty_ok171 : TyOk Try.prog 171 ⟨true, 6, [.slice none 0 0, .int .i64 0, .int .i64 0, .int .i64 0, .int .i64 0, .int .i64 0], .struct [(0, 1, false), (1, 5, true)]⟩ := ⟨Try.isAgg171, Try.sizeOf171, fun w => ⟨_, Try.zeroValue171 w, rfl⟩, rfl, struct_ok Try.runUnderlying171 ⟨rfl, Try.sizeOf24, Try.isAgg24, ⟨rfl, Try.sizeOf169, Try.isAgg169, trivial⟩⟩⟩
theorem ty_ok178 : TyOk Try.prog 178 ⟨false, 1, [(.int .u64 0)], .int .u64⟩ := ⟨Try.isAgg178, Try.sizeOf178, fun w => ⟨_, Try.zeroValue178 w, rfl⟩, rfl, Try.runUnderlying178⟩
theorem ty_ok184 : TyOk Try.prog 184 ⟨false, 1, [.nilFunc], .other⟩ := ⟨Try.isAgg184, Try.sizeOf184, fun w => ⟨_, Try.zeroValue184 w, rfl⟩, rfl, trivial⟩
theorem ty_ok192 : TyOk Try.prog 192 ⟨true, 16, [.int .i64 0, .int .i64 0, .int .i64 0, .int .i64 0, .int .i64 0, .int .i64 0, .int .i64 0, .int .i64 0, .int .i64 0, .int .i64 0, .int .i64 0, .int .i64 0, .int .i64 0, .int .i64 0, .int .i64 0, .int .i64 0], .array 8 26⟩ := ⟨Try.isAgg192, Try.sizeOf192, fun w => ⟨_, Try.zeroValue192 w, rfl⟩, rfl, Try.runUnderlying192⟩
theorem ty_ok193 : TyOk Try.prog 193 ⟨true, 2, [.int .i64 0, .int .i64 0], .array 2 3⟩ := ⟨Try.isAgg193, Try.sizeOf193, fun w => ⟨_, Try.zeroValue193 w, rfl⟩, rfl, Try.runUnderlying193⟩
theorem ty_ok195 : TyOk Try.prog 195 ⟨false, 1, [(.int .u64 0)], .int .u64⟩ := ⟨Try.isAgg195, Try.sizeOf195, fun w => ⟨_, Try.zeroValue195 w, rfl⟩, rfl, Try.runUnderlying195⟩
theorem ty_ok201 : TyOk Try.prog 201 ⟨false, 1, [.nilIface], .other⟩ := ⟨Try.isAgg201, Try.sizeOf201, fun w => ⟨_, Try.zeroValue201 w, rfl⟩, rfl, trivial⟩
def tys : List (Nat × TyI) := [(3, ⟨false, 1, [(.int .i64 0)], .int .i64⟩),
  (4, ⟨false, 1, [(.bool false)], .other⟩),
  (5, ⟨false, 1, [(.int .u8 0)], .int .u8⟩),
  (9, ⟨false, 1, [(.string { data := #[] })], .other⟩),
  (23, ⟨true, 3, [.int .i64 0, .int .i64 0, .int .i64 0], .struct [(0, 1, false), (1, 1, false), (2, 1, false)]⟩),
  (24, ⟨false, 1, [(.slice none 0 0)], .slice 102⟩),
  (26, ⟨true, 2, [.int .i64 0, .int .i64 0], .struct [(0, 1, false), (1, 1, false)]⟩),
  (27, ⟨false, 1, [(.int .i64 0)], .int .i64⟩),
  (40, ⟨false, 1, [(.slice none 0 0)], .slice 108⟩),
  (41, ⟨false, 1, [.nilFunc], .other⟩),
  (42, ⟨false, 1, [(.slice none 0 0)], .slice 76⟩),
  (43, ⟨false, 1, [(.slice none 0 0)], .slice 96⟩),
  (52, ⟨true, 4, [.int .i64 0, .int .i64 0, .int .i64 0, .int .i64 0], .struct [(0, 2, true), (2, 2, true)]⟩),
  (61, ⟨true, 4, [.int .i64 0, .int .i64 0, .int .i64 0, .int .i64 0], .struct [(0, 2, true), (2, 2, true)]⟩),
  (76, ⟨true, 5, [.int .i64 0, .int .i64 0, .int .i64 0, .int .i64 0, .int .i64 0], .struct [(0, 1, false), (1, 2, true), (3, 2, true)]⟩),
  (82, ⟨false, 1, [(.slice none 0 0)], .slice 3⟩),
  (83, ⟨false, 1, [(.int .u16 0)], .int .u16⟩),
  (88, ⟨false, 1, [.nilFunc], .other⟩),
  (91, ⟨false, 1, [(.slice none 0 0)], .slice 5⟩),
  (96, ⟨true, 6, [.int .i64 0, .int .i64 0, .int .i64 0, .int .i64 0, .int .i64 0, .int .i64 0], .struct [(0, 1, false), (1, 4, true), (5, 1, false)]⟩),
  (102, ⟨true, 6, [.int .i64 0, .int .i64 0, .int .i64 0, .int .i64 0, .int .i64 0, .int .i64 0], .struct [(0, 1, false), (1, 1, false), (2, 1, false), (3, 1, false), (4, 2, true)]⟩),
  (108, ⟨true, 2, [.int .i64 0, .int .i64 0], .struct [(0, 1, false), (1, 1, false)]⟩),
  (109, ⟨false, 1, [(.slice none 0 0)], .slice 26⟩),
  (115, ⟨false, 1, [(.pointer none)], .ptr 171⟩),
  (131, ⟨false, 1, [.nilFunc], .other⟩),
  (133, ⟨false, 1, [.nilFunc], .other⟩),
  (134, ⟨true, 10, [.int .i64 0, .int .i64 0, .int .i64 0, .int .i64 0, .int .i64 0, .int .i64 0, .int .i64 0, .int .i64 0, .int .i64 0, .int .i64 0], .array 5 26⟩),
  (140, ⟨false, 1, [.nilFunc], .other⟩),
  (144, ⟨false, 1, [.nilFunc], .other⟩),
  (149, ⟨false, 1, [.nilFunc], .other⟩),
  (151, ⟨false, 1, [.nilFunc], .other⟩),
  (158, ⟨true, 4, [.int .i64 0, .int .i64 0, .int .i64 0, .int .i64 0], .array 2 26⟩),
  (164, ⟨false, 1, [(.slice none 0 0)], .slice 166⟩),
  (166, ⟨true, 3, [.int .i64 0, .int .i64 0, .int .i64 0], .struct [(0, 1, false), (1, 2, true)]⟩),
  (169, ⟨true, 5, [.int .i64 0, .int .i64 0, .int .i64 0, .int .i64 0, .int .i64 0], .array 5 3⟩),
  (171, ⟨true, 6, [.slice none 0 0, .int .i64 0, .int .i64 0, .int .i64 0, .int .i64 0, .int .i64 0], .struct [(0, 1, false), (1, 5, true)]⟩),
  (178, ⟨false, 1, [(.int .u64 0)], .int .u64⟩),
  (184, ⟨false, 1, [.nilFunc], .other⟩),
  (192, ⟨true, 16, [.int .i64 0, .int .i64 0, .int .i64 0, .int .i64 0, .int .i64 0, .int .i64 0, .int .i64 0, .int .i64 0, .int .i64 0, .int .i64 0, .int .i64 0, .int .i64 0, .int .i64 0, .int .i64 0, .int .i64 0, .int .i64 0], .array 8 26⟩),
  (193, ⟨true, 2, [.int .i64 0, .int .i64 0], .array 2 3⟩),
  (195, ⟨false, 1, [(.int .u64 0)], .int .u64⟩),
  (201, ⟨false, 1, [.nilIface], .other⟩)]
theorem tys_ok : ∀ x ∈ tys, TyOk Try.prog x.1 x.2 := by
  unfold tys
  refine List.forall_mem_cons.2 ⟨ty_ok3, ?_⟩
  refine List.forall_mem_cons.2 ⟨ty_ok4, ?_⟩
  refine List.forall_mem_cons.2 ⟨ty_ok5, ?_⟩
  refine List.forall_mem_cons.2 ⟨ty_ok9, ?_⟩
  refine List.forall_mem_cons.2 ⟨ty_ok23, ?_⟩
  refine List.forall_mem_cons.2 ⟨ty_ok24, ?_⟩
  refine List.forall_mem_cons.2 ⟨ty_ok26, ?_⟩
  refine List.forall_mem_cons.2 ⟨ty_ok27, ?_⟩
  refine List.forall_mem_cons.2 ⟨ty_ok40, ?_⟩
  refine List.forall_mem_cons.2 ⟨ty_ok41, ?_⟩
  refine List.forall_mem_cons.2 ⟨ty_ok42, ?_⟩
  refine List.forall_mem_cons.2 ⟨ty_ok43, ?_⟩
  refine List.forall_mem_cons.2 ⟨ty_ok52, ?_⟩
  refine List.forall_mem_cons.2 ⟨ty_ok61, ?_⟩
  refine List.forall_mem_cons.2 ⟨ty_ok76, ?_⟩
  refine List.forall_mem_cons.2 ⟨ty_ok82, ?_⟩
  refine List.forall_mem_cons.2 ⟨ty_ok83, ?_⟩
  refine List.forall_mem_cons.2 ⟨ty_ok88, ?_⟩
  refine List.forall_mem_cons.2 ⟨ty_ok91, ?_⟩
  refine List.forall_mem_cons.2 ⟨ty_ok96, ?_⟩
  refine List.forall_mem_cons.2 ⟨ty_ok102, ?_⟩
  refine List.forall_mem_cons.2 ⟨ty_ok108, ?_⟩
  refine List.forall_mem_cons.2 ⟨ty_ok109, ?_⟩
  refine List.forall_mem_cons.2 ⟨ty_ok115, ?_⟩
  refine List.forall_mem_cons.2 ⟨ty_ok131, ?_⟩
  refine List.forall_mem_cons.2 ⟨ty_ok133, ?_⟩
  refine List.forall_mem_cons.2 ⟨ty_ok134, ?_⟩
  refine List.forall_mem_cons.2 ⟨ty_ok140, ?_⟩
  refine List.forall_mem_cons.2 ⟨ty_ok144, ?_⟩
  refine List.forall_mem_cons.2 ⟨ty_ok149, ?_⟩
  refine List.forall_mem_cons.2 ⟨ty_ok151, ?_⟩
  refine List.forall_mem_cons.2 ⟨ty_ok158, ?_⟩
  refine List.forall_mem_cons.2 ⟨ty_ok164, ?_⟩
  refine List.forall_mem_cons.2 ⟨ty_ok166, ?_⟩
  refine List.forall_mem_cons.2 ⟨ty_ok169, ?_⟩
  refine List.forall_mem_cons.2 ⟨ty_ok171, ?_⟩
  refine List.forall_mem_cons.2 ⟨ty_ok178, ?_⟩
  refine List.forall_mem_cons.2 ⟨ty_ok184, ?_⟩
  refine List.forall_mem_cons.2 ⟨ty_ok192, ?_⟩
  refine List.forall_mem_cons.2 ⟨ty_ok193, ?_⟩
  refine List.forall_mem_cons.2 ⟨ty_ok195, ?_⟩
  refine List.forall_mem_cons.2 ⟨ty_ok201, ?_⟩
  exact fun x hx => (List.not_mem_nil hx).elim
theorem app_ok24 : AppOk Try.prog 24 102 6 48 := ⟨Try.underlying24, ⟨Try.t102, _, (by kernel_rfl), rfl, rfl, rfl, rfl⟩, by decide⟩
theorem app_ok42 : AppOk Try.prog 42 76 5 40 := ⟨Try.underlying42, ⟨Try.t76, _, (by kernel_rfl), rfl, rfl, rfl, rfl⟩, by decide⟩
theorem app_ok43 : AppOk Try.prog 43 96 6 48 := ⟨Try.underlying43, ⟨Try.t96, _, (by kernel_rfl), rfl, rfl, rfl, rfl⟩, by decide⟩
theorem app_ok109 : AppOk Try.prog 109 26 2 16 := ⟨Try.underlying109, ⟨Try.t26, _, (by kernel_rfl), rfl, rfl, rfl, rfl⟩, by decide⟩
theorem app_ok164 : AppOk Try.prog 164 166 3 24 := ⟨Try.underlying164, ⟨Try.t166, _, (by kernel_rfl), rfl, rfl, rfl, rfl⟩, by decide⟩
/-- The setting of a walk that only adds to the world. -/
@[reducible] noncomputable def cx (w : World) (N : Nat) : Cx := ⟨Try.prog, tys, tys_ok, w, [], N⟩
/-- The setting of a walk that may write the blocks M. -/
@[reducible] noncomputable def cxM (M : List Nat) (w : World) (N : Nat) : Cx := ⟨Try.prog, tys, tys_ok, w, M, N⟩
end Go.Proofs.Ytalidommelefaaa
