/- The types of the seat, and that they fit. Made by gentypes.py. -/
import Derived.Test.YteijmljgodikiaaGreatZ31
import Derived.KernelRfl
import Derived.Test.YteijmljgodikiaaGreatProg
set_option linter.all false
namespace Go.Proofs.YteijmljgodikiaaGreatZ
open Go

def unkTy : Ty := ⟨.unknown, 0, 0, [], none⟩
def ty1 : Ty := ⟨.other, 1, 8, [Go.Value.nilFunc], none⟩
def ty2 : Ty := ⟨.int .i64, 1, 8, [Go.Value.int Go.IntKind.i64 0], none⟩
def ty3 : Ty := ⟨.int .i64, 1, 8, [Go.Value.int Go.IntKind.i64 0], none⟩
def ty4 : Ty := ⟨.bool, 1, 1, [Go.Value.bool false], none⟩
def ty5 : Ty := ⟨.int .u8, 1, 1, [Go.Value.int Go.IntKind.u8 0], none⟩
def ty9 : Ty := ⟨.str, 1, 16, [Go.Value.string { data := #[] }], none⟩
def ty20 : Ty := ⟨.other, 1, 16, [Go.Value.nilIface], none⟩
def ty22 : Ty := ⟨.slice 82, 1, 24, [Go.Value.slice none 0 0], none⟩
def ty23 : Ty := ⟨.slice 88, 1, 24, [Go.Value.slice none 0 0], none⟩
def ty25 : Ty := ⟨.struct [(0, 22), (1, 23), (2, 3)], 3, 56, [Go.Value.slice none 0 0, Go.Value.slice none 0 0, Go.Value.int Go.IntKind.i64 0], none⟩
def ty26 : Ty := ⟨.slice 62, 1, 24, [Go.Value.slice none 0 0], none⟩
def ty29 : Ty := ⟨.slice 3, 1, 24, [Go.Value.slice none 0 0], none⟩
def ty31 : Ty := ⟨.struct [(0, 3), (1, 29), (2, 29)], 3, 56, [Go.Value.int Go.IntKind.i64 0, Go.Value.slice none 0 0, Go.Value.slice none 0 0], none⟩
def ty34 : Ty := ⟨.slice 83, 1, 24, [Go.Value.slice none 0 0], none⟩
def ty35 : Ty := ⟨.slice 86, 1, 24, [Go.Value.slice none 0 0], none⟩
def ty37 : Ty := ⟨.struct [(0, 34), (1, 35), (2, 3)], 3, 56, [Go.Value.slice none 0 0, Go.Value.slice none 0 0, Go.Value.int Go.IntKind.i64 0], none⟩
def ty39 : Ty := ⟨.slice 65, 1, 24, [Go.Value.slice none 0 0], none⟩
def ty48 : Ty := ⟨.struct [(0, 3), (1, 29), (2, 29)], 3, 56, [Go.Value.int Go.IntKind.i64 0, Go.Value.slice none 0 0, Go.Value.slice none 0 0], none⟩
def ty50 : Ty := ⟨.struct [(0, 25), (3, 48), (6, 4), (7, 26)], 8, 144, [Go.Value.slice none 0 0, Go.Value.slice none 0 0, Go.Value.int Go.IntKind.i64 0, Go.Value.int Go.IntKind.i64 0, Go.Value.slice none 0 0, Go.Value.slice none 0 0, Go.Value.bool false, Go.Value.slice none 0 0], none⟩
def ty54 : Ty := ⟨.struct [(0, 37), (3, 31), (6, 4), (7, 39)], 8, 144, [Go.Value.slice none 0 0, Go.Value.slice none 0 0, Go.Value.int Go.IntKind.i64 0, Go.Value.int Go.IntKind.i64 0, Go.Value.slice none 0 0, Go.Value.slice none 0 0, Go.Value.bool false, Go.Value.slice none 0 0], none⟩
def ty62 : Ty := ⟨.struct [(0, 3), (1, 29), (2, 29), (3, 29)], 4, 80, [Go.Value.int Go.IntKind.i64 0, Go.Value.slice none 0 0, Go.Value.slice none 0 0, Go.Value.slice none 0 0], none⟩
def ty65 : Ty := ⟨.struct [(0, 3), (1, 29), (2, 29), (3, 29)], 4, 80, [Go.Value.int Go.IntKind.i64 0, Go.Value.slice none 0 0, Go.Value.slice none 0 0, Go.Value.slice none 0 0], none⟩
def ty82 : Ty := ⟨.struct [(0, 9), (1, 29), (2, 3)], 3, 48, [Go.Value.string { data := #[] }, Go.Value.slice none 0 0, Go.Value.int Go.IntKind.i64 0], none⟩
def ty83 : Ty := ⟨.struct [(0, 9), (1, 29), (2, 3)], 3, 48, [Go.Value.string { data := #[] }, Go.Value.slice none 0 0, Go.Value.int Go.IntKind.i64 0], none⟩
def ty86 : Ty := ⟨.struct [(0, 3), (1, 3), (2, 3), (3, 3), (4, 4)], 5, 40, [Go.Value.int Go.IntKind.i64 0, Go.Value.int Go.IntKind.i64 0, Go.Value.int Go.IntKind.i64 0, Go.Value.int Go.IntKind.i64 0, Go.Value.bool false], some [(0, 3), (1, 3), (2, 3), (3, 3), (4, 4)]⟩
def ty88 : Ty := ⟨.struct [(0, 3), (1, 3), (2, 3), (3, 3), (4, 4)], 5, 40, [Go.Value.int Go.IntKind.i64 0, Go.Value.int Go.IntKind.i64 0, Go.Value.int Go.IntKind.i64 0, Go.Value.int Go.IntKind.i64 0, Go.Value.bool false], some [(0, 3), (1, 3), (2, 3), (3, 3), (4, 4)]⟩
def ty92 : Ty := ⟨.other, 1, 8, [Go.Value.nilFunc], none⟩
def ty95 : Ty := ⟨.slice 29, 1, 24, [Go.Value.slice none 0 0], none⟩
def ty97 : Ty := ⟨.other, 1, 8, [Go.Value.nilFunc], none⟩
def ty111 : Ty := ⟨.other, 1, 8, [Go.Value.nilFunc], none⟩
def ty114 : Ty := ⟨.other, 1, 8, [Go.Value.nilFunc], none⟩
def ty117 : Ty := ⟨.int .u64, 1, 8, [Go.Value.int Go.IntKind.u64 0], none⟩
def ty125 : Ty := ⟨.slice 5, 1, 24, [Go.Value.slice none 0 0], none⟩
def ty130 : Ty := ⟨.int .u32, 1, 4, [Go.Value.int Go.IntKind.u32 0], none⟩
def ty133 : Ty := ⟨.int .u64, 1, 8, [Go.Value.int Go.IntKind.u64 0], none⟩
def ty146 : Ty := ⟨.int .i64, 1, 8, [Go.Value.int Go.IntKind.i64 0], none⟩
def tys : List Ty := [unkTy, ty1, ty2, ty3, ty4, ty5, unkTy, unkTy, unkTy, ty9, unkTy, unkTy, unkTy, unkTy, unkTy, unkTy, unkTy, unkTy, unkTy, unkTy, ty20, unkTy, ty22, ty23, unkTy, ty25, ty26, unkTy, unkTy, ty29, unkTy, ty31, unkTy, unkTy, ty34, ty35, unkTy, ty37, unkTy, ty39, unkTy, unkTy, unkTy, unkTy, unkTy, unkTy, unkTy, unkTy, ty48, unkTy, ty50, unkTy, unkTy, unkTy, ty54, unkTy, unkTy, unkTy, unkTy, unkTy, unkTy, unkTy, ty62, unkTy, unkTy, ty65, unkTy, unkTy, unkTy, unkTy, unkTy, unkTy, unkTy, unkTy, unkTy, unkTy, unkTy, unkTy, unkTy, unkTy, unkTy, unkTy, ty82, ty83, unkTy, unkTy, ty86, unkTy, ty88, unkTy, unkTy, unkTy, ty92, unkTy, unkTy, ty95, unkTy, ty97, unkTy, unkTy, unkTy, unkTy, unkTy, unkTy, unkTy, unkTy, unkTy, unkTy, unkTy, unkTy, unkTy, ty111, unkTy, unkTy, ty114, unkTy, unkTy, ty117, unkTy, unkTy, unkTy, unkTy, unkTy, unkTy, unkTy, ty125, unkTy, unkTy, unkTy, unkTy, ty130, unkTy, unkTy, ty133, unkTy, unkTy, unkTy, unkTy, unkTy, unkTy, unkTy, unkTy, unkTy, unkTy, unkTy, unkTy, ty146]
def T (t : Nat) : Ty := tys.getD t unkTy

inductive FitsL (P : Program) : Nat → List Ty → Prop
  | nil (k : Nat) : FitsL P k []
  | cons {k : Nat} {ty : Ty} {l : List Ty} (h : TyOk P k ty) (r : FitsL P (k + 1) l) : FitsL P k (ty :: l)

theorem FitsL.get {P : Program} : ∀ {l : List Ty} {k : Nat}, FitsL P k l → ∀ i, TyOk P (k + i) (l.getD i unkTy)
  | _, _, .nil _, i => by simp [unkTy, TyOk]
  | _, _, .cons h r, 0 => h
  | _, _, .cons (k := k) h r, i + 1 => by
    have := r.get i
    rw [show k + 1 + i = k + (i + 1) by omega] at this
    simpa using this

theorem fits_unk (P : Program) (t : Nat) : TyOk P t unkTy := by simp [unkTy, TyOk]

theorem fits_of {P : Program} {t : Nat} {ty : Ty} {i : TypeInfo} {z : Value} (hs : t < P.types.size) (h1 : P.types[t]? = some i) (h2 : i.zero = some z) (h : i.size = ty.size ∧ i.bytes = ty.bytes ∧ z.cells.toList = ty.zero ∧ ty.zero.length = ty.size) (h3 : ty.zero.all (fun v => v.oneCell') = true) (h4 : kindOk P t ty.kind) (h5 : ∀ fs, ty.eqs = some fs → ∃ fields : Array Field, P.underlying t = some (.struct fields) ∧ fields.toList.map (fun f => (f.offset, f.type)) = fs ∧ (∀ f, f ∈ fields.toList → f.name ≠ "_") ∧ P.stoodInHeld t = false ∧ P.eqGuardType P.depth t = false) : TyOk P t ty := by
  unfold TyOk
  split
  · trivial
  · exact ⟨⟨i, z, (by unfold Tables.info?; rw [if_pos hs]; exact h1), h.1, h.2.1, h2, h.2.2.1, h.2.2.2⟩, fun v hv => List.all_eq_true.1 h3 v hv, h4, h5⟩

theorem fits1 : TyOk Go.Proofs.Tryz.prog 1 ty1 := fits_of (i := Go.Proofs.Tryz.t1) (by rw [Go.Proofs.Tryz.types_size]; decide) Go.Proofs.Tryz.type1 rfl ⟨rfl, rfl, rfl, rfl⟩ rfl (by exact ⟨_, Go.Proofs.Tryz.underlying1, rfl⟩) (by intro fs h; cases h)
theorem fits2 : TyOk Go.Proofs.Tryz.prog 2 ty2 := fits_of (i := Go.Proofs.Tryz.t2) (by rw [Go.Proofs.Tryz.types_size]; decide) Go.Proofs.Tryz.type2 rfl ⟨rfl, rfl, rfl, rfl⟩ rfl (by exact Go.Proofs.Tryz.underlying2) (by intro fs h; cases h)
theorem fits3 : TyOk Go.Proofs.Tryz.prog 3 ty3 := fits_of (i := Go.Proofs.Tryz.t3) (by rw [Go.Proofs.Tryz.types_size]; decide) Go.Proofs.Tryz.type3 rfl ⟨rfl, rfl, rfl, rfl⟩ rfl (by exact Go.Proofs.Tryz.underlying3) (by intro fs h; cases h)
theorem fits4 : TyOk Go.Proofs.Tryz.prog 4 ty4 := fits_of (i := Go.Proofs.Tryz.t4) (by rw [Go.Proofs.Tryz.types_size]; decide) Go.Proofs.Tryz.type4 rfl ⟨rfl, rfl, rfl, rfl⟩ rfl (by exact Go.Proofs.Tryz.underlying4) (by intro fs h; cases h)
theorem fits5 : TyOk Go.Proofs.Tryz.prog 5 ty5 := fits_of (i := Go.Proofs.Tryz.t5) (by rw [Go.Proofs.Tryz.types_size]; decide) Go.Proofs.Tryz.type5 rfl ⟨rfl, rfl, rfl, rfl⟩ rfl (by exact Go.Proofs.Tryz.underlying5) (by intro fs h; cases h)
theorem fits9 : TyOk Go.Proofs.Tryz.prog 9 ty9 := fits_of (i := Go.Proofs.Tryz.t9) (by rw [Go.Proofs.Tryz.types_size]; decide) Go.Proofs.Tryz.type9 rfl ⟨rfl, rfl, rfl, rfl⟩ rfl (by exact Go.Proofs.Tryz.underlying9) (by intro fs h; cases h)
theorem fits20 : TyOk Go.Proofs.Tryz.prog 20 ty20 := fits_of (i := Go.Proofs.Tryz.t20) (by rw [Go.Proofs.Tryz.types_size]; decide) Go.Proofs.Tryz.type20 rfl ⟨rfl, rfl, rfl, rfl⟩ rfl (by exact ⟨_, Go.Proofs.Tryz.underlying20, rfl⟩) (by intro fs h; cases h)
theorem fits22 : TyOk Go.Proofs.Tryz.prog 22 ty22 := fits_of (i := Go.Proofs.Tryz.t22) (by rw [Go.Proofs.Tryz.types_size]; decide) Go.Proofs.Tryz.type22 rfl ⟨rfl, rfl, rfl, rfl⟩ rfl (by exact Go.Proofs.Tryz.underlying22) (by intro fs h; cases h)
theorem fits23 : TyOk Go.Proofs.Tryz.prog 23 ty23 := fits_of (i := Go.Proofs.Tryz.t23) (by rw [Go.Proofs.Tryz.types_size]; decide) Go.Proofs.Tryz.type23 rfl ⟨rfl, rfl, rfl, rfl⟩ rfl (by exact Go.Proofs.Tryz.underlying23) (by intro fs h; cases h)
theorem fits25 : TyOk Go.Proofs.Tryz.prog 25 ty25 := fits_of (i := Go.Proofs.Tryz.t25) (by rw [Go.Proofs.Tryz.types_size]; decide) Go.Proofs.Tryz.type25 rfl ⟨rfl, rfl, rfl, rfl⟩ rfl (by exact ⟨_, Go.Proofs.Tryz.underlying25, rfl⟩) (by intro fs h; cases h)
theorem fits26 : TyOk Go.Proofs.Tryz.prog 26 ty26 := fits_of (i := Go.Proofs.Tryz.t26) (by rw [Go.Proofs.Tryz.types_size]; decide) Go.Proofs.Tryz.type26 rfl ⟨rfl, rfl, rfl, rfl⟩ rfl (by exact Go.Proofs.Tryz.underlying26) (by intro fs h; cases h)
theorem fits29 : TyOk Go.Proofs.Tryz.prog 29 ty29 := fits_of (i := Go.Proofs.Tryz.t29) (by rw [Go.Proofs.Tryz.types_size]; decide) Go.Proofs.Tryz.type29 rfl ⟨rfl, rfl, rfl, rfl⟩ rfl (by exact Go.Proofs.Tryz.underlying29) (by intro fs h; cases h)
theorem fits31 : TyOk Go.Proofs.Tryz.prog 31 ty31 := fits_of (i := Go.Proofs.Tryz.t31) (by rw [Go.Proofs.Tryz.types_size]; decide) Go.Proofs.Tryz.type31 rfl ⟨rfl, rfl, rfl, rfl⟩ rfl (by exact ⟨_, Go.Proofs.Tryz.underlying31, rfl⟩) (by intro fs h; cases h)
theorem fits34 : TyOk Go.Proofs.Tryz.prog 34 ty34 := fits_of (i := Go.Proofs.Tryz.t34) (by rw [Go.Proofs.Tryz.types_size]; decide) Go.Proofs.Tryz.type34 rfl ⟨rfl, rfl, rfl, rfl⟩ rfl (by exact Go.Proofs.Tryz.underlying34) (by intro fs h; cases h)
theorem fits35 : TyOk Go.Proofs.Tryz.prog 35 ty35 := fits_of (i := Go.Proofs.Tryz.t35) (by rw [Go.Proofs.Tryz.types_size]; decide) Go.Proofs.Tryz.type35 rfl ⟨rfl, rfl, rfl, rfl⟩ rfl (by exact Go.Proofs.Tryz.underlying35) (by intro fs h; cases h)
theorem fits37 : TyOk Go.Proofs.Tryz.prog 37 ty37 := fits_of (i := Go.Proofs.Tryz.t37) (by rw [Go.Proofs.Tryz.types_size]; decide) Go.Proofs.Tryz.type37 rfl ⟨rfl, rfl, rfl, rfl⟩ rfl (by exact ⟨_, Go.Proofs.Tryz.underlying37, rfl⟩) (by intro fs h; cases h)
theorem fits39 : TyOk Go.Proofs.Tryz.prog 39 ty39 := fits_of (i := Go.Proofs.Tryz.t39) (by rw [Go.Proofs.Tryz.types_size]; decide) Go.Proofs.Tryz.type39 rfl ⟨rfl, rfl, rfl, rfl⟩ rfl (by exact Go.Proofs.Tryz.underlying39) (by intro fs h; cases h)
theorem fits48 : TyOk Go.Proofs.Tryz.prog 48 ty48 := fits_of (i := Go.Proofs.Tryz.t48) (by rw [Go.Proofs.Tryz.types_size]; decide) Go.Proofs.Tryz.type48 rfl ⟨rfl, rfl, rfl, rfl⟩ rfl (by exact ⟨_, Go.Proofs.Tryz.underlying48, rfl⟩) (by intro fs h; cases h)
theorem fits50 : TyOk Go.Proofs.Tryz.prog 50 ty50 := fits_of (i := Go.Proofs.Tryz.t50) (by rw [Go.Proofs.Tryz.types_size]; decide) Go.Proofs.Tryz.type50 rfl ⟨rfl, rfl, rfl, rfl⟩ rfl (by exact ⟨_, Go.Proofs.Tryz.underlying50, rfl⟩) (by intro fs h; cases h)
theorem fits54 : TyOk Go.Proofs.Tryz.prog 54 ty54 := fits_of (i := Go.Proofs.Tryz.t54) (by rw [Go.Proofs.Tryz.types_size]; decide) Go.Proofs.Tryz.type54 rfl ⟨rfl, rfl, rfl, rfl⟩ rfl (by exact ⟨_, Go.Proofs.Tryz.underlying54, rfl⟩) (by intro fs h; cases h)
theorem fits62 : TyOk Go.Proofs.Tryz.prog 62 ty62 := fits_of (i := Go.Proofs.Tryz.t62) (by rw [Go.Proofs.Tryz.types_size]; decide) Go.Proofs.Tryz.type62 rfl ⟨rfl, rfl, rfl, rfl⟩ rfl (by exact ⟨_, Go.Proofs.Tryz.underlying62, rfl⟩) (by intro fs h; cases h)
theorem fits65 : TyOk Go.Proofs.Tryz.prog 65 ty65 := fits_of (i := Go.Proofs.Tryz.t65) (by rw [Go.Proofs.Tryz.types_size]; decide) Go.Proofs.Tryz.type65 rfl ⟨rfl, rfl, rfl, rfl⟩ rfl (by exact ⟨_, Go.Proofs.Tryz.underlying65, rfl⟩) (by intro fs h; cases h)
theorem fits82 : TyOk Go.Proofs.Tryz.prog 82 ty82 := fits_of (i := Go.Proofs.Tryz.t82) (by rw [Go.Proofs.Tryz.types_size]; decide) Go.Proofs.Tryz.type82 rfl ⟨rfl, rfl, rfl, rfl⟩ rfl (by exact ⟨_, Go.Proofs.Tryz.underlying82, rfl⟩) (by intro fs h; cases h)
theorem fits83 : TyOk Go.Proofs.Tryz.prog 83 ty83 := fits_of (i := Go.Proofs.Tryz.t83) (by rw [Go.Proofs.Tryz.types_size]; decide) Go.Proofs.Tryz.type83 rfl ⟨rfl, rfl, rfl, rfl⟩ rfl (by exact ⟨_, Go.Proofs.Tryz.underlying83, rfl⟩) (by intro fs h; cases h)
theorem fits86 : TyOk Go.Proofs.Tryz.prog 86 ty86 := fits_of (i := Go.Proofs.Tryz.t86) (by rw [Go.Proofs.Tryz.types_size]; decide) Go.Proofs.Tryz.type86 rfl ⟨rfl, rfl, rfl, rfl⟩ rfl (by exact ⟨_, Go.Proofs.Tryz.underlying86, rfl⟩) (by intro fs h; cases h; exact ⟨_, Go.Proofs.Tryz.underlying86, rfl, by decide, by kernel_rfl, by kernel_rfl⟩)
theorem fits88 : TyOk Go.Proofs.Tryz.prog 88 ty88 := fits_of (i := Go.Proofs.Tryz.t88) (by rw [Go.Proofs.Tryz.types_size]; decide) Go.Proofs.Tryz.type88 rfl ⟨rfl, rfl, rfl, rfl⟩ rfl (by exact ⟨_, Go.Proofs.Tryz.underlying88, rfl⟩) (by intro fs h; cases h; exact ⟨_, Go.Proofs.Tryz.underlying88, rfl, by decide, by kernel_rfl, by kernel_rfl⟩)
theorem fits92 : TyOk Go.Proofs.Tryz.prog 92 ty92 := fits_of (i := Go.Proofs.Tryz.t92) (by rw [Go.Proofs.Tryz.types_size]; decide) Go.Proofs.Tryz.type92 rfl ⟨rfl, rfl, rfl, rfl⟩ rfl (by exact ⟨_, Go.Proofs.Tryz.underlying92, rfl⟩) (by intro fs h; cases h)
theorem fits95 : TyOk Go.Proofs.Tryz.prog 95 ty95 := fits_of (i := Go.Proofs.Tryz.t95) (by rw [Go.Proofs.Tryz.types_size]; decide) Go.Proofs.Tryz.type95 rfl ⟨rfl, rfl, rfl, rfl⟩ rfl (by exact Go.Proofs.Tryz.underlying95) (by intro fs h; cases h)
theorem fits97 : TyOk Go.Proofs.Tryz.prog 97 ty97 := fits_of (i := Go.Proofs.Tryz.t97) (by rw [Go.Proofs.Tryz.types_size]; decide) Go.Proofs.Tryz.type97 rfl ⟨rfl, rfl, rfl, rfl⟩ rfl (by exact ⟨_, Go.Proofs.Tryz.underlying97, rfl⟩) (by intro fs h; cases h)
theorem fits111 : TyOk Go.Proofs.Tryz.prog 111 ty111 := fits_of (i := Go.Proofs.Tryz.t111) (by rw [Go.Proofs.Tryz.types_size]; decide) Go.Proofs.Tryz.type111 rfl ⟨rfl, rfl, rfl, rfl⟩ rfl (by exact ⟨_, Go.Proofs.Tryz.underlying111, rfl⟩) (by intro fs h; cases h)
theorem fits114 : TyOk Go.Proofs.Tryz.prog 114 ty114 := fits_of (i := Go.Proofs.Tryz.t114) (by rw [Go.Proofs.Tryz.types_size]; decide) Go.Proofs.Tryz.type114 rfl ⟨rfl, rfl, rfl, rfl⟩ rfl (by exact ⟨_, Go.Proofs.Tryz.underlying114, rfl⟩) (by intro fs h; cases h)
theorem fits117 : TyOk Go.Proofs.Tryz.prog 117 ty117 := fits_of (i := Go.Proofs.Tryz.t117) (by rw [Go.Proofs.Tryz.types_size]; decide) Go.Proofs.Tryz.type117 rfl ⟨rfl, rfl, rfl, rfl⟩ rfl (by exact Go.Proofs.Tryz.underlying117) (by intro fs h; cases h)
theorem fits125 : TyOk Go.Proofs.Tryz.prog 125 ty125 := fits_of (i := Go.Proofs.Tryz.t125) (by rw [Go.Proofs.Tryz.types_size]; decide) Go.Proofs.Tryz.type125 rfl ⟨rfl, rfl, rfl, rfl⟩ rfl (by exact Go.Proofs.Tryz.underlying125) (by intro fs h; cases h)
theorem fits130 : TyOk Go.Proofs.Tryz.prog 130 ty130 := fits_of (i := Go.Proofs.Tryz.t130) (by rw [Go.Proofs.Tryz.types_size]; decide) Go.Proofs.Tryz.type130 rfl ⟨rfl, rfl, rfl, rfl⟩ rfl (by exact Go.Proofs.Tryz.underlying130) (by intro fs h; cases h)
theorem fits133 : TyOk Go.Proofs.Tryz.prog 133 ty133 := fits_of (i := Go.Proofs.Tryz.t133) (by rw [Go.Proofs.Tryz.types_size]; decide) Go.Proofs.Tryz.type133 rfl ⟨rfl, rfl, rfl, rfl⟩ rfl (by exact Go.Proofs.Tryz.underlying133) (by intro fs h; cases h)
theorem fits146 : TyOk Go.Proofs.Tryz.prog 146 ty146 := fits_of (i := Go.Proofs.Tryz.t146) (by rw [Go.Proofs.Tryz.types_size]; decide) Go.Proofs.Tryz.type146 rfl ⟨rfl, rfl, rfl, rfl⟩ rfl (by exact Go.Proofs.Tryz.underlying146) (by intro fs h; cases h)
theorem fitsL0 {l : List Ty} (r : FitsL Go.Proofs.Tryz.prog 16 l) : FitsL Go.Proofs.Tryz.prog 0 (unkTy :: ty1 :: ty2 :: ty3 :: ty4 :: ty5 :: unkTy :: unkTy :: unkTy :: ty9 :: unkTy :: unkTy :: unkTy :: unkTy :: unkTy :: unkTy :: l) :=
  .cons (fits_unk _ _) (.cons fits1 (.cons fits2 (.cons fits3 (.cons fits4 (.cons fits5 (.cons (fits_unk _ _) (.cons (fits_unk _ _) (.cons (fits_unk _ _) (.cons fits9 (.cons (fits_unk _ _) (.cons (fits_unk _ _) (.cons (fits_unk _ _) (.cons (fits_unk _ _) (.cons (fits_unk _ _) (.cons (fits_unk _ _) (r))))))))))))))))
theorem fitsL16 {l : List Ty} (r : FitsL Go.Proofs.Tryz.prog 32 l) : FitsL Go.Proofs.Tryz.prog 16 (unkTy :: unkTy :: unkTy :: unkTy :: ty20 :: unkTy :: ty22 :: ty23 :: unkTy :: ty25 :: ty26 :: unkTy :: unkTy :: ty29 :: unkTy :: ty31 :: l) :=
  .cons (fits_unk _ _) (.cons (fits_unk _ _) (.cons (fits_unk _ _) (.cons (fits_unk _ _) (.cons fits20 (.cons (fits_unk _ _) (.cons fits22 (.cons fits23 (.cons (fits_unk _ _) (.cons fits25 (.cons fits26 (.cons (fits_unk _ _) (.cons (fits_unk _ _) (.cons fits29 (.cons (fits_unk _ _) (.cons fits31 (r))))))))))))))))
theorem fitsL32 {l : List Ty} (r : FitsL Go.Proofs.Tryz.prog 48 l) : FitsL Go.Proofs.Tryz.prog 32 (unkTy :: unkTy :: ty34 :: ty35 :: unkTy :: ty37 :: unkTy :: ty39 :: unkTy :: unkTy :: unkTy :: unkTy :: unkTy :: unkTy :: unkTy :: unkTy :: l) :=
  .cons (fits_unk _ _) (.cons (fits_unk _ _) (.cons fits34 (.cons fits35 (.cons (fits_unk _ _) (.cons fits37 (.cons (fits_unk _ _) (.cons fits39 (.cons (fits_unk _ _) (.cons (fits_unk _ _) (.cons (fits_unk _ _) (.cons (fits_unk _ _) (.cons (fits_unk _ _) (.cons (fits_unk _ _) (.cons (fits_unk _ _) (.cons (fits_unk _ _) (r))))))))))))))))
theorem fitsL48 {l : List Ty} (r : FitsL Go.Proofs.Tryz.prog 64 l) : FitsL Go.Proofs.Tryz.prog 48 (ty48 :: unkTy :: ty50 :: unkTy :: unkTy :: unkTy :: ty54 :: unkTy :: unkTy :: unkTy :: unkTy :: unkTy :: unkTy :: unkTy :: ty62 :: unkTy :: l) :=
  .cons fits48 (.cons (fits_unk _ _) (.cons fits50 (.cons (fits_unk _ _) (.cons (fits_unk _ _) (.cons (fits_unk _ _) (.cons fits54 (.cons (fits_unk _ _) (.cons (fits_unk _ _) (.cons (fits_unk _ _) (.cons (fits_unk _ _) (.cons (fits_unk _ _) (.cons (fits_unk _ _) (.cons (fits_unk _ _) (.cons fits62 (.cons (fits_unk _ _) (r))))))))))))))))
theorem fitsL64 {l : List Ty} (r : FitsL Go.Proofs.Tryz.prog 80 l) : FitsL Go.Proofs.Tryz.prog 64 (unkTy :: ty65 :: unkTy :: unkTy :: unkTy :: unkTy :: unkTy :: unkTy :: unkTy :: unkTy :: unkTy :: unkTy :: unkTy :: unkTy :: unkTy :: unkTy :: l) :=
  .cons (fits_unk _ _) (.cons fits65 (.cons (fits_unk _ _) (.cons (fits_unk _ _) (.cons (fits_unk _ _) (.cons (fits_unk _ _) (.cons (fits_unk _ _) (.cons (fits_unk _ _) (.cons (fits_unk _ _) (.cons (fits_unk _ _) (.cons (fits_unk _ _) (.cons (fits_unk _ _) (.cons (fits_unk _ _) (.cons (fits_unk _ _) (.cons (fits_unk _ _) (.cons (fits_unk _ _) (r))))))))))))))))
theorem fitsL80 {l : List Ty} (r : FitsL Go.Proofs.Tryz.prog 96 l) : FitsL Go.Proofs.Tryz.prog 80 (unkTy :: unkTy :: ty82 :: ty83 :: unkTy :: unkTy :: ty86 :: unkTy :: ty88 :: unkTy :: unkTy :: unkTy :: ty92 :: unkTy :: unkTy :: ty95 :: l) :=
  .cons (fits_unk _ _) (.cons (fits_unk _ _) (.cons fits82 (.cons fits83 (.cons (fits_unk _ _) (.cons (fits_unk _ _) (.cons fits86 (.cons (fits_unk _ _) (.cons fits88 (.cons (fits_unk _ _) (.cons (fits_unk _ _) (.cons (fits_unk _ _) (.cons fits92 (.cons (fits_unk _ _) (.cons (fits_unk _ _) (.cons fits95 (r))))))))))))))))
theorem fitsL96 {l : List Ty} (r : FitsL Go.Proofs.Tryz.prog 112 l) : FitsL Go.Proofs.Tryz.prog 96 (unkTy :: ty97 :: unkTy :: unkTy :: unkTy :: unkTy :: unkTy :: unkTy :: unkTy :: unkTy :: unkTy :: unkTy :: unkTy :: unkTy :: unkTy :: ty111 :: l) :=
  .cons (fits_unk _ _) (.cons fits97 (.cons (fits_unk _ _) (.cons (fits_unk _ _) (.cons (fits_unk _ _) (.cons (fits_unk _ _) (.cons (fits_unk _ _) (.cons (fits_unk _ _) (.cons (fits_unk _ _) (.cons (fits_unk _ _) (.cons (fits_unk _ _) (.cons (fits_unk _ _) (.cons (fits_unk _ _) (.cons (fits_unk _ _) (.cons (fits_unk _ _) (.cons fits111 (r))))))))))))))))
theorem fitsL112 {l : List Ty} (r : FitsL Go.Proofs.Tryz.prog 128 l) : FitsL Go.Proofs.Tryz.prog 112 (unkTy :: unkTy :: ty114 :: unkTy :: unkTy :: ty117 :: unkTy :: unkTy :: unkTy :: unkTy :: unkTy :: unkTy :: unkTy :: ty125 :: unkTy :: unkTy :: l) :=
  .cons (fits_unk _ _) (.cons (fits_unk _ _) (.cons fits114 (.cons (fits_unk _ _) (.cons (fits_unk _ _) (.cons fits117 (.cons (fits_unk _ _) (.cons (fits_unk _ _) (.cons (fits_unk _ _) (.cons (fits_unk _ _) (.cons (fits_unk _ _) (.cons (fits_unk _ _) (.cons (fits_unk _ _) (.cons fits125 (.cons (fits_unk _ _) (.cons (fits_unk _ _) (r))))))))))))))))
theorem fitsL128 {l : List Ty} (r : FitsL Go.Proofs.Tryz.prog 144 l) : FitsL Go.Proofs.Tryz.prog 128 (unkTy :: unkTy :: ty130 :: unkTy :: unkTy :: ty133 :: unkTy :: unkTy :: unkTy :: unkTy :: unkTy :: unkTy :: unkTy :: unkTy :: unkTy :: unkTy :: l) :=
  .cons (fits_unk _ _) (.cons (fits_unk _ _) (.cons fits130 (.cons (fits_unk _ _) (.cons (fits_unk _ _) (.cons fits133 (.cons (fits_unk _ _) (.cons (fits_unk _ _) (.cons (fits_unk _ _) (.cons (fits_unk _ _) (.cons (fits_unk _ _) (.cons (fits_unk _ _) (.cons (fits_unk _ _) (.cons (fits_unk _ _) (.cons (fits_unk _ _) (.cons (fits_unk _ _) (r))))))))))))))))
theorem fitsL144 {l : List Ty} (r : FitsL Go.Proofs.Tryz.prog 147 l) : FitsL Go.Proofs.Tryz.prog 144 (unkTy :: unkTy :: ty146 :: l) :=
  .cons (fits_unk _ _) (.cons (fits_unk _ _) (.cons fits146 (r)))
theorem hT (t : Nat) : TyOk Go.Proofs.Tryz.prog t (T t) := by
  have h : FitsL Go.Proofs.Tryz.prog 0 tys := fitsL0 (fitsL16 (fitsL32 (fitsL48 (fitsL64 (fitsL80 (fitsL96 (fitsL112 (fitsL128 (fitsL144 (.nil _))))))))))
  have := h.get t
  rw [Nat.zero_add] at this
  exact this

section
open TK
@[simp, go_sem] theorem Tk1 : (T 1).kind = .other := rfl
@[simp, go_sem] theorem Ts1 : (T 1).size = 1 := rfl
@[simp, go_sem] theorem Tb1 : (T 1).bytes = 8 := rfl
@[simp, go_sem] theorem Tz1 : (T 1).zero = [Go.Value.nilFunc] := rfl
@[simp, go_sem] theorem Tk2 : (T 2).kind = .int .i64 := rfl
@[simp, go_sem] theorem Ts2 : (T 2).size = 1 := rfl
@[simp, go_sem] theorem Tb2 : (T 2).bytes = 8 := rfl
@[simp, go_sem] theorem Tz2 : (T 2).zero = [Go.Value.int Go.IntKind.i64 0] := rfl
@[simp, go_sem] theorem Tk3 : (T 3).kind = .int .i64 := rfl
@[simp, go_sem] theorem Ts3 : (T 3).size = 1 := rfl
@[simp, go_sem] theorem Tb3 : (T 3).bytes = 8 := rfl
@[simp, go_sem] theorem Tz3 : (T 3).zero = [Go.Value.int Go.IntKind.i64 0] := rfl
@[simp, go_sem] theorem Tk4 : (T 4).kind = .bool := rfl
@[simp, go_sem] theorem Ts4 : (T 4).size = 1 := rfl
@[simp, go_sem] theorem Tb4 : (T 4).bytes = 1 := rfl
@[simp, go_sem] theorem Tz4 : (T 4).zero = [Go.Value.bool false] := rfl
@[simp, go_sem] theorem Tk5 : (T 5).kind = .int .u8 := rfl
@[simp, go_sem] theorem Ts5 : (T 5).size = 1 := rfl
@[simp, go_sem] theorem Tb5 : (T 5).bytes = 1 := rfl
@[simp, go_sem] theorem Tz5 : (T 5).zero = [Go.Value.int Go.IntKind.u8 0] := rfl
@[simp, go_sem] theorem Tk9 : (T 9).kind = .str := rfl
@[simp, go_sem] theorem Ts9 : (T 9).size = 1 := rfl
@[simp, go_sem] theorem Tb9 : (T 9).bytes = 16 := rfl
@[simp, go_sem] theorem Tz9 : (T 9).zero = [Go.Value.string { data := #[] }] := rfl
@[simp, go_sem] theorem Tk20 : (T 20).kind = .other := rfl
@[simp, go_sem] theorem Ts20 : (T 20).size = 1 := rfl
@[simp, go_sem] theorem Tb20 : (T 20).bytes = 16 := rfl
@[simp, go_sem] theorem Tz20 : (T 20).zero = [Go.Value.nilIface] := rfl
@[simp, go_sem] theorem Tk22 : (T 22).kind = .slice 82 := rfl
@[simp, go_sem] theorem Ts22 : (T 22).size = 1 := rfl
@[simp, go_sem] theorem Tb22 : (T 22).bytes = 24 := rfl
@[simp, go_sem] theorem Tz22 : (T 22).zero = [Go.Value.slice none 0 0] := rfl
@[simp, go_sem] theorem Tk23 : (T 23).kind = .slice 88 := rfl
@[simp, go_sem] theorem Ts23 : (T 23).size = 1 := rfl
@[simp, go_sem] theorem Tb23 : (T 23).bytes = 24 := rfl
@[simp, go_sem] theorem Tz23 : (T 23).zero = [Go.Value.slice none 0 0] := rfl
@[simp, go_sem] theorem Tk25 : (T 25).kind = .struct [(0, 22), (1, 23), (2, 3)] := rfl
@[simp, go_sem] theorem Ts25 : (T 25).size = 3 := rfl
@[simp, go_sem] theorem Tb25 : (T 25).bytes = 56 := rfl
@[simp, go_sem] theorem Tz25 : (T 25).zero = [Go.Value.slice none 0 0, Go.Value.slice none 0 0, Go.Value.int Go.IntKind.i64 0] := rfl
@[simp, go_sem] theorem Tk26 : (T 26).kind = .slice 62 := rfl
@[simp, go_sem] theorem Ts26 : (T 26).size = 1 := rfl
@[simp, go_sem] theorem Tb26 : (T 26).bytes = 24 := rfl
@[simp, go_sem] theorem Tz26 : (T 26).zero = [Go.Value.slice none 0 0] := rfl
@[simp, go_sem] theorem Tk29 : (T 29).kind = .slice 3 := rfl
@[simp, go_sem] theorem Ts29 : (T 29).size = 1 := rfl
@[simp, go_sem] theorem Tb29 : (T 29).bytes = 24 := rfl
@[simp, go_sem] theorem Tz29 : (T 29).zero = [Go.Value.slice none 0 0] := rfl
@[simp, go_sem] theorem Tk31 : (T 31).kind = .struct [(0, 3), (1, 29), (2, 29)] := rfl
@[simp, go_sem] theorem Ts31 : (T 31).size = 3 := rfl
@[simp, go_sem] theorem Tb31 : (T 31).bytes = 56 := rfl
@[simp, go_sem] theorem Tz31 : (T 31).zero = [Go.Value.int Go.IntKind.i64 0, Go.Value.slice none 0 0, Go.Value.slice none 0 0] := rfl
@[simp, go_sem] theorem Tk34 : (T 34).kind = .slice 83 := rfl
@[simp, go_sem] theorem Ts34 : (T 34).size = 1 := rfl
@[simp, go_sem] theorem Tb34 : (T 34).bytes = 24 := rfl
@[simp, go_sem] theorem Tz34 : (T 34).zero = [Go.Value.slice none 0 0] := rfl
@[simp, go_sem] theorem Tk35 : (T 35).kind = .slice 86 := rfl
@[simp, go_sem] theorem Ts35 : (T 35).size = 1 := rfl
@[simp, go_sem] theorem Tb35 : (T 35).bytes = 24 := rfl
@[simp, go_sem] theorem Tz35 : (T 35).zero = [Go.Value.slice none 0 0] := rfl
@[simp, go_sem] theorem Tk37 : (T 37).kind = .struct [(0, 34), (1, 35), (2, 3)] := rfl
@[simp, go_sem] theorem Ts37 : (T 37).size = 3 := rfl
@[simp, go_sem] theorem Tb37 : (T 37).bytes = 56 := rfl
@[simp, go_sem] theorem Tz37 : (T 37).zero = [Go.Value.slice none 0 0, Go.Value.slice none 0 0, Go.Value.int Go.IntKind.i64 0] := rfl
@[simp, go_sem] theorem Tk39 : (T 39).kind = .slice 65 := rfl
@[simp, go_sem] theorem Ts39 : (T 39).size = 1 := rfl
@[simp, go_sem] theorem Tb39 : (T 39).bytes = 24 := rfl
@[simp, go_sem] theorem Tz39 : (T 39).zero = [Go.Value.slice none 0 0] := rfl
@[simp, go_sem] theorem Tk48 : (T 48).kind = .struct [(0, 3), (1, 29), (2, 29)] := rfl
@[simp, go_sem] theorem Ts48 : (T 48).size = 3 := rfl
@[simp, go_sem] theorem Tb48 : (T 48).bytes = 56 := rfl
@[simp, go_sem] theorem Tz48 : (T 48).zero = [Go.Value.int Go.IntKind.i64 0, Go.Value.slice none 0 0, Go.Value.slice none 0 0] := rfl
@[simp, go_sem] theorem Tk50 : (T 50).kind = .struct [(0, 25), (3, 48), (6, 4), (7, 26)] := rfl
@[simp, go_sem] theorem Ts50 : (T 50).size = 8 := rfl
@[simp, go_sem] theorem Tb50 : (T 50).bytes = 144 := rfl
@[simp, go_sem] theorem Tz50 : (T 50).zero = [Go.Value.slice none 0 0, Go.Value.slice none 0 0, Go.Value.int Go.IntKind.i64 0, Go.Value.int Go.IntKind.i64 0, Go.Value.slice none 0 0, Go.Value.slice none 0 0, Go.Value.bool false, Go.Value.slice none 0 0] := rfl
@[simp, go_sem] theorem Tk54 : (T 54).kind = .struct [(0, 37), (3, 31), (6, 4), (7, 39)] := rfl
@[simp, go_sem] theorem Ts54 : (T 54).size = 8 := rfl
@[simp, go_sem] theorem Tb54 : (T 54).bytes = 144 := rfl
@[simp, go_sem] theorem Tz54 : (T 54).zero = [Go.Value.slice none 0 0, Go.Value.slice none 0 0, Go.Value.int Go.IntKind.i64 0, Go.Value.int Go.IntKind.i64 0, Go.Value.slice none 0 0, Go.Value.slice none 0 0, Go.Value.bool false, Go.Value.slice none 0 0] := rfl
@[simp, go_sem] theorem Tk62 : (T 62).kind = .struct [(0, 3), (1, 29), (2, 29), (3, 29)] := rfl
@[simp, go_sem] theorem Ts62 : (T 62).size = 4 := rfl
@[simp, go_sem] theorem Tb62 : (T 62).bytes = 80 := rfl
@[simp, go_sem] theorem Tz62 : (T 62).zero = [Go.Value.int Go.IntKind.i64 0, Go.Value.slice none 0 0, Go.Value.slice none 0 0, Go.Value.slice none 0 0] := rfl
@[simp, go_sem] theorem Tk65 : (T 65).kind = .struct [(0, 3), (1, 29), (2, 29), (3, 29)] := rfl
@[simp, go_sem] theorem Ts65 : (T 65).size = 4 := rfl
@[simp, go_sem] theorem Tb65 : (T 65).bytes = 80 := rfl
@[simp, go_sem] theorem Tz65 : (T 65).zero = [Go.Value.int Go.IntKind.i64 0, Go.Value.slice none 0 0, Go.Value.slice none 0 0, Go.Value.slice none 0 0] := rfl
@[simp, go_sem] theorem Tk82 : (T 82).kind = .struct [(0, 9), (1, 29), (2, 3)] := rfl
@[simp, go_sem] theorem Ts82 : (T 82).size = 3 := rfl
@[simp, go_sem] theorem Tb82 : (T 82).bytes = 48 := rfl
@[simp, go_sem] theorem Tz82 : (T 82).zero = [Go.Value.string { data := #[] }, Go.Value.slice none 0 0, Go.Value.int Go.IntKind.i64 0] := rfl
@[simp, go_sem] theorem Tk83 : (T 83).kind = .struct [(0, 9), (1, 29), (2, 3)] := rfl
@[simp, go_sem] theorem Ts83 : (T 83).size = 3 := rfl
@[simp, go_sem] theorem Tb83 : (T 83).bytes = 48 := rfl
@[simp, go_sem] theorem Tz83 : (T 83).zero = [Go.Value.string { data := #[] }, Go.Value.slice none 0 0, Go.Value.int Go.IntKind.i64 0] := rfl
@[simp, go_sem] theorem Tk86 : (T 86).kind = .struct [(0, 3), (1, 3), (2, 3), (3, 3), (4, 4)] := rfl
@[simp, go_sem] theorem Ts86 : (T 86).size = 5 := rfl
@[simp, go_sem] theorem Tb86 : (T 86).bytes = 40 := rfl
@[simp, go_sem] theorem Tz86 : (T 86).zero = [Go.Value.int Go.IntKind.i64 0, Go.Value.int Go.IntKind.i64 0, Go.Value.int Go.IntKind.i64 0, Go.Value.int Go.IntKind.i64 0, Go.Value.bool false] := rfl
@[simp, go_sem] theorem Te86 : (T 86).eqs = some [(0, 3), (1, 3), (2, 3), (3, 3), (4, 4)] := rfl
@[simp, go_sem] theorem Tk88 : (T 88).kind = .struct [(0, 3), (1, 3), (2, 3), (3, 3), (4, 4)] := rfl
@[simp, go_sem] theorem Ts88 : (T 88).size = 5 := rfl
@[simp, go_sem] theorem Tb88 : (T 88).bytes = 40 := rfl
@[simp, go_sem] theorem Tz88 : (T 88).zero = [Go.Value.int Go.IntKind.i64 0, Go.Value.int Go.IntKind.i64 0, Go.Value.int Go.IntKind.i64 0, Go.Value.int Go.IntKind.i64 0, Go.Value.bool false] := rfl
@[simp, go_sem] theorem Te88 : (T 88).eqs = some [(0, 3), (1, 3), (2, 3), (3, 3), (4, 4)] := rfl
@[simp, go_sem] theorem Tk92 : (T 92).kind = .other := rfl
@[simp, go_sem] theorem Ts92 : (T 92).size = 1 := rfl
@[simp, go_sem] theorem Tb92 : (T 92).bytes = 8 := rfl
@[simp, go_sem] theorem Tz92 : (T 92).zero = [Go.Value.nilFunc] := rfl
@[simp, go_sem] theorem Tk95 : (T 95).kind = .slice 29 := rfl
@[simp, go_sem] theorem Ts95 : (T 95).size = 1 := rfl
@[simp, go_sem] theorem Tb95 : (T 95).bytes = 24 := rfl
@[simp, go_sem] theorem Tz95 : (T 95).zero = [Go.Value.slice none 0 0] := rfl
@[simp, go_sem] theorem Tk97 : (T 97).kind = .other := rfl
@[simp, go_sem] theorem Ts97 : (T 97).size = 1 := rfl
@[simp, go_sem] theorem Tb97 : (T 97).bytes = 8 := rfl
@[simp, go_sem] theorem Tz97 : (T 97).zero = [Go.Value.nilFunc] := rfl
@[simp, go_sem] theorem Tk111 : (T 111).kind = .other := rfl
@[simp, go_sem] theorem Ts111 : (T 111).size = 1 := rfl
@[simp, go_sem] theorem Tb111 : (T 111).bytes = 8 := rfl
@[simp, go_sem] theorem Tz111 : (T 111).zero = [Go.Value.nilFunc] := rfl
@[simp, go_sem] theorem Tk114 : (T 114).kind = .other := rfl
@[simp, go_sem] theorem Ts114 : (T 114).size = 1 := rfl
@[simp, go_sem] theorem Tb114 : (T 114).bytes = 8 := rfl
@[simp, go_sem] theorem Tz114 : (T 114).zero = [Go.Value.nilFunc] := rfl
@[simp, go_sem] theorem Tk117 : (T 117).kind = .int .u64 := rfl
@[simp, go_sem] theorem Ts117 : (T 117).size = 1 := rfl
@[simp, go_sem] theorem Tb117 : (T 117).bytes = 8 := rfl
@[simp, go_sem] theorem Tz117 : (T 117).zero = [Go.Value.int Go.IntKind.u64 0] := rfl
@[simp, go_sem] theorem Tk125 : (T 125).kind = .slice 5 := rfl
@[simp, go_sem] theorem Ts125 : (T 125).size = 1 := rfl
@[simp, go_sem] theorem Tb125 : (T 125).bytes = 24 := rfl
@[simp, go_sem] theorem Tz125 : (T 125).zero = [Go.Value.slice none 0 0] := rfl
@[simp, go_sem] theorem Tk130 : (T 130).kind = .int .u32 := rfl
@[simp, go_sem] theorem Ts130 : (T 130).size = 1 := rfl
@[simp, go_sem] theorem Tb130 : (T 130).bytes = 4 := rfl
@[simp, go_sem] theorem Tz130 : (T 130).zero = [Go.Value.int Go.IntKind.u32 0] := rfl
@[simp, go_sem] theorem Tk133 : (T 133).kind = .int .u64 := rfl
@[simp, go_sem] theorem Ts133 : (T 133).size = 1 := rfl
@[simp, go_sem] theorem Tb133 : (T 133).bytes = 8 := rfl
@[simp, go_sem] theorem Tz133 : (T 133).zero = [Go.Value.int Go.IntKind.u64 0] := rfl
@[simp, go_sem] theorem Tk146 : (T 146).kind = .int .i64 := rfl
@[simp, go_sem] theorem Ts146 : (T 146).size = 1 := rfl
@[simp, go_sem] theorem Tb146 : (T 146).bytes = 8 := rfl
@[simp, go_sem] theorem Tz146 : (T 146).zero = [Go.Value.int Go.IntKind.i64 0] := rfl
end

end Go.Proofs.YteijmljgodikiaaGreatZ
