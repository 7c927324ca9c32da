/- The types of the seat, and that they fit. Made by gentypes.py. -/
import Derived.Test.YtgmiaokdnpaglaaY31
import Derived.KernelRfl
import Derived.Test.YtgmiaokdnpaglaaProg
set_option linter.all false
namespace Go.Proofs.YtgmiaokdnpaglaaY
open Go

def unkTy : Ty := ⟨.unknown, 0, 0, [], none⟩
def ty2 : Ty := ⟨.int .i64, 1, 8, [Go.Value.int Go.IntKind.i64 0], none⟩
def ty3 : Ty := ⟨.int .i64, 1, 8, [Go.Value.int Go.IntKind.i64 0], none⟩
def ty4 : Ty := ⟨.bool, 1, 1, [Go.Value.bool false], none⟩
def ty5 : Ty := ⟨.int .u8, 1, 1, [Go.Value.int Go.IntKind.u8 0], none⟩
def ty9 : Ty := ⟨.str, 1, 16, [Go.Value.string { data := #[] }], none⟩
def ty20 : Ty := ⟨.other, 1, 16, [Go.Value.nilIface], none⟩
def ty21 : Ty := ⟨.int .i32, 1, 4, [Go.Value.int Go.IntKind.i32 0], none⟩
def ty22 : Ty := ⟨.slice 161, 1, 24, [Go.Value.slice none 0 0], none⟩
def ty23 : Ty := ⟨.slice 164, 1, 24, [Go.Value.slice none 0 0], none⟩
def ty24 : Ty := ⟨.struct [(0, 22), (1, 23), (2, 3)], 3, 56, [Go.Value.slice none 0 0, Go.Value.slice none 0 0, Go.Value.int Go.IntKind.i64 0], none⟩
def ty25 : Ty := ⟨.struct [(0, 22), (1, 23), (2, 3)], 3, 56, [Go.Value.slice none 0 0, Go.Value.slice none 0 0, Go.Value.int Go.IntKind.i64 0], none⟩
def ty26 : Ty := ⟨.slice 3, 1, 24, [Go.Value.slice none 0 0], none⟩
def ty29 : Ty := ⟨.slice 129, 1, 24, [Go.Value.slice none 0 0], none⟩
def ty30 : Ty := ⟨.slice 44, 1, 24, [Go.Value.slice none 0 0], none⟩
def ty31 : Ty := ⟨.struct [(0, 29), (1, 30), (2, 3)], 3, 56, [Go.Value.slice none 0 0, Go.Value.slice none 0 0, Go.Value.int Go.IntKind.i64 0], none⟩
def ty32 : Ty := ⟨.struct [(0, 29), (1, 30), (2, 3)], 3, 56, [Go.Value.slice none 0 0, Go.Value.slice none 0 0, Go.Value.int Go.IntKind.i64 0], none⟩
def ty40 : Ty := ⟨.slice 5, 1, 24, [Go.Value.slice none 0 0], none⟩
def ty43 : Ty := ⟨.struct [(0, 3), (1, 3), (2, 3), (3, 3), (4, 4)], 5, 40, [Go.Value.int Go.IntKind.i64 0, Go.Value.int Go.IntKind.i64 0, Go.Value.int Go.IntKind.i64 0, Go.Value.int Go.IntKind.i64 0, Go.Value.bool false], none⟩
def ty44 : Ty := ⟨.struct [(0, 3), (1, 3), (2, 3), (3, 3), (4, 4)], 5, 40, [Go.Value.int Go.IntKind.i64 0, Go.Value.int Go.IntKind.i64 0, Go.Value.int Go.IntKind.i64 0, Go.Value.int Go.IntKind.i64 0, Go.Value.bool false], some [(0, 3), (1, 3), (2, 3), (3, 3), (4, 4)]⟩
def ty53 : Ty := ⟨.struct [(0, 3), (1, 26), (2, 26)], 3, 56, [Go.Value.int Go.IntKind.i64 0, Go.Value.slice none 0 0, Go.Value.slice none 0 0], none⟩
def ty54 : Ty := ⟨.struct [(0, 3), (1, 26), (2, 26)], 3, 56, [Go.Value.int Go.IntKind.i64 0, Go.Value.slice none 0 0, Go.Value.slice none 0 0], none⟩
def ty55 : Ty := ⟨.slice 181, 1, 24, [Go.Value.slice none 0 0], none⟩
def ty56 : Ty := ⟨.struct [(0, 25), (3, 54), (6, 4), (7, 55)], 8, 144, [Go.Value.slice none 0 0, Go.Value.slice none 0 0, Go.Value.int Go.IntKind.i64 0, Go.Value.int Go.IntKind.i64 0, Go.Value.slice none 0 0, Go.Value.slice none 0 0, Go.Value.bool false, Go.Value.slice none 0 0], none⟩
def ty57 : Ty := ⟨.struct [(0, 25), (3, 54), (6, 4), (7, 55)], 8, 144, [Go.Value.slice none 0 0, Go.Value.slice none 0 0, Go.Value.int Go.IntKind.i64 0, Go.Value.int Go.IntKind.i64 0, Go.Value.slice none 0 0, Go.Value.slice none 0 0, Go.Value.bool false, Go.Value.slice none 0 0], none⟩
def ty60 : Ty := ⟨.struct [(0, 3), (1, 26), (2, 26)], 3, 56, [Go.Value.int Go.IntKind.i64 0, Go.Value.slice none 0 0, Go.Value.slice none 0 0], none⟩
def ty61 : Ty := ⟨.slice 136, 1, 24, [Go.Value.slice none 0 0], none⟩
def ty62 : Ty := ⟨.struct [(0, 32), (3, 60), (6, 4), (7, 61)], 8, 144, [Go.Value.slice none 0 0, Go.Value.slice none 0 0, Go.Value.int Go.IntKind.i64 0, Go.Value.int Go.IntKind.i64 0, Go.Value.slice none 0 0, Go.Value.slice none 0 0, Go.Value.bool false, Go.Value.slice none 0 0], none⟩
def ty63 : Ty := ⟨.struct [(0, 32), (3, 60), (6, 4), (7, 61)], 8, 144, [Go.Value.slice none 0 0, Go.Value.slice none 0 0, Go.Value.int Go.IntKind.i64 0, Go.Value.int Go.IntKind.i64 0, Go.Value.slice none 0 0, Go.Value.slice none 0 0, Go.Value.bool false, Go.Value.slice none 0 0], none⟩
def ty68 : Ty := ⟨.slice 145, 1, 24, [Go.Value.slice none 0 0], none⟩
def ty71 : Ty := ⟨.slice 143, 1, 24, [Go.Value.slice none 0 0], none⟩
def ty76 : Ty := ⟨.struct [(0, 3), (1, 3)], 2, 16, [Go.Value.int Go.IntKind.i64 0, Go.Value.int Go.IntKind.i64 0], none⟩
def ty77 : Ty := ⟨.struct [(0, 3), (1, 3)], 2, 16, [Go.Value.int Go.IntKind.i64 0, Go.Value.int Go.IntKind.i64 0], some [(0, 3), (1, 3)]⟩
def ty82 : Ty := ⟨.slice 197, 1, 24, [Go.Value.slice none 0 0], none⟩
def ty83 : Ty := ⟨.struct [(0, 82), (1, 26), (2, 3)], 3, 56, [Go.Value.slice none 0 0, Go.Value.slice none 0 0, Go.Value.int Go.IntKind.i64 0], none⟩
def ty84 : Ty := ⟨.struct [(0, 82), (1, 26), (2, 3)], 3, 56, [Go.Value.slice none 0 0, Go.Value.slice none 0 0, Go.Value.int Go.IntKind.i64 0], none⟩
def ty85 : Ty := ⟨.struct [(0, 84), (3, 63), (11, 71)], 12, 224, [Go.Value.slice none 0 0, Go.Value.slice none 0 0, Go.Value.int Go.IntKind.i64 0, Go.Value.slice none 0 0, Go.Value.slice none 0 0, Go.Value.int Go.IntKind.i64 0, Go.Value.int Go.IntKind.i64 0, Go.Value.slice none 0 0, Go.Value.slice none 0 0, Go.Value.bool false, Go.Value.slice none 0 0, Go.Value.slice none 0 0], none⟩
def ty86 : Ty := ⟨.struct [(0, 84), (3, 63), (11, 71)], 12, 224, [Go.Value.slice none 0 0, Go.Value.slice none 0 0, Go.Value.int Go.IntKind.i64 0, Go.Value.slice none 0 0, Go.Value.slice none 0 0, Go.Value.int Go.IntKind.i64 0, Go.Value.int Go.IntKind.i64 0, Go.Value.slice none 0 0, Go.Value.slice none 0 0, Go.Value.bool false, Go.Value.slice none 0 0, Go.Value.slice none 0 0], none⟩
def ty99 : Ty := ⟨.struct [(0, 26), (1, 26)], 2, 48, [Go.Value.slice none 0 0, Go.Value.slice none 0 0], none⟩
def ty100 : Ty := ⟨.struct [(0, 26), (1, 26)], 2, 48, [Go.Value.slice none 0 0, Go.Value.slice none 0 0], none⟩
def ty103 : Ty := ⟨.struct [(0, 26), (1, 26)], 2, 48, [Go.Value.slice none 0 0, Go.Value.slice none 0 0], none⟩
def ty121 : Ty := ⟨.other, 1, 8, [Go.Value.pointer none], none⟩
def ty128 : Ty := ⟨.struct [(0, 9), (1, 26), (2, 3)], 3, 48, [Go.Value.string { data := #[] }, Go.Value.slice none 0 0, Go.Value.int Go.IntKind.i64 0], none⟩
def ty129 : Ty := ⟨.struct [(0, 9), (1, 26), (2, 3)], 3, 48, [Go.Value.string { data := #[] }, Go.Value.slice none 0 0, Go.Value.int Go.IntKind.i64 0], none⟩
def ty132 : Ty := ⟨.other, 1, 8, [Go.Value.nilFunc], none⟩
def ty135 : Ty := ⟨.struct [(0, 3), (1, 26), (2, 26), (3, 26)], 4, 80, [Go.Value.int Go.IntKind.i64 0, Go.Value.slice none 0 0, Go.Value.slice none 0 0, Go.Value.slice none 0 0], none⟩
def ty136 : Ty := ⟨.struct [(0, 3), (1, 26), (2, 26), (3, 26)], 4, 80, [Go.Value.int Go.IntKind.i64 0, Go.Value.slice none 0 0, Go.Value.slice none 0 0, Go.Value.slice none 0 0], none⟩
def ty137 : Ty := ⟨.other, 1, 8, [Go.Value.nilFunc], none⟩
def ty142 : Ty := ⟨.struct [(0, 3), (1, 3)], 2, 16, [Go.Value.int Go.IntKind.i64 0, Go.Value.int Go.IntKind.i64 0], none⟩
def ty143 : Ty := ⟨.struct [(0, 3), (1, 3)], 2, 16, [Go.Value.int Go.IntKind.i64 0, Go.Value.int Go.IntKind.i64 0], some [(0, 3), (1, 3)]⟩
def ty145 : Ty := ⟨.struct [(0, 3), (1, 3)], 2, 16, [Go.Value.int Go.IntKind.i64 0, Go.Value.int Go.IntKind.i64 0], some [(0, 3), (1, 3)]⟩
def ty147 : Ty := ⟨.other, 1, 8, [Go.Value.nilFunc], none⟩
def ty161 : Ty := ⟨.struct [(0, 9), (1, 26), (2, 3)], 3, 48, [Go.Value.string { data := #[] }, Go.Value.slice none 0 0, Go.Value.int Go.IntKind.i64 0], none⟩
def ty164 : Ty := ⟨.struct [(0, 3), (1, 3), (2, 3), (3, 3), (4, 4)], 5, 40, [Go.Value.int Go.IntKind.i64 0, Go.Value.int Go.IntKind.i64 0, Go.Value.int Go.IntKind.i64 0, Go.Value.int Go.IntKind.i64 0, Go.Value.bool false], some [(0, 3), (1, 3), (2, 3), (3, 3), (4, 4)]⟩
def ty165 : Ty := ⟨.other, 1, 8, [Go.Value.nilFunc], none⟩
def ty170 : Ty := ⟨.struct [(0, 40), (1, 3), (2, 3)], 3, 40, [Go.Value.slice none 0 0, Go.Value.int Go.IntKind.i64 0, Go.Value.int Go.IntKind.i64 0], none⟩
def ty171 : Ty := ⟨.struct [(0, 40), (1, 3), (2, 3)], 3, 40, [Go.Value.slice none 0 0, Go.Value.int Go.IntKind.i64 0, Go.Value.int Go.IntKind.i64 0], none⟩
def ty173 : Ty := ⟨.other, 1, 8, [Go.Value.nilFunc], none⟩
def ty174 : Ty := ⟨.int .u64, 1, 8, [Go.Value.int Go.IntKind.u64 0], none⟩
def ty176 : Ty := ⟨.other, 1, 8, [Go.Value.nilFunc], none⟩
def ty181 : Ty := ⟨.struct [(0, 3), (1, 26), (2, 26), (3, 26)], 4, 80, [Go.Value.int Go.IntKind.i64 0, Go.Value.slice none 0 0, Go.Value.slice none 0 0, Go.Value.slice none 0 0], none⟩
def ty191 : Ty := ⟨.slice 9, 1, 24, [Go.Value.slice none 0 0], none⟩
def ty196 : Ty := ⟨.struct [(0, 9), (1, 3), (2, 4), (3, 3), (4, 3), (5, 3), (6, 3), (7, 4), (8, 3), (9, 3), (10, 3)], 11, 96, [Go.Value.string { data := #[] }, Go.Value.int Go.IntKind.i64 0, Go.Value.bool false, Go.Value.int Go.IntKind.i64 0, Go.Value.int Go.IntKind.i64 0, Go.Value.int Go.IntKind.i64 0, Go.Value.int Go.IntKind.i64 0, Go.Value.bool false, Go.Value.int Go.IntKind.i64 0, Go.Value.int Go.IntKind.i64 0, Go.Value.int Go.IntKind.i64 0], none⟩
def ty197 : Ty := ⟨.struct [(0, 9), (1, 3), (2, 4), (3, 3), (4, 3), (5, 3), (6, 3), (7, 4), (8, 3), (9, 3), (10, 3)], 11, 96, [Go.Value.string { data := #[] }, Go.Value.int Go.IntKind.i64 0, Go.Value.bool false, Go.Value.int Go.IntKind.i64 0, Go.Value.int Go.IntKind.i64 0, Go.Value.int Go.IntKind.i64 0, Go.Value.int Go.IntKind.i64 0, Go.Value.bool false, Go.Value.int Go.IntKind.i64 0, Go.Value.int Go.IntKind.i64 0, Go.Value.int Go.IntKind.i64 0], some [(0, 9), (1, 3), (2, 4), (3, 3), (4, 3), (5, 3), (6, 3), (7, 4), (8, 3), (9, 3), (10, 3)]⟩
def ty200 : Ty := ⟨.int .u32, 1, 4, [Go.Value.int Go.IntKind.u32 0], none⟩
def ty203 : Ty := ⟨.int .u64, 1, 8, [Go.Value.int Go.IntKind.u64 0], none⟩
def ty216 : Ty := ⟨.other, 1, 8, [Go.Value.pointer none], none⟩
def tys : List Ty := [unkTy, unkTy, ty2, ty3, ty4, ty5, unkTy, unkTy, unkTy, ty9, unkTy, unkTy, unkTy, unkTy, unkTy, unkTy, unkTy, unkTy, unkTy, unkTy, ty20, ty21, ty22, ty23, ty24, ty25, ty26, unkTy, unkTy, ty29, ty30, ty31, ty32, unkTy, unkTy, unkTy, unkTy, unkTy, unkTy, unkTy, ty40, unkTy, unkTy, ty43, ty44, unkTy, unkTy, unkTy, unkTy, unkTy, unkTy, unkTy, unkTy, ty53, ty54, ty55, ty56, ty57, unkTy, unkTy, ty60, ty61, ty62, ty63, unkTy, unkTy, unkTy, unkTy, ty68, unkTy, unkTy, ty71, unkTy, unkTy, unkTy, unkTy, ty76, ty77, unkTy, unkTy, unkTy, unkTy, ty82, ty83, ty84, ty85, ty86, unkTy, unkTy, unkTy, unkTy, unkTy, unkTy, unkTy, unkTy, unkTy, unkTy, unkTy, unkTy, ty99, ty100, unkTy, unkTy, ty103, unkTy, unkTy, unkTy, unkTy, unkTy, unkTy, unkTy, unkTy, unkTy, unkTy, unkTy, unkTy, unkTy, unkTy, unkTy, unkTy, unkTy, ty121, unkTy, unkTy, unkTy, unkTy, unkTy, unkTy, ty128, ty129, unkTy, unkTy, ty132, unkTy, unkTy, ty135, ty136, ty137, unkTy, unkTy, unkTy, unkTy, ty142, ty143, unkTy, ty145, unkTy, ty147, unkTy, unkTy, unkTy, unkTy, unkTy, unkTy, unkTy, unkTy, unkTy, unkTy, unkTy, unkTy, unkTy, ty161, unkTy, unkTy, ty164, ty165, unkTy, unkTy, unkTy, unkTy, ty170, ty171, unkTy, ty173, ty174, unkTy, ty176, unkTy, unkTy, unkTy, unkTy, ty181, unkTy, unkTy, unkTy, unkTy, unkTy, unkTy, unkTy, unkTy, unkTy, ty191, unkTy, unkTy, unkTy, unkTy, ty196, ty197, unkTy, unkTy, ty200, unkTy, unkTy, ty203, unkTy, unkTy, unkTy, unkTy, unkTy, unkTy, unkTy, unkTy, unkTy, unkTy, unkTy, unkTy, ty216]
def T (t : Nat) : Ty := tys.getD t unkTy

inductive FitsL (P : Program) : Nat → List Ty → Prop
  | nil (k : Nat) : FitsL P k []
  | cons {k : Nat} {ty : Ty} {l : List Ty} (h : TyOk P k ty) (r : FitsL P (k + 1) l) : FitsL P k (ty :: l)

theorem FitsL.get {P : Program} : ∀ {l : List Ty} {k : Nat}, FitsL P k l → ∀ i, TyOk P (k + i) (l.getD i unkTy)
  | _, _, .nil _, i => by simp [unkTy, TyOk]
  | _, _, .cons h r, 0 => h
  | _, _, .cons (k := k) h r, i + 1 => by
    have := r.get i
    rw [show k + 1 + i = k + (i + 1) by omega] at this
    simpa using this

theorem fits_unk (P : Program) (t : Nat) : TyOk P t unkTy := by simp [unkTy, TyOk]

theorem fits_of {P : Program} {t : Nat} {ty : Ty} {i : TypeInfo} {z : Value} (hs : t < P.types.size) (h1 : P.types[t]? = some i) (h2 : i.zero = some z) (h : i.size = ty.size ∧ i.bytes = ty.bytes ∧ z.cells.toList = ty.zero ∧ ty.zero.length = ty.size) (h3 : ty.zero.all (fun v => v.oneCell') = true) (h4 : kindOk P t ty.kind) (h5 : ∀ fs, ty.eqs = some fs → ∃ fields : Array Field, P.underlying t = some (.struct fields) ∧ fields.toList.map (fun f => (f.offset, f.type)) = fs ∧ (∀ f, f ∈ fields.toList → f.name ≠ "_") ∧ P.stoodInHeld t = false ∧ P.eqGuardType P.depth t = false) : TyOk P t ty := by
  unfold TyOk
  split
  · trivial
  · exact ⟨⟨i, z, (by unfold Tables.info?; rw [if_pos hs]; exact h1), h.1, h.2.1, h2, h.2.2.1, h.2.2.2⟩, fun v hv => List.all_eq_true.1 h3 v hv, h4, h5⟩

theorem fits2 : TyOk Go.Proofs.Try.prog 2 ty2 := fits_of (i := Go.Proofs.Try.t2) (by rw [Go.Proofs.Try.types_size]; decide) Go.Proofs.Try.type2 rfl ⟨rfl, rfl, rfl, rfl⟩ rfl (by exact Go.Proofs.Try.underlying2) (by intro fs h; cases h)
theorem fits3 : TyOk Go.Proofs.Try.prog 3 ty3 := fits_of (i := Go.Proofs.Try.t3) (by rw [Go.Proofs.Try.types_size]; decide) Go.Proofs.Try.type3 rfl ⟨rfl, rfl, rfl, rfl⟩ rfl (by exact Go.Proofs.Try.underlying3) (by intro fs h; cases h)
theorem fits4 : TyOk Go.Proofs.Try.prog 4 ty4 := fits_of (i := Go.Proofs.Try.t4) (by rw [Go.Proofs.Try.types_size]; decide) Go.Proofs.Try.type4 rfl ⟨rfl, rfl, rfl, rfl⟩ rfl (by exact Go.Proofs.Try.underlying4) (by intro fs h; cases h)
theorem fits5 : TyOk Go.Proofs.Try.prog 5 ty5 := fits_of (i := Go.Proofs.Try.t5) (by rw [Go.Proofs.Try.types_size]; decide) Go.Proofs.Try.type5 rfl ⟨rfl, rfl, rfl, rfl⟩ rfl (by exact Go.Proofs.Try.underlying5) (by intro fs h; cases h)
theorem fits9 : TyOk Go.Proofs.Try.prog 9 ty9 := fits_of (i := Go.Proofs.Try.t9) (by rw [Go.Proofs.Try.types_size]; decide) Go.Proofs.Try.type9 rfl ⟨rfl, rfl, rfl, rfl⟩ rfl (by exact Go.Proofs.Try.underlying9) (by intro fs h; cases h)
theorem fits20 : TyOk Go.Proofs.Try.prog 20 ty20 := fits_of (i := Go.Proofs.Try.t20) (by rw [Go.Proofs.Try.types_size]; decide) Go.Proofs.Try.type20 rfl ⟨rfl, rfl, rfl, rfl⟩ rfl (by exact ⟨_, Go.Proofs.Try.underlying20, rfl⟩) (by intro fs h; cases h)
theorem fits21 : TyOk Go.Proofs.Try.prog 21 ty21 := fits_of (i := Go.Proofs.Try.t21) (by rw [Go.Proofs.Try.types_size]; decide) Go.Proofs.Try.type21 rfl ⟨rfl, rfl, rfl, rfl⟩ rfl (by exact Go.Proofs.Try.underlying21) (by intro fs h; cases h)
theorem fits22 : TyOk Go.Proofs.Try.prog 22 ty22 := fits_of (i := Go.Proofs.Try.t22) (by rw [Go.Proofs.Try.types_size]; decide) Go.Proofs.Try.type22 rfl ⟨rfl, rfl, rfl, rfl⟩ rfl (by exact Go.Proofs.Try.underlying22) (by intro fs h; cases h)
theorem fits23 : TyOk Go.Proofs.Try.prog 23 ty23 := fits_of (i := Go.Proofs.Try.t23) (by rw [Go.Proofs.Try.types_size]; decide) Go.Proofs.Try.type23 rfl ⟨rfl, rfl, rfl, rfl⟩ rfl (by exact Go.Proofs.Try.underlying23) (by intro fs h; cases h)
theorem fits24 : TyOk Go.Proofs.Try.prog 24 ty24 := fits_of (i := Go.Proofs.Try.t24) (by rw [Go.Proofs.Try.types_size]; decide) Go.Proofs.Try.type24 rfl ⟨rfl, rfl, rfl, rfl⟩ rfl (by exact ⟨_, Go.Proofs.Try.underlying24, rfl⟩) (by intro fs h; cases h)
theorem fits25 : TyOk Go.Proofs.Try.prog 25 ty25 := fits_of (i := Go.Proofs.Try.t25) (by rw [Go.Proofs.Try.types_size]; decide) Go.Proofs.Try.type25 rfl ⟨rfl, rfl, rfl, rfl⟩ rfl (by exact ⟨_, Go.Proofs.Try.underlying25, rfl⟩) (by intro fs h; cases h)
theorem fits26 : TyOk Go.Proofs.Try.prog 26 ty26 := fits_of (i := Go.Proofs.Try.t26) (by rw [Go.Proofs.Try.types_size]; decide) Go.Proofs.Try.type26 rfl ⟨rfl, rfl, rfl, rfl⟩ rfl (by exact Go.Proofs.Try.underlying26) (by intro fs h; cases h)
theorem fits29 : TyOk Go.Proofs.Try.prog 29 ty29 := fits_of (i := Go.Proofs.Try.t29) (by rw [Go.Proofs.Try.types_size]; decide) Go.Proofs.Try.type29 rfl ⟨rfl, rfl, rfl, rfl⟩ rfl (by exact Go.Proofs.Try.underlying29) (by intro fs h; cases h)
theorem fits30 : TyOk Go.Proofs.Try.prog 30 ty30 := fits_of (i := Go.Proofs.Try.t30) (by rw [Go.Proofs.Try.types_size]; decide) Go.Proofs.Try.type30 rfl ⟨rfl, rfl, rfl, rfl⟩ rfl (by exact Go.Proofs.Try.underlying30) (by intro fs h; cases h)
theorem fits31 : TyOk Go.Proofs.Try.prog 31 ty31 := fits_of (i := Go.Proofs.Try.t31) (by rw [Go.Proofs.Try.types_size]; decide) Go.Proofs.Try.type31 rfl ⟨rfl, rfl, rfl, rfl⟩ rfl (by exact ⟨_, Go.Proofs.Try.underlying31, rfl⟩) (by intro fs h; cases h)
theorem fits32 : TyOk Go.Proofs.Try.prog 32 ty32 := fits_of (i := Go.Proofs.Try.t32) (by rw [Go.Proofs.Try.types_size]; decide) Go.Proofs.Try.type32 rfl ⟨rfl, rfl, rfl, rfl⟩ rfl (by exact ⟨_, Go.Proofs.Try.underlying32, rfl⟩) (by intro fs h; cases h)
theorem fits40 : TyOk Go.Proofs.Try.prog 40 ty40 := fits_of (i := Go.Proofs.Try.t40) (by rw [Go.Proofs.Try.types_size]; decide) Go.Proofs.Try.type40 rfl ⟨rfl, rfl, rfl, rfl⟩ rfl (by exact Go.Proofs.Try.underlying40) (by intro fs h; cases h)
theorem fits43 : TyOk Go.Proofs.Try.prog 43 ty43 := fits_of (i := Go.Proofs.Try.t43) (by rw [Go.Proofs.Try.types_size]; decide) Go.Proofs.Try.type43 rfl ⟨rfl, rfl, rfl, rfl⟩ rfl (by exact ⟨_, Go.Proofs.Try.underlying43, rfl⟩) (by intro fs h; cases h)
theorem fits44 : TyOk Go.Proofs.Try.prog 44 ty44 := fits_of (i := Go.Proofs.Try.t44) (by rw [Go.Proofs.Try.types_size]; decide) Go.Proofs.Try.type44 rfl ⟨rfl, rfl, rfl, rfl⟩ rfl (by exact ⟨_, Go.Proofs.Try.underlying44, rfl⟩) (by intro fs h; cases h; exact ⟨_, Go.Proofs.Try.underlying44, rfl, by decide, by kernel_rfl, by kernel_rfl⟩)
theorem fits53 : TyOk Go.Proofs.Try.prog 53 ty53 := fits_of (i := Go.Proofs.Try.t53) (by rw [Go.Proofs.Try.types_size]; decide) Go.Proofs.Try.type53 rfl ⟨rfl, rfl, rfl, rfl⟩ rfl (by exact ⟨_, Go.Proofs.Try.underlying53, rfl⟩) (by intro fs h; cases h)
theorem fits54 : TyOk Go.Proofs.Try.prog 54 ty54 := fits_of (i := Go.Proofs.Try.t54) (by rw [Go.Proofs.Try.types_size]; decide) Go.Proofs.Try.type54 rfl ⟨rfl, rfl, rfl, rfl⟩ rfl (by exact ⟨_, Go.Proofs.Try.underlying54, rfl⟩) (by intro fs h; cases h)
theorem fits55 : TyOk Go.Proofs.Try.prog 55 ty55 := fits_of (i := Go.Proofs.Try.t55) (by rw [Go.Proofs.Try.types_size]; decide) Go.Proofs.Try.type55 rfl ⟨rfl, rfl, rfl, rfl⟩ rfl (by exact Go.Proofs.Try.underlying55) (by intro fs h; cases h)
theorem fits56 : TyOk Go.Proofs.Try.prog 56 ty56 := fits_of (i := Go.Proofs.Try.t56) (by rw [Go.Proofs.Try.types_size]; decide) Go.Proofs.Try.type56 rfl ⟨rfl, rfl, rfl, rfl⟩ rfl (by exact ⟨_, Go.Proofs.Try.underlying56, rfl⟩) (by intro fs h; cases h)
theorem fits57 : TyOk Go.Proofs.Try.prog 57 ty57 := fits_of (i := Go.Proofs.Try.t57) (by rw [Go.Proofs.Try.types_size]; decide) Go.Proofs.Try.type57 rfl ⟨rfl, rfl, rfl, rfl⟩ rfl (by exact ⟨_, Go.Proofs.Try.underlying57, rfl⟩) (by intro fs h; cases h)
theorem fits60 : TyOk Go.Proofs.Try.prog 60 ty60 := fits_of (i := Go.Proofs.Try.t60) (by rw [Go.Proofs.Try.types_size]; decide) Go.Proofs.Try.type60 rfl ⟨rfl, rfl, rfl, rfl⟩ rfl (by exact ⟨_, Go.Proofs.Try.underlying60, rfl⟩) (by intro fs h; cases h)
theorem fits61 : TyOk Go.Proofs.Try.prog 61 ty61 := fits_of (i := Go.Proofs.Try.t61) (by rw [Go.Proofs.Try.types_size]; decide) Go.Proofs.Try.type61 rfl ⟨rfl, rfl, rfl, rfl⟩ rfl (by exact Go.Proofs.Try.underlying61) (by intro fs h; cases h)
theorem fits62 : TyOk Go.Proofs.Try.prog 62 ty62 := fits_of (i := Go.Proofs.Try.t62) (by rw [Go.Proofs.Try.types_size]; decide) Go.Proofs.Try.type62 rfl ⟨rfl, rfl, rfl, rfl⟩ rfl (by exact ⟨_, Go.Proofs.Try.underlying62, rfl⟩) (by intro fs h; cases h)
theorem fits63 : TyOk Go.Proofs.Try.prog 63 ty63 := fits_of (i := Go.Proofs.Try.t63) (by rw [Go.Proofs.Try.types_size]; decide) Go.Proofs.Try.type63 rfl ⟨rfl, rfl, rfl, rfl⟩ rfl (by exact ⟨_, Go.Proofs.Try.underlying63, rfl⟩) (by intro fs h; cases h)
theorem fits68 : TyOk Go.Proofs.Try.prog 68 ty68 := fits_of (i := Go.Proofs.Try.t68) (by rw [Go.Proofs.Try.types_size]; decide) Go.Proofs.Try.type68 rfl ⟨rfl, rfl, rfl, rfl⟩ rfl (by exact Go.Proofs.Try.underlying68) (by intro fs h; cases h)
theorem fits71 : TyOk Go.Proofs.Try.prog 71 ty71 := fits_of (i := Go.Proofs.Try.t71) (by rw [Go.Proofs.Try.types_size]; decide) Go.Proofs.Try.type71 rfl ⟨rfl, rfl, rfl, rfl⟩ rfl (by exact Go.Proofs.Try.underlying71) (by intro fs h; cases h)
theorem fits76 : TyOk Go.Proofs.Try.prog 76 ty76 := fits_of (i := Go.Proofs.Try.t76) (by rw [Go.Proofs.Try.types_size]; decide) Go.Proofs.Try.type76 rfl ⟨rfl, rfl, rfl, rfl⟩ rfl (by exact ⟨_, Go.Proofs.Try.underlying76, rfl⟩) (by intro fs h; cases h)
theorem fits77 : TyOk Go.Proofs.Try.prog 77 ty77 := fits_of (i := Go.Proofs.Try.t77) (by rw [Go.Proofs.Try.types_size]; decide) Go.Proofs.Try.type77 rfl ⟨rfl, rfl, rfl, rfl⟩ rfl (by exact ⟨_, Go.Proofs.Try.underlying77, rfl⟩) (by intro fs h; cases h; exact ⟨_, Go.Proofs.Try.underlying77, rfl, by decide, by kernel_rfl, by kernel_rfl⟩)
theorem fits82 : TyOk Go.Proofs.Try.prog 82 ty82 := fits_of (i := Go.Proofs.Try.t82) (by rw [Go.Proofs.Try.types_size]; decide) Go.Proofs.Try.type82 rfl ⟨rfl, rfl, rfl, rfl⟩ rfl (by exact Go.Proofs.Try.underlying82) (by intro fs h; cases h)
theorem fits83 : TyOk Go.Proofs.Try.prog 83 ty83 := fits_of (i := Go.Proofs.Try.t83) (by rw [Go.Proofs.Try.types_size]; decide) Go.Proofs.Try.type83 rfl ⟨rfl, rfl, rfl, rfl⟩ rfl (by exact ⟨_, Go.Proofs.Try.underlying83, rfl⟩) (by intro fs h; cases h)
theorem fits84 : TyOk Go.Proofs.Try.prog 84 ty84 := fits_of (i := Go.Proofs.Try.t84) (by rw [Go.Proofs.Try.types_size]; decide) Go.Proofs.Try.type84 rfl ⟨rfl, rfl, rfl, rfl⟩ rfl (by exact ⟨_, Go.Proofs.Try.underlying84, rfl⟩) (by intro fs h; cases h)
theorem fits85 : TyOk Go.Proofs.Try.prog 85 ty85 := fits_of (i := Go.Proofs.Try.t85) (by rw [Go.Proofs.Try.types_size]; decide) Go.Proofs.Try.type85 rfl ⟨rfl, rfl, rfl, rfl⟩ rfl (by exact ⟨_, Go.Proofs.Try.underlying85, rfl⟩) (by intro fs h; cases h)
theorem fits86 : TyOk Go.Proofs.Try.prog 86 ty86 := fits_of (i := Go.Proofs.Try.t86) (by rw [Go.Proofs.Try.types_size]; decide) Go.Proofs.Try.type86 rfl ⟨rfl, rfl, rfl, rfl⟩ rfl (by exact ⟨_, Go.Proofs.Try.underlying86, rfl⟩) (by intro fs h; cases h)
theorem fits99 : TyOk Go.Proofs.Try.prog 99 ty99 := fits_of (i := Go.Proofs.Try.t99) (by rw [Go.Proofs.Try.types_size]; decide) Go.Proofs.Try.type99 rfl ⟨rfl, rfl, rfl, rfl⟩ rfl (by exact ⟨_, Go.Proofs.Try.underlying99, rfl⟩) (by intro fs h; cases h)
theorem fits100 : TyOk Go.Proofs.Try.prog 100 ty100 := fits_of (i := Go.Proofs.Try.t100) (by rw [Go.Proofs.Try.types_size]; decide) Go.Proofs.Try.type100 rfl ⟨rfl, rfl, rfl, rfl⟩ rfl (by exact ⟨_, Go.Proofs.Try.underlying100, rfl⟩) (by intro fs h; cases h)
theorem fits103 : TyOk Go.Proofs.Try.prog 103 ty103 := fits_of (i := Go.Proofs.Try.t103) (by rw [Go.Proofs.Try.types_size]; decide) Go.Proofs.Try.type103 rfl ⟨rfl, rfl, rfl, rfl⟩ rfl (by exact ⟨_, Go.Proofs.Try.underlying103, rfl⟩) (by intro fs h; cases h)
theorem fits121 : TyOk Go.Proofs.Try.prog 121 ty121 := fits_of (i := Go.Proofs.Try.t121) (by rw [Go.Proofs.Try.types_size]; decide) Go.Proofs.Try.type121 rfl ⟨rfl, rfl, rfl, rfl⟩ rfl (by exact ⟨_, Go.Proofs.Try.underlying121, rfl⟩) (by intro fs h; cases h)
theorem fits128 : TyOk Go.Proofs.Try.prog 128 ty128 := fits_of (i := Go.Proofs.Try.t128) (by rw [Go.Proofs.Try.types_size]; decide) Go.Proofs.Try.type128 rfl ⟨rfl, rfl, rfl, rfl⟩ rfl (by exact ⟨_, Go.Proofs.Try.underlying128, rfl⟩) (by intro fs h; cases h)
theorem fits129 : TyOk Go.Proofs.Try.prog 129 ty129 := fits_of (i := Go.Proofs.Try.t129) (by rw [Go.Proofs.Try.types_size]; decide) Go.Proofs.Try.type129 rfl ⟨rfl, rfl, rfl, rfl⟩ rfl (by exact ⟨_, Go.Proofs.Try.underlying129, rfl⟩) (by intro fs h; cases h)
theorem fits132 : TyOk Go.Proofs.Try.prog 132 ty132 := fits_of (i := Go.Proofs.Try.t132) (by rw [Go.Proofs.Try.types_size]; decide) Go.Proofs.Try.type132 rfl ⟨rfl, rfl, rfl, rfl⟩ rfl (by exact ⟨_, Go.Proofs.Try.underlying132, rfl⟩) (by intro fs h; cases h)
theorem fits135 : TyOk Go.Proofs.Try.prog 135 ty135 := fits_of (i := Go.Proofs.Try.t135) (by rw [Go.Proofs.Try.types_size]; decide) Go.Proofs.Try.type135 rfl ⟨rfl, rfl, rfl, rfl⟩ rfl (by exact ⟨_, Go.Proofs.Try.underlying135, rfl⟩) (by intro fs h; cases h)
theorem fits136 : TyOk Go.Proofs.Try.prog 136 ty136 := fits_of (i := Go.Proofs.Try.t136) (by rw [Go.Proofs.Try.types_size]; decide) Go.Proofs.Try.type136 rfl ⟨rfl, rfl, rfl, rfl⟩ rfl (by exact ⟨_, Go.Proofs.Try.underlying136, rfl⟩) (by intro fs h; cases h)
theorem fits137 : TyOk Go.Proofs.Try.prog 137 ty137 := fits_of (i := Go.Proofs.Try.t137) (by rw [Go.Proofs.Try.types_size]; decide) Go.Proofs.Try.type137 rfl ⟨rfl, rfl, rfl, rfl⟩ rfl (by exact ⟨_, Go.Proofs.Try.underlying137, rfl⟩) (by intro fs h; cases h)
theorem fits142 : TyOk Go.Proofs.Try.prog 142 ty142 := fits_of (i := Go.Proofs.Try.t142) (by rw [Go.Proofs.Try.types_size]; decide) Go.Proofs.Try.type142 rfl ⟨rfl, rfl, rfl, rfl⟩ rfl (by exact ⟨_, Go.Proofs.Try.underlying142, rfl⟩) (by intro fs h; cases h)
theorem fits143 : TyOk Go.Proofs.Try.prog 143 ty143 := fits_of (i := Go.Proofs.Try.t143) (by rw [Go.Proofs.Try.types_size]; decide) Go.Proofs.Try.type143 rfl ⟨rfl, rfl, rfl, rfl⟩ rfl (by exact ⟨_, Go.Proofs.Try.underlying143, rfl⟩) (by intro fs h; cases h; exact ⟨_, Go.Proofs.Try.underlying143, rfl, by decide, by kernel_rfl, by kernel_rfl⟩)
theorem fits145 : TyOk Go.Proofs.Try.prog 145 ty145 := fits_of (i := Go.Proofs.Try.t145) (by rw [Go.Proofs.Try.types_size]; decide) Go.Proofs.Try.type145 rfl ⟨rfl, rfl, rfl, rfl⟩ rfl (by exact ⟨_, Go.Proofs.Try.underlying145, rfl⟩) (by intro fs h; cases h; exact ⟨_, Go.Proofs.Try.underlying145, rfl, by decide, by kernel_rfl, by kernel_rfl⟩)
theorem fits147 : TyOk Go.Proofs.Try.prog 147 ty147 := fits_of (i := Go.Proofs.Try.t147) (by rw [Go.Proofs.Try.types_size]; decide) Go.Proofs.Try.type147 rfl ⟨rfl, rfl, rfl, rfl⟩ rfl (by exact ⟨_, Go.Proofs.Try.underlying147, rfl⟩) (by intro fs h; cases h)
theorem fits161 : TyOk Go.Proofs.Try.prog 161 ty161 := fits_of (i := Go.Proofs.Try.t161) (by rw [Go.Proofs.Try.types_size]; decide) Go.Proofs.Try.type161 rfl ⟨rfl, rfl, rfl, rfl⟩ rfl (by exact ⟨_, Go.Proofs.Try.underlying161, rfl⟩) (by intro fs h; cases h)
theorem fits164 : TyOk Go.Proofs.Try.prog 164 ty164 := fits_of (i := Go.Proofs.Try.t164) (by rw [Go.Proofs.Try.types_size]; decide) Go.Proofs.Try.type164 rfl ⟨rfl, rfl, rfl, rfl⟩ rfl (by exact ⟨_, Go.Proofs.Try.underlying164, rfl⟩) (by intro fs h; cases h; exact ⟨_, Go.Proofs.Try.underlying164, rfl, by decide, by kernel_rfl, by kernel_rfl⟩)
theorem fits165 : TyOk Go.Proofs.Try.prog 165 ty165 := fits_of (i := Go.Proofs.Try.t165) (by rw [Go.Proofs.Try.types_size]; decide) Go.Proofs.Try.type165 rfl ⟨rfl, rfl, rfl, rfl⟩ rfl (by exact ⟨_, Go.Proofs.Try.underlying165, rfl⟩) (by intro fs h; cases h)
theorem fits170 : TyOk Go.Proofs.Try.prog 170 ty170 := fits_of (i := Go.Proofs.Try.t170) (by rw [Go.Proofs.Try.types_size]; decide) Go.Proofs.Try.type170 rfl ⟨rfl, rfl, rfl, rfl⟩ rfl (by exact ⟨_, Go.Proofs.Try.underlying170, rfl⟩) (by intro fs h; cases h)
theorem fits171 : TyOk Go.Proofs.Try.prog 171 ty171 := fits_of (i := Go.Proofs.Try.t171) (by rw [Go.Proofs.Try.types_size]; decide) Go.Proofs.Try.type171 rfl ⟨rfl, rfl, rfl, rfl⟩ rfl (by exact ⟨_, Go.Proofs.Try.underlying171, rfl⟩) (by intro fs h; cases h)
theorem fits173 : TyOk Go.Proofs.Try.prog 173 ty173 := fits_of (i := Go.Proofs.Try.t173) (by rw [Go.Proofs.Try.types_size]; decide) Go.Proofs.Try.type173 rfl ⟨rfl, rfl, rfl, rfl⟩ rfl (by exact ⟨_, Go.Proofs.Try.underlying173, rfl⟩) (by intro fs h; cases h)
theorem fits174 : TyOk Go.Proofs.Try.prog 174 ty174 := fits_of (i := Go.Proofs.Try.t174) (by rw [Go.Proofs.Try.types_size]; decide) Go.Proofs.Try.type174 rfl ⟨rfl, rfl, rfl, rfl⟩ rfl (by exact Go.Proofs.Try.underlying174) (by intro fs h; cases h)
theorem fits176 : TyOk Go.Proofs.Try.prog 176 ty176 := fits_of (i := Go.Proofs.Try.t176) (by rw [Go.Proofs.Try.types_size]; decide) Go.Proofs.Try.type176 rfl ⟨rfl, rfl, rfl, rfl⟩ rfl (by exact ⟨_, Go.Proofs.Try.underlying176, rfl⟩) (by intro fs h; cases h)
theorem fits181 : TyOk Go.Proofs.Try.prog 181 ty181 := fits_of (i := Go.Proofs.Try.t181) (by rw [Go.Proofs.Try.types_size]; decide) Go.Proofs.Try.type181 rfl ⟨rfl, rfl, rfl, rfl⟩ rfl (by exact ⟨_, Go.Proofs.Try.underlying181, rfl⟩) (by intro fs h; cases h)
theorem fits191 : TyOk Go.Proofs.Try.prog 191 ty191 := fits_of (i := Go.Proofs.Try.t191) (by rw [Go.Proofs.Try.types_size]; decide) Go.Proofs.Try.type191 rfl ⟨rfl, rfl, rfl, rfl⟩ rfl (by exact Go.Proofs.Try.underlying191) (by intro fs h; cases h)
theorem fits196 : TyOk Go.Proofs.Try.prog 196 ty196 := fits_of (i := Go.Proofs.Try.t196) (by rw [Go.Proofs.Try.types_size]; decide) Go.Proofs.Try.type196 rfl ⟨rfl, rfl, rfl, rfl⟩ rfl (by exact ⟨_, Go.Proofs.Try.underlying196, rfl⟩) (by intro fs h; cases h)
theorem fits197 : TyOk Go.Proofs.Try.prog 197 ty197 := fits_of (i := Go.Proofs.Try.t197) (by rw [Go.Proofs.Try.types_size]; decide) Go.Proofs.Try.type197 rfl ⟨rfl, rfl, rfl, rfl⟩ rfl (by exact ⟨_, Go.Proofs.Try.underlying197, rfl⟩) (by intro fs h; cases h; exact ⟨_, Go.Proofs.Try.underlying197, rfl, by decide, by kernel_rfl, by kernel_rfl⟩)
theorem fits200 : TyOk Go.Proofs.Try.prog 200 ty200 := fits_of (i := Go.Proofs.Try.t200) (by rw [Go.Proofs.Try.types_size]; decide) Go.Proofs.Try.type200 rfl ⟨rfl, rfl, rfl, rfl⟩ rfl (by exact Go.Proofs.Try.underlying200) (by intro fs h; cases h)
theorem fits203 : TyOk Go.Proofs.Try.prog 203 ty203 := fits_of (i := Go.Proofs.Try.t203) (by rw [Go.Proofs.Try.types_size]; decide) Go.Proofs.Try.type203 rfl ⟨rfl, rfl, rfl, rfl⟩ rfl (by exact Go.Proofs.Try.underlying203) (by intro fs h; cases h)
theorem fits216 : TyOk Go.Proofs.Try.prog 216 ty216 := fits_of (i := Go.Proofs.Try.t216) (by rw [Go.Proofs.Try.types_size]; decide) Go.Proofs.Try.type216 rfl ⟨rfl, rfl, rfl, rfl⟩ rfl (by exact ⟨_, Go.Proofs.Try.underlying216, rfl⟩) (by intro fs h; cases h)
theorem fitsL0 {l : List Ty} (r : FitsL Go.Proofs.Try.prog 16 l) : FitsL Go.Proofs.Try.prog 0 (unkTy :: unkTy :: ty2 :: ty3 :: ty4 :: ty5 :: unkTy :: unkTy :: unkTy :: ty9 :: unkTy :: unkTy :: unkTy :: unkTy :: unkTy :: unkTy :: l) :=
  .cons (fits_unk _ _) (.cons (fits_unk _ _) (.cons fits2 (.cons fits3 (.cons fits4 (.cons fits5 (.cons (fits_unk _ _) (.cons (fits_unk _ _) (.cons (fits_unk _ _) (.cons fits9 (.cons (fits_unk _ _) (.cons (fits_unk _ _) (.cons (fits_unk _ _) (.cons (fits_unk _ _) (.cons (fits_unk _ _) (.cons (fits_unk _ _) (r))))))))))))))))
theorem fitsL16 {l : List Ty} (r : FitsL Go.Proofs.Try.prog 32 l) : FitsL Go.Proofs.Try.prog 16 (unkTy :: unkTy :: unkTy :: unkTy :: ty20 :: ty21 :: ty22 :: ty23 :: ty24 :: ty25 :: ty26 :: unkTy :: unkTy :: ty29 :: ty30 :: ty31 :: l) :=
  .cons (fits_unk _ _) (.cons (fits_unk _ _) (.cons (fits_unk _ _) (.cons (fits_unk _ _) (.cons fits20 (.cons fits21 (.cons fits22 (.cons fits23 (.cons fits24 (.cons fits25 (.cons fits26 (.cons (fits_unk _ _) (.cons (fits_unk _ _) (.cons fits29 (.cons fits30 (.cons fits31 (r))))))))))))))))
theorem fitsL32 {l : List Ty} (r : FitsL Go.Proofs.Try.prog 48 l) : FitsL Go.Proofs.Try.prog 32 (ty32 :: unkTy :: unkTy :: unkTy :: unkTy :: unkTy :: unkTy :: unkTy :: ty40 :: unkTy :: unkTy :: ty43 :: ty44 :: unkTy :: unkTy :: unkTy :: l) :=
  .cons fits32 (.cons (fits_unk _ _) (.cons (fits_unk _ _) (.cons (fits_unk _ _) (.cons (fits_unk _ _) (.cons (fits_unk _ _) (.cons (fits_unk _ _) (.cons (fits_unk _ _) (.cons fits40 (.cons (fits_unk _ _) (.cons (fits_unk _ _) (.cons fits43 (.cons fits44 (.cons (fits_unk _ _) (.cons (fits_unk _ _) (.cons (fits_unk _ _) (r))))))))))))))))
theorem fitsL48 {l : List Ty} (r : FitsL Go.Proofs.Try.prog 64 l) : FitsL Go.Proofs.Try.prog 48 (unkTy :: unkTy :: unkTy :: unkTy :: unkTy :: ty53 :: ty54 :: ty55 :: ty56 :: ty57 :: unkTy :: unkTy :: ty60 :: ty61 :: ty62 :: ty63 :: l) :=
  .cons (fits_unk _ _) (.cons (fits_unk _ _) (.cons (fits_unk _ _) (.cons (fits_unk _ _) (.cons (fits_unk _ _) (.cons fits53 (.cons fits54 (.cons fits55 (.cons fits56 (.cons fits57 (.cons (fits_unk _ _) (.cons (fits_unk _ _) (.cons fits60 (.cons fits61 (.cons fits62 (.cons fits63 (r))))))))))))))))
theorem fitsL64 {l : List Ty} (r : FitsL Go.Proofs.Try.prog 80 l) : FitsL Go.Proofs.Try.prog 64 (unkTy :: unkTy :: unkTy :: unkTy :: ty68 :: unkTy :: unkTy :: ty71 :: unkTy :: unkTy :: unkTy :: unkTy :: ty76 :: ty77 :: unkTy :: unkTy :: l) :=
  .cons (fits_unk _ _) (.cons (fits_unk _ _) (.cons (fits_unk _ _) (.cons (fits_unk _ _) (.cons fits68 (.cons (fits_unk _ _) (.cons (fits_unk _ _) (.cons fits71 (.cons (fits_unk _ _) (.cons (fits_unk _ _) (.cons (fits_unk _ _) (.cons (fits_unk _ _) (.cons fits76 (.cons fits77 (.cons (fits_unk _ _) (.cons (fits_unk _ _) (r))))))))))))))))
theorem fitsL80 {l : List Ty} (r : FitsL Go.Proofs.Try.prog 96 l) : FitsL Go.Proofs.Try.prog 80 (unkTy :: unkTy :: ty82 :: ty83 :: ty84 :: ty85 :: ty86 :: unkTy :: unkTy :: unkTy :: unkTy :: unkTy :: unkTy :: unkTy :: unkTy :: unkTy :: l) :=
  .cons (fits_unk _ _) (.cons (fits_unk _ _) (.cons fits82 (.cons fits83 (.cons fits84 (.cons fits85 (.cons fits86 (.cons (fits_unk _ _) (.cons (fits_unk _ _) (.cons (fits_unk _ _) (.cons (fits_unk _ _) (.cons (fits_unk _ _) (.cons (fits_unk _ _) (.cons (fits_unk _ _) (.cons (fits_unk _ _) (.cons (fits_unk _ _) (r))))))))))))))))
theorem fitsL96 {l : List Ty} (r : FitsL Go.Proofs.Try.prog 112 l) : FitsL Go.Proofs.Try.prog 96 (unkTy :: unkTy :: unkTy :: ty99 :: ty100 :: unkTy :: unkTy :: ty103 :: unkTy :: unkTy :: unkTy :: unkTy :: unkTy :: unkTy :: unkTy :: unkTy :: l) :=
  .cons (fits_unk _ _) (.cons (fits_unk _ _) (.cons (fits_unk _ _) (.cons fits99 (.cons fits100 (.cons (fits_unk _ _) (.cons (fits_unk _ _) (.cons fits103 (.cons (fits_unk _ _) (.cons (fits_unk _ _) (.cons (fits_unk _ _) (.cons (fits_unk _ _) (.cons (fits_unk _ _) (.cons (fits_unk _ _) (.cons (fits_unk _ _) (.cons (fits_unk _ _) (r))))))))))))))))
theorem fitsL112 {l : List Ty} (r : FitsL Go.Proofs.Try.prog 128 l) : FitsL Go.Proofs.Try.prog 112 (unkTy :: unkTy :: unkTy :: unkTy :: unkTy :: unkTy :: unkTy :: unkTy :: unkTy :: ty121 :: unkTy :: unkTy :: unkTy :: unkTy :: unkTy :: unkTy :: l) :=
  .cons (fits_unk _ _) (.cons (fits_unk _ _) (.cons (fits_unk _ _) (.cons (fits_unk _ _) (.cons (fits_unk _ _) (.cons (fits_unk _ _) (.cons (fits_unk _ _) (.cons (fits_unk _ _) (.cons (fits_unk _ _) (.cons fits121 (.cons (fits_unk _ _) (.cons (fits_unk _ _) (.cons (fits_unk _ _) (.cons (fits_unk _ _) (.cons (fits_unk _ _) (.cons (fits_unk _ _) (r))))))))))))))))
theorem fitsL128 {l : List Ty} (r : FitsL Go.Proofs.Try.prog 144 l) : FitsL Go.Proofs.Try.prog 128 (ty128 :: ty129 :: unkTy :: unkTy :: ty132 :: unkTy :: unkTy :: ty135 :: ty136 :: ty137 :: unkTy :: unkTy :: unkTy :: unkTy :: ty142 :: ty143 :: l) :=
  .cons fits128 (.cons fits129 (.cons (fits_unk _ _) (.cons (fits_unk _ _) (.cons fits132 (.cons (fits_unk _ _) (.cons (fits_unk _ _) (.cons fits135 (.cons fits136 (.cons fits137 (.cons (fits_unk _ _) (.cons (fits_unk _ _) (.cons (fits_unk _ _) (.cons (fits_unk _ _) (.cons fits142 (.cons fits143 (r))))))))))))))))
theorem fitsL144 {l : List Ty} (r : FitsL Go.Proofs.Try.prog 160 l) : FitsL Go.Proofs.Try.prog 144 (unkTy :: ty145 :: unkTy :: ty147 :: unkTy :: unkTy :: unkTy :: unkTy :: unkTy :: unkTy :: unkTy :: unkTy :: unkTy :: unkTy :: unkTy :: unkTy :: l) :=
  .cons (fits_unk _ _) (.cons fits145 (.cons (fits_unk _ _) (.cons fits147 (.cons (fits_unk _ _) (.cons (fits_unk _ _) (.cons (fits_unk _ _) (.cons (fits_unk _ _) (.cons (fits_unk _ _) (.cons (fits_unk _ _) (.cons (fits_unk _ _) (.cons (fits_unk _ _) (.cons (fits_unk _ _) (.cons (fits_unk _ _) (.cons (fits_unk _ _) (.cons (fits_unk _ _) (r))))))))))))))))
theorem fitsL160 {l : List Ty} (r : FitsL Go.Proofs.Try.prog 176 l) : FitsL Go.Proofs.Try.prog 160 (unkTy :: ty161 :: unkTy :: unkTy :: ty164 :: ty165 :: unkTy :: unkTy :: unkTy :: unkTy :: ty170 :: ty171 :: unkTy :: ty173 :: ty174 :: unkTy :: l) :=
  .cons (fits_unk _ _) (.cons fits161 (.cons (fits_unk _ _) (.cons (fits_unk _ _) (.cons fits164 (.cons fits165 (.cons (fits_unk _ _) (.cons (fits_unk _ _) (.cons (fits_unk _ _) (.cons (fits_unk _ _) (.cons fits170 (.cons fits171 (.cons (fits_unk _ _) (.cons fits173 (.cons fits174 (.cons (fits_unk _ _) (r))))))))))))))))
theorem fitsL176 {l : List Ty} (r : FitsL Go.Proofs.Try.prog 192 l) : FitsL Go.Proofs.Try.prog 176 (ty176 :: unkTy :: unkTy :: unkTy :: unkTy :: ty181 :: unkTy :: unkTy :: unkTy :: unkTy :: unkTy :: unkTy :: unkTy :: unkTy :: unkTy :: ty191 :: l) :=
  .cons fits176 (.cons (fits_unk _ _) (.cons (fits_unk _ _) (.cons (fits_unk _ _) (.cons (fits_unk _ _) (.cons fits181 (.cons (fits_unk _ _) (.cons (fits_unk _ _) (.cons (fits_unk _ _) (.cons (fits_unk _ _) (.cons (fits_unk _ _) (.cons (fits_unk _ _) (.cons (fits_unk _ _) (.cons (fits_unk _ _) (.cons (fits_unk _ _) (.cons fits191 (r))))))))))))))))
theorem fitsL192 {l : List Ty} (r : FitsL Go.Proofs.Try.prog 208 l) : FitsL Go.Proofs.Try.prog 192 (unkTy :: unkTy :: unkTy :: unkTy :: ty196 :: ty197 :: unkTy :: unkTy :: ty200 :: unkTy :: unkTy :: ty203 :: unkTy :: unkTy :: unkTy :: unkTy :: l) :=
  .cons (fits_unk _ _) (.cons (fits_unk _ _) (.cons (fits_unk _ _) (.cons (fits_unk _ _) (.cons fits196 (.cons fits197 (.cons (fits_unk _ _) (.cons (fits_unk _ _) (.cons fits200 (.cons (fits_unk _ _) (.cons (fits_unk _ _) (.cons fits203 (.cons (fits_unk _ _) (.cons (fits_unk _ _) (.cons (fits_unk _ _) (.cons (fits_unk _ _) (r))))))))))))))))
theorem fitsL208 {l : List Ty} (r : FitsL Go.Proofs.Try.prog 217 l) : FitsL Go.Proofs.Try.prog 208 (unkTy :: unkTy :: unkTy :: unkTy :: unkTy :: unkTy :: unkTy :: unkTy :: ty216 :: l) :=
  .cons (fits_unk _ _) (.cons (fits_unk _ _) (.cons (fits_unk _ _) (.cons (fits_unk _ _) (.cons (fits_unk _ _) (.cons (fits_unk _ _) (.cons (fits_unk _ _) (.cons (fits_unk _ _) (.cons fits216 (r)))))))))
theorem hT (t : Nat) : TyOk Go.Proofs.Try.prog t (T t) := by
  have h : FitsL Go.Proofs.Try.prog 0 tys := fitsL0 (fitsL16 (fitsL32 (fitsL48 (fitsL64 (fitsL80 (fitsL96 (fitsL112 (fitsL128 (fitsL144 (fitsL160 (fitsL176 (fitsL192 (fitsL208 (.nil _))))))))))))))
  have := h.get t
  rw [Nat.zero_add] at this
  exact this

section
open TK
@[simp, go_sem] theorem Tk2 : (T 2).kind = .int .i64 := rfl
@[simp, go_sem] theorem Ts2 : (T 2).size = 1 := rfl
@[simp, go_sem] theorem Tb2 : (T 2).bytes = 8 := rfl
@[simp, go_sem] theorem Tz2 : (T 2).zero = [Go.Value.int Go.IntKind.i64 0] := rfl
@[simp, go_sem] theorem Tk3 : (T 3).kind = .int .i64 := rfl
@[simp, go_sem] theorem Ts3 : (T 3).size = 1 := rfl
@[simp, go_sem] theorem Tb3 : (T 3).bytes = 8 := rfl
@[simp, go_sem] theorem Tz3 : (T 3).zero = [Go.Value.int Go.IntKind.i64 0] := rfl
@[simp, go_sem] theorem Tk4 : (T 4).kind = .bool := rfl
@[simp, go_sem] theorem Ts4 : (T 4).size = 1 := rfl
@[simp, go_sem] theorem Tb4 : (T 4).bytes = 1 := rfl
@[simp, go_sem] theorem Tz4 : (T 4).zero = [Go.Value.bool false] := rfl
@[simp, go_sem] theorem Tk5 : (T 5).kind = .int .u8 := rfl
@[simp, go_sem] theorem Ts5 : (T 5).size = 1 := rfl
@[simp, go_sem] theorem Tb5 : (T 5).bytes = 1 := rfl
@[simp, go_sem] theorem Tz5 : (T 5).zero = [Go.Value.int Go.IntKind.u8 0] := rfl
@[simp, go_sem] theorem Tk9 : (T 9).kind = .str := rfl
@[simp, go_sem] theorem Ts9 : (T 9).size = 1 := rfl
@[simp, go_sem] theorem Tb9 : (T 9).bytes = 16 := rfl
@[simp, go_sem] theorem Tz9 : (T 9).zero = [Go.Value.string { data := #[] }] := rfl
@[simp, go_sem] theorem Tk20 : (T 20).kind = .other := rfl
@[simp, go_sem] theorem Ts20 : (T 20).size = 1 := rfl
@[simp, go_sem] theorem Tb20 : (T 20).bytes = 16 := rfl
@[simp, go_sem] theorem Tz20 : (T 20).zero = [Go.Value.nilIface] := rfl
@[simp, go_sem] theorem Tk21 : (T 21).kind = .int .i32 := rfl
@[simp, go_sem] theorem Ts21 : (T 21).size = 1 := rfl
@[simp, go_sem] theorem Tb21 : (T 21).bytes = 4 := rfl
@[simp, go_sem] theorem Tz21 : (T 21).zero = [Go.Value.int Go.IntKind.i32 0] := rfl
@[simp, go_sem] theorem Tk22 : (T 22).kind = .slice 161 := rfl
@[simp, go_sem] theorem Ts22 : (T 22).size = 1 := rfl
@[simp, go_sem] theorem Tb22 : (T 22).bytes = 24 := rfl
@[simp, go_sem] theorem Tz22 : (T 22).zero = [Go.Value.slice none 0 0] := rfl
@[simp, go_sem] theorem Tk23 : (T 23).kind = .slice 164 := rfl
@[simp, go_sem] theorem Ts23 : (T 23).size = 1 := rfl
@[simp, go_sem] theorem Tb23 : (T 23).bytes = 24 := rfl
@[simp, go_sem] theorem Tz23 : (T 23).zero = [Go.Value.slice none 0 0] := rfl
@[simp, go_sem] theorem Tk24 : (T 24).kind = .struct [(0, 22), (1, 23), (2, 3)] := rfl
@[simp, go_sem] theorem Ts24 : (T 24).size = 3 := rfl
@[simp, go_sem] theorem Tb24 : (T 24).bytes = 56 := rfl
@[simp, go_sem] theorem Tz24 : (T 24).zero = [Go.Value.slice none 0 0, Go.Value.slice none 0 0, Go.Value.int Go.IntKind.i64 0] := rfl
@[simp, go_sem] theorem Tk25 : (T 25).kind = .struct [(0, 22), (1, 23), (2, 3)] := rfl
@[simp, go_sem] theorem Ts25 : (T 25).size = 3 := rfl
@[simp, go_sem] theorem Tb25 : (T 25).bytes = 56 := rfl
@[simp, go_sem] theorem Tz25 : (T 25).zero = [Go.Value.slice none 0 0, Go.Value.slice none 0 0, Go.Value.int Go.IntKind.i64 0] := rfl
@[simp, go_sem] theorem Tk26 : (T 26).kind = .slice 3 := rfl
@[simp, go_sem] theorem Ts26 : (T 26).size = 1 := rfl
@[simp, go_sem] theorem Tb26 : (T 26).bytes = 24 := rfl
@[simp, go_sem] theorem Tz26 : (T 26).zero = [Go.Value.slice none 0 0] := rfl
@[simp, go_sem] theorem Tk29 : (T 29).kind = .slice 129 := rfl
@[simp, go_sem] theorem Ts29 : (T 29).size = 1 := rfl
@[simp, go_sem] theorem Tb29 : (T 29).bytes = 24 := rfl
@[simp, go_sem] theorem Tz29 : (T 29).zero = [Go.Value.slice none 0 0] := rfl
@[simp, go_sem] theorem Tk30 : (T 30).kind = .slice 44 := rfl
@[simp, go_sem] theorem Ts30 : (T 30).size = 1 := rfl
@[simp, go_sem] theorem Tb30 : (T 30).bytes = 24 := rfl
@[simp, go_sem] theorem Tz30 : (T 30).zero = [Go.Value.slice none 0 0] := rfl
@[simp, go_sem] theorem Tk31 : (T 31).kind = .struct [(0, 29), (1, 30), (2, 3)] := rfl
@[simp, go_sem] theorem Ts31 : (T 31).size = 3 := rfl
@[simp, go_sem] theorem Tb31 : (T 31).bytes = 56 := rfl
@[simp, go_sem] theorem Tz31 : (T 31).zero = [Go.Value.slice none 0 0, Go.Value.slice none 0 0, Go.Value.int Go.IntKind.i64 0] := rfl
@[simp, go_sem] theorem Tk32 : (T 32).kind = .struct [(0, 29), (1, 30), (2, 3)] := rfl
@[simp, go_sem] theorem Ts32 : (T 32).size = 3 := rfl
@[simp, go_sem] theorem Tb32 : (T 32).bytes = 56 := rfl
@[simp, go_sem] theorem Tz32 : (T 32).zero = [Go.Value.slice none 0 0, Go.Value.slice none 0 0, Go.Value.int Go.IntKind.i64 0] := rfl
@[simp, go_sem] theorem Tk40 : (T 40).kind = .slice 5 := rfl
@[simp, go_sem] theorem Ts40 : (T 40).size = 1 := rfl
@[simp, go_sem] theorem Tb40 : (T 40).bytes = 24 := rfl
@[simp, go_sem] theorem Tz40 : (T 40).zero = [Go.Value.slice none 0 0] := rfl
@[simp, go_sem] theorem Tk43 : (T 43).kind = .struct [(0, 3), (1, 3), (2, 3), (3, 3), (4, 4)] := rfl
@[simp, go_sem] theorem Ts43 : (T 43).size = 5 := rfl
@[simp, go_sem] theorem Tb43 : (T 43).bytes = 40 := rfl
@[simp, go_sem] theorem Tz43 : (T 43).zero = [Go.Value.int Go.IntKind.i64 0, Go.Value.int Go.IntKind.i64 0, Go.Value.int Go.IntKind.i64 0, Go.Value.int Go.IntKind.i64 0, Go.Value.bool false] := rfl
@[simp, go_sem] theorem Tk44 : (T 44).kind = .struct [(0, 3), (1, 3), (2, 3), (3, 3), (4, 4)] := rfl
@[simp, go_sem] theorem Ts44 : (T 44).size = 5 := rfl
@[simp, go_sem] theorem Tb44 : (T 44).bytes = 40 := rfl
@[simp, go_sem] theorem Tz44 : (T 44).zero = [Go.Value.int Go.IntKind.i64 0, Go.Value.int Go.IntKind.i64 0, Go.Value.int Go.IntKind.i64 0, Go.Value.int Go.IntKind.i64 0, Go.Value.bool false] := rfl
@[simp, go_sem] theorem Te44 : (T 44).eqs = some [(0, 3), (1, 3), (2, 3), (3, 3), (4, 4)] := rfl
@[simp, go_sem] theorem Tk53 : (T 53).kind = .struct [(0, 3), (1, 26), (2, 26)] := rfl
@[simp, go_sem] theorem Ts53 : (T 53).size = 3 := rfl
@[simp, go_sem] theorem Tb53 : (T 53).bytes = 56 := rfl
@[simp, go_sem] theorem Tz53 : (T 53).zero = [Go.Value.int Go.IntKind.i64 0, Go.Value.slice none 0 0, Go.Value.slice none 0 0] := rfl
@[simp, go_sem] theorem Tk54 : (T 54).kind = .struct [(0, 3), (1, 26), (2, 26)] := rfl
@[simp, go_sem] theorem Ts54 : (T 54).size = 3 := rfl
@[simp, go_sem] theorem Tb54 : (T 54).bytes = 56 := rfl
@[simp, go_sem] theorem Tz54 : (T 54).zero = [Go.Value.int Go.IntKind.i64 0, Go.Value.slice none 0 0, Go.Value.slice none 0 0] := rfl
@[simp, go_sem] theorem Tk55 : (T 55).kind = .slice 181 := rfl
@[simp, go_sem] theorem Ts55 : (T 55).size = 1 := rfl
@[simp, go_sem] theorem Tb55 : (T 55).bytes = 24 := rfl
@[simp, go_sem] theorem Tz55 : (T 55).zero = [Go.Value.slice none 0 0] := rfl
@[simp, go_sem] theorem Tk56 : (T 56).kind = .struct [(0, 25), (3, 54), (6, 4), (7, 55)] := rfl
@[simp, go_sem] theorem Ts56 : (T 56).size = 8 := rfl
@[simp, go_sem] theorem Tb56 : (T 56).bytes = 144 := rfl
@[simp, go_sem] theorem Tz56 : (T 56).zero = [Go.Value.slice none 0 0, Go.Value.slice none 0 0, Go.Value.int Go.IntKind.i64 0, Go.Value.int Go.IntKind.i64 0, Go.Value.slice none 0 0, Go.Value.slice none 0 0, Go.Value.bool false, Go.Value.slice none 0 0] := rfl
@[simp, go_sem] theorem Tk57 : (T 57).kind = .struct [(0, 25), (3, 54), (6, 4), (7, 55)] := rfl
@[simp, go_sem] theorem Ts57 : (T 57).size = 8 := rfl
@[simp, go_sem] theorem Tb57 : (T 57).bytes = 144 := rfl
@[simp, go_sem] theorem Tz57 : (T 57).zero = [Go.Value.slice none 0 0, Go.Value.slice none 0 0, Go.Value.int Go.IntKind.i64 0, Go.Value.int Go.IntKind.i64 0, Go.Value.slice none 0 0, Go.Value.slice none 0 0, Go.Value.bool false, Go.Value.slice none 0 0] := rfl
@[simp, go_sem] theorem Tk60 : (T 60).kind = .struct [(0, 3), (1, 26), (2, 26)] := rfl
@[simp, go_sem] theorem Ts60 : (T 60).size = 3 := rfl
@[simp, go_sem] theorem Tb60 : (T 60).bytes = 56 := rfl
@[simp, go_sem] theorem Tz60 : (T 60).zero = [Go.Value.int Go.IntKind.i64 0, Go.Value.slice none 0 0, Go.Value.slice none 0 0] := rfl
@[simp, go_sem] theorem Tk61 : (T 61).kind = .slice 136 := rfl
@[simp, go_sem] theorem Ts61 : (T 61).size = 1 := rfl
@[simp, go_sem] theorem Tb61 : (T 61).bytes = 24 := rfl
@[simp, go_sem] theorem Tz61 : (T 61).zero = [Go.Value.slice none 0 0] := rfl
@[simp, go_sem] theorem Tk62 : (T 62).kind = .struct [(0, 32), (3, 60), (6, 4), (7, 61)] := rfl
@[simp, go_sem] theorem Ts62 : (T 62).size = 8 := rfl
@[simp, go_sem] theorem Tb62 : (T 62).bytes = 144 := rfl
@[simp, go_sem] theorem Tz62 : (T 62).zero = [Go.Value.slice none 0 0, Go.Value.slice none 0 0, Go.Value.int Go.IntKind.i64 0, Go.Value.int Go.IntKind.i64 0, Go.Value.slice none 0 0, Go.Value.slice none 0 0, Go.Value.bool false, Go.Value.slice none 0 0] := rfl
@[simp, go_sem] theorem Tk63 : (T 63).kind = .struct [(0, 32), (3, 60), (6, 4), (7, 61)] := rfl
@[simp, go_sem] theorem Ts63 : (T 63).size = 8 := rfl
@[simp, go_sem] theorem Tb63 : (T 63).bytes = 144 := rfl
@[simp, go_sem] theorem Tz63 : (T 63).zero = [Go.Value.slice none 0 0, Go.Value.slice none 0 0, Go.Value.int Go.IntKind.i64 0, Go.Value.int Go.IntKind.i64 0, Go.Value.slice none 0 0, Go.Value.slice none 0 0, Go.Value.bool false, Go.Value.slice none 0 0] := rfl
@[simp, go_sem] theorem Tk68 : (T 68).kind = .slice 145 := rfl
@[simp, go_sem] theorem Ts68 : (T 68).size = 1 := rfl
@[simp, go_sem] theorem Tb68 : (T 68).bytes = 24 := rfl
@[simp, go_sem] theorem Tz68 : (T 68).zero = [Go.Value.slice none 0 0] := rfl
@[simp, go_sem] theorem Tk71 : (T 71).kind = .slice 143 := rfl
@[simp, go_sem] theorem Ts71 : (T 71).size = 1 := rfl
@[simp, go_sem] theorem Tb71 : (T 71).bytes = 24 := rfl
@[simp, go_sem] theorem Tz71 : (T 71).zero = [Go.Value.slice none 0 0] := rfl
@[simp, go_sem] theorem Tk76 : (T 76).kind = .struct [(0, 3), (1, 3)] := rfl
@[simp, go_sem] theorem Ts76 : (T 76).size = 2 := rfl
@[simp, go_sem] theorem Tb76 : (T 76).bytes = 16 := rfl
@[simp, go_sem] theorem Tz76 : (T 76).zero = [Go.Value.int Go.IntKind.i64 0, Go.Value.int Go.IntKind.i64 0] := rfl
@[simp, go_sem] theorem Tk77 : (T 77).kind = .struct [(0, 3), (1, 3)] := rfl
@[simp, go_sem] theorem Ts77 : (T 77).size = 2 := rfl
@[simp, go_sem] theorem Tb77 : (T 77).bytes = 16 := rfl
@[simp, go_sem] theorem Tz77 : (T 77).zero = [Go.Value.int Go.IntKind.i64 0, Go.Value.int Go.IntKind.i64 0] := rfl
@[simp, go_sem] theorem Te77 : (T 77).eqs = some [(0, 3), (1, 3)] := rfl
@[simp, go_sem] theorem Tk82 : (T 82).kind = .slice 197 := rfl
@[simp, go_sem] theorem Ts82 : (T 82).size = 1 := rfl
@[simp, go_sem] theorem Tb82 : (T 82).bytes = 24 := rfl
@[simp, go_sem] theorem Tz82 : (T 82).zero = [Go.Value.slice none 0 0] := rfl
@[simp, go_sem] theorem Tk83 : (T 83).kind = .struct [(0, 82), (1, 26), (2, 3)] := rfl
@[simp, go_sem] theorem Ts83 : (T 83).size = 3 := rfl
@[simp, go_sem] theorem Tb83 : (T 83).bytes = 56 := rfl
@[simp, go_sem] theorem Tz83 : (T 83).zero = [Go.Value.slice none 0 0, Go.Value.slice none 0 0, Go.Value.int Go.IntKind.i64 0] := rfl
@[simp, go_sem] theorem Tk84 : (T 84).kind = .struct [(0, 82), (1, 26), (2, 3)] := rfl
@[simp, go_sem] theorem Ts84 : (T 84).size = 3 := rfl
@[simp, go_sem] theorem Tb84 : (T 84).bytes = 56 := rfl
@[simp, go_sem] theorem Tz84 : (T 84).zero = [Go.Value.slice none 0 0, Go.Value.slice none 0 0, Go.Value.int Go.IntKind.i64 0] := rfl
@[simp, go_sem] theorem Tk85 : (T 85).kind = .struct [(0, 84), (3, 63), (11, 71)] := rfl
@[simp, go_sem] theorem Ts85 : (T 85).size = 12 := rfl
@[simp, go_sem] theorem Tb85 : (T 85).bytes = 224 := rfl
@[simp, go_sem] theorem Tz85 : (T 85).zero = [Go.Value.slice none 0 0, Go.Value.slice none 0 0, Go.Value.int Go.IntKind.i64 0, Go.Value.slice none 0 0, Go.Value.slice none 0 0, Go.Value.int Go.IntKind.i64 0, Go.Value.int Go.IntKind.i64 0, Go.Value.slice none 0 0, Go.Value.slice none 0 0, Go.Value.bool false, Go.Value.slice none 0 0, Go.Value.slice none 0 0] := rfl
@[simp, go_sem] theorem Tk86 : (T 86).kind = .struct [(0, 84), (3, 63), (11, 71)] := rfl
@[simp, go_sem] theorem Ts86 : (T 86).size = 12 := rfl
@[simp, go_sem] theorem Tb86 : (T 86).bytes = 224 := rfl
@[simp, go_sem] theorem Tz86 : (T 86).zero = [Go.Value.slice none 0 0, Go.Value.slice none 0 0, Go.Value.int Go.IntKind.i64 0, Go.Value.slice none 0 0, Go.Value.slice none 0 0, Go.Value.int Go.IntKind.i64 0, Go.Value.int Go.IntKind.i64 0, Go.Value.slice none 0 0, Go.Value.slice none 0 0, Go.Value.bool false, Go.Value.slice none 0 0, Go.Value.slice none 0 0] := rfl
@[simp, go_sem] theorem Tk99 : (T 99).kind = .struct [(0, 26), (1, 26)] := rfl
@[simp, go_sem] theorem Ts99 : (T 99).size = 2 := rfl
@[simp, go_sem] theorem Tb99 : (T 99).bytes = 48 := rfl
@[simp, go_sem] theorem Tz99 : (T 99).zero = [Go.Value.slice none 0 0, Go.Value.slice none 0 0] := rfl
@[simp, go_sem] theorem Tk100 : (T 100).kind = .struct [(0, 26), (1, 26)] := rfl
@[simp, go_sem] theorem Ts100 : (T 100).size = 2 := rfl
@[simp, go_sem] theorem Tb100 : (T 100).bytes = 48 := rfl
@[simp, go_sem] theorem Tz100 : (T 100).zero = [Go.Value.slice none 0 0, Go.Value.slice none 0 0] := rfl
@[simp, go_sem] theorem Tk103 : (T 103).kind = .struct [(0, 26), (1, 26)] := rfl
@[simp, go_sem] theorem Ts103 : (T 103).size = 2 := rfl
@[simp, go_sem] theorem Tb103 : (T 103).bytes = 48 := rfl
@[simp, go_sem] theorem Tz103 : (T 103).zero = [Go.Value.slice none 0 0, Go.Value.slice none 0 0] := rfl
@[simp, go_sem] theorem Tk121 : (T 121).kind = .other := rfl
@[simp, go_sem] theorem Ts121 : (T 121).size = 1 := rfl
@[simp, go_sem] theorem Tb121 : (T 121).bytes = 8 := rfl
@[simp, go_sem] theorem Tz121 : (T 121).zero = [Go.Value.pointer none] := rfl
@[simp, go_sem] theorem Tk128 : (T 128).kind = .struct [(0, 9), (1, 26), (2, 3)] := rfl
@[simp, go_sem] theorem Ts128 : (T 128).size = 3 := rfl
@[simp, go_sem] theorem Tb128 : (T 128).bytes = 48 := rfl
@[simp, go_sem] theorem Tz128 : (T 128).zero = [Go.Value.string { data := #[] }, Go.Value.slice none 0 0, Go.Value.int Go.IntKind.i64 0] := rfl
@[simp, go_sem] theorem Tk129 : (T 129).kind = .struct [(0, 9), (1, 26), (2, 3)] := rfl
@[simp, go_sem] theorem Ts129 : (T 129).size = 3 := rfl
@[simp, go_sem] theorem Tb129 : (T 129).bytes = 48 := rfl
@[simp, go_sem] theorem Tz129 : (T 129).zero = [Go.Value.string { data := #[] }, Go.Value.slice none 0 0, Go.Value.int Go.IntKind.i64 0] := rfl
@[simp, go_sem] theorem Tk132 : (T 132).kind = .other := rfl
@[simp, go_sem] theorem Ts132 : (T 132).size = 1 := rfl
@[simp, go_sem] theorem Tb132 : (T 132).bytes = 8 := rfl
@[simp, go_sem] theorem Tz132 : (T 132).zero = [Go.Value.nilFunc] := rfl
@[simp, go_sem] theorem Tk135 : (T 135).kind = .struct [(0, 3), (1, 26), (2, 26), (3, 26)] := rfl
@[simp, go_sem] theorem Ts135 : (T 135).size = 4 := rfl
@[simp, go_sem] theorem Tb135 : (T 135).bytes = 80 := rfl
@[simp, go_sem] theorem Tz135 : (T 135).zero = [Go.Value.int Go.IntKind.i64 0, Go.Value.slice none 0 0, Go.Value.slice none 0 0, Go.Value.slice none 0 0] := rfl
@[simp, go_sem] theorem Tk136 : (T 136).kind = .struct [(0, 3), (1, 26), (2, 26), (3, 26)] := rfl
@[simp, go_sem] theorem Ts136 : (T 136).size = 4 := rfl
@[simp, go_sem] theorem Tb136 : (T 136).bytes = 80 := rfl
@[simp, go_sem] theorem Tz136 : (T 136).zero = [Go.Value.int Go.IntKind.i64 0, Go.Value.slice none 0 0, Go.Value.slice none 0 0, Go.Value.slice none 0 0] := rfl
@[simp, go_sem] theorem Tk137 : (T 137).kind = .other := rfl
@[simp, go_sem] theorem Ts137 : (T 137).size = 1 := rfl
@[simp, go_sem] theorem Tb137 : (T 137).bytes = 8 := rfl
@[simp, go_sem] theorem Tz137 : (T 137).zero = [Go.Value.nilFunc] := rfl
@[simp, go_sem] theorem Tk142 : (T 142).kind = .struct [(0, 3), (1, 3)] := rfl
@[simp, go_sem] theorem Ts142 : (T 142).size = 2 := rfl
@[simp, go_sem] theorem Tb142 : (T 142).bytes = 16 := rfl
@[simp, go_sem] theorem Tz142 : (T 142).zero = [Go.Value.int Go.IntKind.i64 0, Go.Value.int Go.IntKind.i64 0] := rfl
@[simp, go_sem] theorem Tk143 : (T 143).kind = .struct [(0, 3), (1, 3)] := rfl
@[simp, go_sem] theorem Ts143 : (T 143).size = 2 := rfl
@[simp, go_sem] theorem Tb143 : (T 143).bytes = 16 := rfl
@[simp, go_sem] theorem Tz143 : (T 143).zero = [Go.Value.int Go.IntKind.i64 0, Go.Value.int Go.IntKind.i64 0] := rfl
@[simp, go_sem] theorem Te143 : (T 143).eqs = some [(0, 3), (1, 3)] := rfl
@[simp, go_sem] theorem Tk145 : (T 145).kind = .struct [(0, 3), (1, 3)] := rfl
@[simp, go_sem] theorem Ts145 : (T 145).size = 2 := rfl
@[simp, go_sem] theorem Tb145 : (T 145).bytes = 16 := rfl
@[simp, go_sem] theorem Tz145 : (T 145).zero = [Go.Value.int Go.IntKind.i64 0, Go.Value.int Go.IntKind.i64 0] := rfl
@[simp, go_sem] theorem Te145 : (T 145).eqs = some [(0, 3), (1, 3)] := rfl
@[simp, go_sem] theorem Tk147 : (T 147).kind = .other := rfl
@[simp, go_sem] theorem Ts147 : (T 147).size = 1 := rfl
@[simp, go_sem] theorem Tb147 : (T 147).bytes = 8 := rfl
@[simp, go_sem] theorem Tz147 : (T 147).zero = [Go.Value.nilFunc] := rfl
@[simp, go_sem] theorem Tk161 : (T 161).kind = .struct [(0, 9), (1, 26), (2, 3)] := rfl
@[simp, go_sem] theorem Ts161 : (T 161).size = 3 := rfl
@[simp, go_sem] theorem Tb161 : (T 161).bytes = 48 := rfl
@[simp, go_sem] theorem Tz161 : (T 161).zero = [Go.Value.string { data := #[] }, Go.Value.slice none 0 0, Go.Value.int Go.IntKind.i64 0] := rfl
@[simp, go_sem] theorem Tk164 : (T 164).kind = .struct [(0, 3), (1, 3), (2, 3), (3, 3), (4, 4)] := rfl
@[simp, go_sem] theorem Ts164 : (T 164).size = 5 := rfl
@[simp, go_sem] theorem Tb164 : (T 164).bytes = 40 := rfl
@[simp, go_sem] theorem Tz164 : (T 164).zero = [Go.Value.int Go.IntKind.i64 0, Go.Value.int Go.IntKind.i64 0, Go.Value.int Go.IntKind.i64 0, Go.Value.int Go.IntKind.i64 0, Go.Value.bool false] := rfl
@[simp, go_sem] theorem Te164 : (T 164).eqs = some [(0, 3), (1, 3), (2, 3), (3, 3), (4, 4)] := rfl
@[simp, go_sem] theorem Tk165 : (T 165).kind = .other := rfl
@[simp, go_sem] theorem Ts165 : (T 165).size = 1 := rfl
@[simp, go_sem] theorem Tb165 : (T 165).bytes = 8 := rfl
@[simp, go_sem] theorem Tz165 : (T 165).zero = [Go.Value.nilFunc] := rfl
@[simp, go_sem] theorem Tk170 : (T 170).kind = .struct [(0, 40), (1, 3), (2, 3)] := rfl
@[simp, go_sem] theorem Ts170 : (T 170).size = 3 := rfl
@[simp, go_sem] theorem Tb170 : (T 170).bytes = 40 := rfl
@[simp, go_sem] theorem Tz170 : (T 170).zero = [Go.Value.slice none 0 0, Go.Value.int Go.IntKind.i64 0, Go.Value.int Go.IntKind.i64 0] := rfl
@[simp, go_sem] theorem Tk171 : (T 171).kind = .struct [(0, 40), (1, 3), (2, 3)] := rfl
@[simp, go_sem] theorem Ts171 : (T 171).size = 3 := rfl
@[simp, go_sem] theorem Tb171 : (T 171).bytes = 40 := rfl
@[simp, go_sem] theorem Tz171 : (T 171).zero = [Go.Value.slice none 0 0, Go.Value.int Go.IntKind.i64 0, Go.Value.int Go.IntKind.i64 0] := rfl
@[simp, go_sem] theorem Tk173 : (T 173).kind = .other := rfl
@[simp, go_sem] theorem Ts173 : (T 173).size = 1 := rfl
@[simp, go_sem] theorem Tb173 : (T 173).bytes = 8 := rfl
@[simp, go_sem] theorem Tz173 : (T 173).zero = [Go.Value.nilFunc] := rfl
@[simp, go_sem] theorem Tk174 : (T 174).kind = .int .u64 := rfl
@[simp, go_sem] theorem Ts174 : (T 174).size = 1 := rfl
@[simp, go_sem] theorem Tb174 : (T 174).bytes = 8 := rfl
@[simp, go_sem] theorem Tz174 : (T 174).zero = [Go.Value.int Go.IntKind.u64 0] := rfl
@[simp, go_sem] theorem Tk176 : (T 176).kind = .other := rfl
@[simp, go_sem] theorem Ts176 : (T 176).size = 1 := rfl
@[simp, go_sem] theorem Tb176 : (T 176).bytes = 8 := rfl
@[simp, go_sem] theorem Tz176 : (T 176).zero = [Go.Value.nilFunc] := rfl
@[simp, go_sem] theorem Tk181 : (T 181).kind = .struct [(0, 3), (1, 26), (2, 26), (3, 26)] := rfl
@[simp, go_sem] theorem Ts181 : (T 181).size = 4 := rfl
@[simp, go_sem] theorem Tb181 : (T 181).bytes = 80 := rfl
@[simp, go_sem] theorem Tz181 : (T 181).zero = [Go.Value.int Go.IntKind.i64 0, Go.Value.slice none 0 0, Go.Value.slice none 0 0, Go.Value.slice none 0 0] := rfl
@[simp, go_sem] theorem Tk191 : (T 191).kind = .slice 9 := rfl
@[simp, go_sem] theorem Ts191 : (T 191).size = 1 := rfl
@[simp, go_sem] theorem Tb191 : (T 191).bytes = 24 := rfl
@[simp, go_sem] theorem Tz191 : (T 191).zero = [Go.Value.slice none 0 0] := rfl
@[simp, go_sem] theorem Tk196 : (T 196).kind = .struct [(0, 9), (1, 3), (2, 4), (3, 3), (4, 3), (5, 3), (6, 3), (7, 4), (8, 3), (9, 3), (10, 3)] := rfl
@[simp, go_sem] theorem Ts196 : (T 196).size = 11 := rfl
@[simp, go_sem] theorem Tb196 : (T 196).bytes = 96 := rfl
@[simp, go_sem] theorem Tz196 : (T 196).zero = [Go.Value.string { data := #[] }, Go.Value.int Go.IntKind.i64 0, Go.Value.bool false, Go.Value.int Go.IntKind.i64 0, Go.Value.int Go.IntKind.i64 0, Go.Value.int Go.IntKind.i64 0, Go.Value.int Go.IntKind.i64 0, Go.Value.bool false, Go.Value.int Go.IntKind.i64 0, Go.Value.int Go.IntKind.i64 0, Go.Value.int Go.IntKind.i64 0] := rfl
@[simp, go_sem] theorem Tk197 : (T 197).kind = .struct [(0, 9), (1, 3), (2, 4), (3, 3), (4, 3), (5, 3), (6, 3), (7, 4), (8, 3), (9, 3), (10, 3)] := rfl
@[simp, go_sem] theorem Ts197 : (T 197).size = 11 := rfl
@[simp, go_sem] theorem Tb197 : (T 197).bytes = 96 := rfl
@[simp, go_sem] theorem Tz197 : (T 197).zero = [Go.Value.string { data := #[] }, Go.Value.int Go.IntKind.i64 0, Go.Value.bool false, Go.Value.int Go.IntKind.i64 0, Go.Value.int Go.IntKind.i64 0, Go.Value.int Go.IntKind.i64 0, Go.Value.int Go.IntKind.i64 0, Go.Value.bool false, Go.Value.int Go.IntKind.i64 0, Go.Value.int Go.IntKind.i64 0, Go.Value.int Go.IntKind.i64 0] := rfl
@[simp, go_sem] theorem Te197 : (T 197).eqs = some [(0, 9), (1, 3), (2, 4), (3, 3), (4, 3), (5, 3), (6, 3), (7, 4), (8, 3), (9, 3), (10, 3)] := rfl
@[simp, go_sem] theorem Tk200 : (T 200).kind = .int .u32 := rfl
@[simp, go_sem] theorem Ts200 : (T 200).size = 1 := rfl
@[simp, go_sem] theorem Tb200 : (T 200).bytes = 4 := rfl
@[simp, go_sem] theorem Tz200 : (T 200).zero = [Go.Value.int Go.IntKind.u32 0] := rfl
@[simp, go_sem] theorem Tk203 : (T 203).kind = .int .u64 := rfl
@[simp, go_sem] theorem Ts203 : (T 203).size = 1 := rfl
@[simp, go_sem] theorem Tb203 : (T 203).bytes = 8 := rfl
@[simp, go_sem] theorem Tz203 : (T 203).zero = [Go.Value.int Go.IntKind.u64 0] := rfl
@[simp, go_sem] theorem Tk216 : (T 216).kind = .other := rfl
@[simp, go_sem] theorem Ts216 : (T 216).size = 1 := rfl
@[simp, go_sem] theorem Tb216 : (T 216).bytes = 8 := rfl
@[simp, go_sem] theorem Tz216 : (T 216).zero = [Go.Value.pointer none] := rfl
end

end Go.Proofs.YtgmiaokdnpaglaaY
