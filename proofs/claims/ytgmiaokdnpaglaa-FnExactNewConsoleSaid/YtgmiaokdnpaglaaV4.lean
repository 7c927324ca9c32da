/- The operations that touch no memory or only read it: what they give, abstractly, and that the machine gives just that. Own work. -/
import Derived.Test.YtgmiaokdnpaglaaV3
import Derived.Laws.Append
import Derived.Laws.CopyRow
import Derived.Laws.Slices
import Derived.Laws.Entries
import Derived.Laws.Rows
import Derived.Laws.OwnMore
import Derived.IntWalk
import Derived.Laws.Strings
import Derived.WalkSpells
import Derived.Laws.StructEq
set_option linter.all false
namespace Go.Proofs.YtgmiaokdnpaglaaV

/-! ### What is known of types -/
inductive TK where
  | int (k : IntKind)
  | bool
  | str
  | slice (e : Nat)
  | struct (fs : List (Nat × Nat))
  | other
  | unknown

structure Ty where
  kind : TK
  size : Nat
  bytes : Nat
  zero : List Value

def Ty.isAgg (t : Ty) : Bool := match t.kind with | .struct _ => true | _ => false

def kindOk (P : Program) (t : Nat) : TK → Prop
  | .int k => P.underlying t = some (.int k)
  | .bool => P.underlying t = some .bool
  | .str => P.underlying t = some .string
  | .slice e => P.underlying t = some (.slice e)
  | .struct fs => ∃ fields, P.underlying t = some (.struct fields) ∧ fields.toList.map (fun f => (f.offset, f.type)) = fs
  | .other => ∃ d, P.underlying t = some d ∧ (match d with | .struct _ | .array _ _ => false | _ => true) = true
  | .unknown => False

structure TyFits (P : Program) (t : Nat) (ty : Ty) : Prop where
  info : ∃ i z, P.info? t = some i ∧ i.size = ty.size ∧ i.bytes = ty.bytes ∧ i.zero = some z ∧ z.cells.toList = ty.zero ∧ ty.zero.length = ty.size
  one : ∀ v, v ∈ ty.zero → v.oneCell' = true
  kind : kindOk P t ty.kind

def TyOk (P : Program) (t : Nat) (ty : Ty) : Prop := match ty.kind with | .unknown => True | _ => TyFits P t ty

theorem TyOk.fits {P : Program} {t : Nat} {ty : Ty} (h : TyOk P t ty) (hk : ty.kind ≠ .unknown) : TyFits P t ty := by
  unfold TyOk at h
  split at h
  · contradiction
  · exact h

/-! ### Operands -/
def opnd (env : Env) : Operand → AV
  | .tmp t => look env t
  | .const v => .lit v
  | .func f => .fn f []
  | .global _ => .dead

section
variable {P : Program} {fr : Fr} {nt : Nat} {env : Env} {H : Hp} {clk : Nat} {K : Nat → Prop} {M : Nat → Cb} {w : World} {a : Act}

theorem Rel.opnd (R : Rel fr nt ⟨env, H, clk⟩ K M a.tmps w) (x : Operand) : erep w K clk H M (opnd env x) (a.eval x) := by
  cases x with
  | tmp t => exact R.env t
  | const v => simp [YtgmiaokdnpaglaaV.opnd, erep, Act.eval]
  | func f => simp [YtgmiaokdnpaglaaV.opnd, erep, Act.eval, erepL]
  | global g => simp [YtgmiaokdnpaglaaV.opnd, erep]
end

/-! ### Arithmetic and comparison -/
def evInt (op : BinOp) (k : IntKind) (a b : Int) : Option Value :=
  match op with
  | .add => some (.int k (k.wrap (a + b)))
  | .sub => some (.int k (k.wrap (a - b)))
  | .mul => some (.int k (k.wrap (a * b)))
  | .quo => if b = 0 then none else some (.int k (k.wrap (a.tdiv b)))
  | .rem => if b = 0 then none else some (.int k (a.tmod b))
  | .eql => some (.bool (decide (a = b)))
  | .neq => some (.bool (decide (a ≠ b)))
  | .lss => some (.bool (decide (a < b)))
  | .leq => some (.bool (decide (a ≤ b)))
  | .gtr => some (.bool (decide (a > b)))
  | .geq => some (.bool (decide (a ≥ b)))
  | .and => some (.int k (k.wrap ((BitVec.ofInt k.bits a &&& BitVec.ofInt k.bits b).toNat)))
  | .or => some (.int k (k.wrap ((BitVec.ofInt k.bits a ||| BitVec.ofInt k.bits b).toNat)))
  | .xor => some (.int k (k.wrap ((BitVec.ofInt k.bits a ^^^ BitVec.ofInt k.bits b).toNat)))
  | _ => none

def evShift (op : BinOp) (k : IntKind) (a b : Int) : Option Value :=
  if b < 0 then none else
  match op with
  | .shl => some (.int k (k.wrap (a * 2 ^ (min b.toNat k.bits))))
  | .shr => some (.int k (a.fdiv (2 ^ (min b.toNat k.bits))))
  | _ => none

def evStr (op : BinOp) (x y : ByteArray) : Option Value :=
  match op with
  | .add => if x.size + y.size ≤ 9223372036854775807 then some (.string (x ++ y)) else none
  | .eql => some (.bool (decide (x = y)))
  | .neq => some (.bool (decide (x ≠ y)))
  | _ => none

/-- Structs of whole numbers, bools and strings: field by field. -/
def evEqCells : List AV → List AV → Option Bool
  | [], [] => some true
  | .lit (.int k a) :: r, .lit (.int k' b) :: s => if k = k' then (evEqCells r s).map (fun t => decide (a = b) && t) else none
  | .lit (.bool a) :: r, .lit (.bool b) :: s => (evEqCells r s).map (fun t => decide (a = b) && t)
  | .lit (.string a) :: r, .lit (.string b) :: s => (evEqCells r s).map (fun t => decide (a = b) && t)
  | _, _ => none

def evIsNil (H : Hp) : AV → Option Bool
  | .lit (.slice none 0 0) => some true
  | .sl (_ :: _) => some false
  | .ref id ver _ n => match hget H id with
    | some (v, _) => if v = ver then (if 0 < n then some false else none) else none
    | none => none
  | _ => none

def evBin (H : Hp) (T : Nat → Ty) (op : BinOp) (t : Nat) : AV → AV → Option AV
  | .lit (.int k a), .lit (.int k' b) =>
    match op with
    | .shl | .shr => (evShift op k a b).map .lit
    | _ => if k = k' then (evInt op k a b).map .lit else none
  | .lit (.string x), .lit (.string y) => (evStr op x y).map .lit
  | .lit (.bool x), .lit (.bool y) => match (T t).kind with
    | .bool => match op with
      | .eql => some (.lit (.bool (decide (x = y))))
      | .neq => some (.lit (.bool (decide (x ≠ y))))
      | _ => none
    | _ => none
  | x, .lit (.slice none 0 0) => match (T t).kind with
    | .slice _ => match op with
      | .eql => (evIsNil H x).map (fun b => .lit (.bool b))
      | .neq => (evIsNil H x).map (fun b => .lit (.bool (!b)))
      | _ => none
    | _ => none
  | _, _ => none

theorem run_intArith (P : Program) (w : World) (op : BinOp) (k : IntKind) (a b : Int) (v : Value) (h : evInt op k a b = some v) :
    (match op with
    | .add | .sub | .mul => Op.intArith op k a b
    | .quo | .rem => Op.intDiv op k a b
    | .and | .or | .xor | .andNot => Op.intBits op k a b
    | _ => Op.intCmp op a b : Sem Value).run P w = .ok v w := by
  cases op <;> simp only [evInt] at h <;> first
    | (obtain rfl := Option.some.inj h; simp [Op.intArith, Op.intCmp, Op.intBits] <;> rfl)
    | (obtain rfl := Option.some.inj h; simp [Op.intArith, Op.intCmp, Op.intBits])
    | (split at h
       · cases h
       · rename_i hb
         obtain rfl := Option.some.inj h
         simp [Op.intDiv, hb])
    | cases h

section
variable {P : Program} {fr : Fr} {nt : Nat} {env : Env} {H : Hp} {clk : Nat} {K : Nat → Prop} {M : Nat → Cb} {w : World} {a : Act}

theorem run_shift (P : Program) (w : World) (op : BinOp) (k k' : IntKind) (a b : Int) (v : Value) (h : evShift op k a b = some v) : (Op.shift op k a k' b).run P w = .ok v w := by
  unfold evShift at h
  unfold Op.shift
  split at h
  · cases h
  · rename_i hb
    rw [if_neg hb]
    cases op <;> simp at h <;> subst h <;> simp

theorem run_string (P : Program) (w : World) (op : BinOp) (x y : ByteArray) (v : Value) (h : evStr op x y = some v) : (Op.stringOp op x y).run P w = .ok v w := by
  have hl : ∀ {x y : ByteArray}, (x.toList == y.toList) = decide (x = y) := by
    intro x y
    rw [Bool.eq_iff_iff, beq_iff_eq, decide_eq_true_iff]
    constructor
    · intro hx
      rw [ByteArray.toList_eq, ByteArray.toList_eq] at hx
      exact ByteArray.ext (Array.ext' hx)
    · rintro rfl; rfl
  cases op <;> simp only [evStr] at h <;> try cases h
  · split at h
    · rename_i hle
      cases h
      simp only [Op.stringOp]
      rw [if_neg (by simp [IntKind.max, IntKind.signed, IntKind.bits]; omega)]
      rfl
    · cases h
  · simp [Op.stringOp, hl]
  · simp [Op.stringOp, hl]

theorem evIsNil_ok {x : AV} {v : Value} {b : Bool} (hx : erep w K clk H M x v) (h : evIsNil H x = some b) : ∃ a n c, v = .slice a n c ∧ a.isNone = b := by
  unfold evIsNil at h
  split at h
  · cases h
    simp only [erep] at hx
    subst hx
    exact ⟨none, 0, 0, rfl, rfl⟩
  · cases h
    simp only [erep, rep] at hx
    rcases hx.2 with ⟨_, c, _, hn⟩ | ⟨b, off, cap, sz, rfl, _⟩
    · cases hn
    · exact ⟨_, _, _, rfl, rfl⟩
  · rename_i id ver i n
    split at h
    · rename_i v' blk hg
      split at h
      · rename_i hv
        subst hv
        split at h
        · rename_i hn
          cases h
          simp only [erep] at hx
          obtain ⟨_, a, c, rfl, hnc, hx⟩ := hx
          obtain ⟨_, ha⟩ := hx blk hg
          rcases ha with rfl | ⟨b, off, _, rfl⟩
          · omega
          · exact ⟨_, _, _, rfl, rfl⟩
        · cases h
      · cases h
    · cases h
  · cases h

theorem evBin_ok {T : Nat → Ty} (hT : ∀ t, TyOk P t (T t)) {op : BinOp} {t : Nat} {x y av : AV} {u v : Value} (hx : erep w K clk H M x u) (hy : erep w K clk H M y v)
    (h : evBin H T op t x y = some av) (ox oy : Operand) : ∃ r, (do eqGuard op t ox oy u v; binOp op t u v : Sem Value).run P w = .ok r w ∧ erep w K clk H M av r := by
  unfold evBin at h
  split at h
  · rename_i k p k' q
    simp only [erep] at hx hy
    subst hx hy
    have hg : (eqGuard op t ox oy (.int k p) (.int k' q)).run P w = .ok () w := by unfold eqGuard; split <;> simp
    split at h
    · obtain ⟨r, hr, rfl⟩ := Option.map_eq_some_iff.1 h
      exact ⟨r, by simp [hg, binOp, run_shift P w _ k k' p q r hr], by simp [erep]⟩
    · obtain ⟨r, hr, rfl⟩ := Option.map_eq_some_iff.1 h
      exact ⟨r, by simp [hg, binOp, run_shift P w _ k k' p q r hr], by simp [erep]⟩
    · rename_i hn1 hn2
      split at h
      · rename_i hk
        subst hk
        obtain ⟨r, hr, rfl⟩ := Option.map_eq_some_iff.1 h
        have := run_intArith P w op k p q r hr
        refine ⟨r, ?_, by simp [erep]⟩
        simp only [Sem.run_bind, hg, Result.andThen_ok]
        cases op <;> simp_all [binOp]
      · cases h
  · rename_i p q
    simp only [erep] at hx hy
    subst hx hy
    obtain ⟨r, hr, rfl⟩ := Option.map_eq_some_iff.1 h
    have hg : (eqGuard op t ox oy (.string p) (.string q)).run P w = .ok () w := by unfold eqGuard; split <;> simp
    have := run_string P w op p q r hr
    refine ⟨r, ?_, by simp [erep]⟩
    simp only [Sem.run_bind, hg, Result.andThen_ok]
    cases op <;> simp_all [binOp, evStr]
  · rename_i p q
    simp only [erep] at hx hy
    subst hx hy
    have hg : (eqGuard op t ox oy (.bool p) (.bool q)).run P w = .ok () w := by unfold eqGuard; split <;> simp
    split at h
    · rename_i hk
      have hu : P.underlying t = some .bool := by have := ((hT t).fits (by rw [hk]; simp)).kind; rw [hk] at this; exact this
      have he : (Op.equal t (.bool p) (.bool q)).run P w = .ok (decide (p = q)) w := by
        have := run_equalIn_bool w 9999 t p q hu
        simp only [Op.equal, Op.maxDepth]
        rw [this]
        cases p <;> cases q <;> rfl
      split at h
      · cases h
        exact ⟨.bool (decide (p = q)), by simp [hg, binOp, he], by simp [erep]⟩
      · cases h
        exact ⟨.bool (decide (p ≠ q)), by simp [hg, binOp, he], by simp [erep]⟩
      · cases h
    · cases h
  · simp only [erep] at hy
    subst hy
    split at h
    · rename_i e hk
      have hu : P.underlying t = some (.slice e) := by have := ((hT t).fits (by rw [hk]; simp)).kind; rw [hk] at this; exact this
      split at h
      · obtain ⟨b, hb, rfl⟩ := Option.map_eq_some_iff.1 h
        obtain ⟨a, n, c, rfl, rfl⟩ := evIsNil_ok hx hb
        have hg : (eqGuard .eql t ox oy (.slice a n c) (.slice none 0 0)).run P w = .ok () w := by unfold eqGuard; split <;> simp
        exact ⟨_, by simp only [Sem.run_bind, hg, Result.andThen_ok]; exact Lib.run_eql_slice_nil w t e a n c 0 0 hu, by simp [erep]⟩
      · obtain ⟨b, hb, rfl⟩ := Option.map_eq_some_iff.1 h
        obtain ⟨a, n, c, rfl, rfl⟩ := evIsNil_ok hx hb
        have hg : (eqGuard .neq t ox oy (.slice a n c) (.slice none 0 0)).run P w = .ok () w := by unfold eqGuard; split <;> simp
        exact ⟨_, by simp only [Sem.run_bind, hg, Result.andThen_ok]; exact run_neq_slice_nil_any w t e a n c 0 0 hu, by simp [erep]⟩
      · cases h
    · cases h
  · cases h
end
end Go.Proofs.YtgmiaokdnpaglaaV
