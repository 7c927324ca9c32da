/- Regions whose order is drawn. Own work. -/
import Derived.Test.YteijmljgodikiaaGreatZ18
set_option linter.all false
namespace Go.Proofs.YteijmljgodikiaaGreatZ

/-- Does it touch the heap or the clock? -/
def isEff : Op → Bool
  | .move _ | .assign _ | .pick .. | .unOp .. | .binOp .. | .convert .. | .field .. | .fieldAddr .. | .indexAddr .. | .index .. | .extract .. | .slice .. | .nilCheck _ | .makeFunc .. | .load .. | .build .. => false
  | .call c => (match c.callee with
    | .builtin .len | .builtin .max | .builtin .min => false
    | _ => true)
  | _ => true

/-- Does what it gives hang on the heap? -/
def isRead : Op → Bool
  | .move _ | .assign _ | .pick .. | .unOp .. | .field .. | .index .. | .extract .. | .makeFunc .. | .build .. => false
  | .binOp op _ _ _ _ => (match op with
    | .eql | .neq => true
    | _ => false)
  | .call c => (match c.callee with
    | .builtin .max | .builtin .min => false
    | _ => true)
  | _ => true

/-- For one operation in the order that is walked: its place; whether it is asked again; which are asked again behind it. -/
structure DItem where
  j : Nat
  keep : Bool
  chk : List Nat

/-- The order that is walked: a tree, since two that turn the heap may stand in no order. -/
inductive DT where
  | nil
  | cons (d : DItem) (r : DT)
  | fork (a b : DT)

structure DH where
  order : DT
  anc : List (List Nat)
  rank : List Nat

structure Rec where
  j : Nat
  o : Oper
  env : Env
  av : AV
  wanted : Bool

def findRec (j : Nat) : List Rec → Option Rec
  | [] => none
  | r :: rs => if r.j = j then some r else findRec j rs

def recChk (T : Nat → Ty) (H : Hp) (clk : Nat) (recs : List Rec) : List Nat → Prop
  | [] => True
  | j :: r => (match findRec j recs with
    | some x => (x.wanted = true → evOut T x.env H clk x.o = some (x.av, H, clk))
    | none => False) ∧ recChk T H clk recs r

def guardK (all : Array Oper) (env : Env) (guard : Option (Nat × Bool)) (y n : Prop) : Prop :=
  match guard with
  | none => y
  | some (g, want) => (match gval all env g with
    | some b => guardC b want y n
    | none => False)

def adraw (P : Program) (md : Nat → Md) (T : Nat → Ty) (nt : Nat) (all : Array Oper) : DT → List Rec → St → (St → Prop) → Prop
  | .nil, _, st, Q => Q st
  | .fork a b, recs, st, Q => adraw P md T nt all a recs st Q ∧ adraw P md T nt all b recs st Q
  | .cons d rem, recs, st, Q => match all[d.j]? with
    | some o => (match isEff o.op with
      | true => guardK all st.env o.guard
          (outK P md T st.env st.heap st.clk nt o (fun av H' clk' => recChk T H' clk' recs d.chk ∧ putK nt o.dst st.env (fun st' => adraw P md T nt all rem recs st' Q) av H' clk'))
          (putK nt o.dst st.env (fun st' => adraw P md T nt all rem recs st' Q) (.lit undef) st.heap st.clk)
      | false => guardK all st.env o.guard
          (match evOut T st.env st.heap st.clk o with
            | some (av, H', clk') => putK nt o.dst st.env (fun st' => adraw P md T nt all rem (match d.keep with | true => ⟨d.j, o, st.env, av, true⟩ :: recs | false => recs) st' Q) av H' clk'
            | none => False)
          (putK nt o.dst st.env (fun st' => adraw P md T nt all rem (match d.keep with | true => ⟨d.j, o, st.env, .dead, false⟩ :: recs | false => recs) st' Q) (.lit undef) st.heap st.clk))
    | none => False

/-! ### What is asked of a drawn region's own text -/
def ancOf (h : DH) (j : Nat) : List Nat := h.anc.getD j []

def dstIn (o : Oper) (l : List Nat) : Bool := match o.dst with | some d => l.contains d | none => false

def dstNe (x y : Oper) : Bool := match x.dst, y.dst with | some a, some b => !(a == b) | _, _ => true

/-- An operation behind those that are done. -/
def itemOk (ops : Array Oper) (anc : List Nat) (d : DItem) (o : Oper) : List (Nat × Bool) → Bool
  | [] => true
  | (i, kp) :: done => !(i == d.j) && (match ops[i]? with
    | some oi => (!isEff oi.op || anc.contains i) && dstNe oi o && (!dstIn oi (o.looksAt ops) || anc.contains i) && (!dstIn o (oi.looksAt ops) || anc.contains i) &&
        (!isEff o.op || isEff oi.op || !isRead oi.op || anc.contains i || (kp && d.chk.contains i))
    | none => false) && itemOk ops anc d o done

/-- Behind one that turns the heap: it stands ahead of all that is left. -/
def DH.ext (h : DH) (e : Nat) : DH := { h with anc := h.anc.map (fun l => e :: l) }

def heads : DT → List Nat
  | .nil => []
  | .cons d _ => [d.j]
  | .fork a b => heads a ++ heads b

def effAt (ops : Array Oper) (j : Nat) : Bool := match ops[j]? with | some o => isEff o.op | none => false

/-- Is it one that turns the heap, or a fork of such? -/
def stops (ops : Array Oper) : DT → Bool
  | .nil => false
  | .cons d _ => effAt ops d.j
  | .fork a b => stops ops a && stops ops b

/-- All that is not done yet stands behind one of the next. -/
def coverOk (ops : Array Oper) (h : DH) (done : List (Nat × Bool)) (t : DT) : Bool :=
  !stops ops t || (List.range ops.size).all (fun i => done.any (fun p => p.1 == i) || (heads t).contains i || (heads t).any (fun e => (ancOf h i).contains e))

def isFork : DT → Bool
  | .fork _ _ => true
  | _ => false

def ordOk (ops : Array Oper) : DH → List (Nat × Bool) → DT → Bool
  | _, done, .nil => done.length == ops.size
  | h, done, .fork a b => stops ops a && stops ops b && ordOk ops h done a && ordOk ops h done b
  | h, done, .cons d rem => (match ops[d.j]? with
    | some o => (ancOf h d.j).all (fun i => done.any (fun p => p.1 == i)) && itemOk ops (ancOf h d.j) d o done && (match isEff o.op with
      | true => coverOk ops (h.ext d.j) ((d.j, d.keep) :: done) rem && ordOk ops (h.ext d.j) ((d.j, d.keep) :: done) rem
      | false => coverOk ops h ((d.j, d.keep) :: done) rem && ordOk ops h ((d.j, d.keep) :: done) rem)
    | none => false)

def edgesOk (ops : Array Oper) (h : DH) (j : Nat) (o : Oper) : Bool :=
  o.after.all (fun e => Nat.blt e.on ops.size && (!Region.binds .text e || Nat.blt e.on j) && (!Region.binds .gc e || Nat.blt (h.rank.getD e.on 0) (h.rank.getD j 0))) &&
  (ancOf h j).all (fun i => o.after.any (fun e => Region.binds .any e && (e.on == i || (ancOf h e.on).contains i)))

def drawOk (ops : Array Oper) (h : DH) : Bool :=
  ordOk ops h [] h.order && coverOk ops h [] h.order && (List.range ops.size).all (fun j => match ops[j]? with
    | some o => edgesOk ops h j o
    | none => false)

/-! ### Operations that leave the heap -/
section
variable {T : Nat → Ty} {env : Env} {H H' : Hp} {clk clk' : Nat} {o : Oper} {av : AV}

theorem evOut_keeps (h : isEff o.op = false) (he : evOut T env H clk o = some (av, H', clk')) : H' = H ∧ clk' = clk := by
  unfold evOut at he
  split at he
  · cases he; exact ⟨rfl, rfl⟩
  · rename_i hnone
    clear hnone
    obtain ⟨dst, op, type, pos, after, guard⟩ := o
    simp only at h he
    split at he <;> try (simp only [isEff] at h; cases h)
    · split at he
      · cases he; exact ⟨rfl, rfl⟩
      · cases he
    · split at he
      · rename_i c hc
        simp only [isEff, hc] at h
        cases h
      · rename_i c hc
        simp only [isEff, hc] at h
        cases h
      · rename_i c hc
        simp only [isEff, hc] at h
        cases h
      · cases he
    · cases he

theorem evPure_apart {op : Op} (h : isEff op = false) (hr : isRead op = false) : evPure T env H op = evPure T env H' op := by
  cases op <;> simp only [isEff, isRead] at h hr <;> try (first | rfl | exact absurd h (by decide) | exact absurd hr (by decide))
  case binOp op t x y yt =>
    simp only [evPure]
    cases op <;> first | (simp at hr; done) | rfl
  case call c =>
    simp only [evPure]
    split at h
    · rename_i hc; rw [hc] at hr; simp at hr
    · rename_i hc; simp only [hc]
    · rename_i hc; simp only [hc]
    · cases h

theorem evOut_apart (h : isEff o.op = false) (hr : isRead o.op = false) (he : evOut T env H clk o = some (av, H, clk)) : evOut T env H' clk' o = some (av, H', clk') := by
  unfold evOut at he ⊢
  rw [evPure_apart (H' := H') h hr] at he
  split at he
  · cases he
    rename_i hav
    simp only
  · rename_i hnone
    exfalso
    obtain ⟨dst, op, type, pos, after, guard⟩ := o
    simp only at h hr he
    split at he <;> try (simp only [isEff] at h; cases h)
    · simp [isRead] at hr
    · split at he
      · rename_i c hc
        simp only [isEff, hc] at h
        cases h
      · rename_i c hc
        simp only [isEff, hc] at h
        cases h
      · rename_i c hc
        simp only [isEff, hc] at h
        cases h
      · cases he
    · cases he

/-- The names that an operation looks at agree. -/
theorem mem_looks {ops : Array Oper} {t : Nat} (h : Operand.tmp t ∈ o.op.operands) : t ∈ o.looksAt ops := by
  unfold Oper.looksAt
  exact List.mem_append_left _ (List.mem_filterMap.2 ⟨.tmp t, by simpa using h, rfl⟩)

theorem opnd_agree {ops : Array Oper} {env' : Env} (h : ∀ t, t ∈ o.looksAt ops → look env t = look env' t) : ∀ x, x ∈ o.op.operands → opnd env x = opnd env' x := by
  intro x hx
  cases x with
  | tmp t => exact h t (mem_looks hx)
  | _ => rfl

theorem gval_agree {ops : Array Oper} {env' : Env} {g : Nat} {want : Bool} (hg : o.guard = some (g, want)) (h : ∀ t, t ∈ o.looksAt ops → look env t = look env' t) : gval ops env g = gval ops env' g := by
  unfold gval
  cases hd : (ops[g]?).bind (·.dst) with
  | none => rfl
  | some t =>
    have : t ∈ o.looksAt ops := by
      unfold Oper.looksAt
      refine List.mem_append_right _ ?_
      simp [hg, hd]
    simp only [h t this]

theorem outK_agree {P : Program} {md : Nat → Md} {nt : Nat} {ops : Array Oper} {env' : Env} {Q : AV → Hp → Nat → Prop} (h : ∀ t, t ∈ o.looksAt ops → look env t = look env' t) : outK P md T env H clk nt o Q = outK P md T env' H clk nt o Q := by
  have ho := opnd_agree (ops := ops) h
  unfold outK
  rw [evOut_congr T H clk o ho]
  split
  · rfl
  · unfold otherK
    split
    · rename_i c hc
      have hargs : c.args.toList.map (opnd env) = c.args.toList.map (opnd env') := List.map_congr_left fun x hx => ho x (by rw [hc]; simp_all [Op.operands, Call.operands])
      rw [hargs]
      split
      · rename_i x hx
        rw [ho x (by rw [hc]; simp [Op.operands, Call.operands, hx])]
      · rfl
    · rename_i op t x y yt hc
      rw [ho x (by rw [hc]; simp [Op.operands]), ho y (by rw [hc]; simp [Op.operands])]
    · rfl
end
end Go.Proofs.YteijmljgodikiaaGreatZ
