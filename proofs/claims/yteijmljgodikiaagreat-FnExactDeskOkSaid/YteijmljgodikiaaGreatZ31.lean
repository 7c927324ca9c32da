/- What a function computes, as a plain function that may fail: how a walk is led by it. Own work. -/
import Derived.Test.YteijmljgodikiaaGreatZ30
set_option linter.all false
namespace Go.Proofs.YteijmljgodikiaaGreatZ

/-! ### Plain functions that may fail -/
def chk {α : Type} (c : Prop) [Decidable c] (k : Option α) : Option α := if c then k else none
theorem chk_some {α : Type} {c : Prop} [Decidable c] {k : Option α} {r : α} (h : chk c k = some r) : c ∧ k = some r := by
  unfold chk at h
  split at h
  · exact ⟨‹_›, h⟩
  · cases h
theorem chk_pos {α : Type} {c : Prop} [Decidable c] (hc : c) (k : Option α) : chk c k = k := if_pos hc
def obnd {α β : Type} (o : Option α) (k : α → Option β) : Option β := match o with | some x => k x | none => none
theorem obnd_some {α β : Type} {o : Option α} {k : α → Option β} {r : β} (h : obnd o k = some r) : ∃ x, o = some x ∧ k x = some r := by
  cases o with
  | none => cases h
  | some x => exact ⟨x, rfl, h⟩
theorem obnd_pos {α β : Type} {o : Option α} {x : α} (h : o = some x) (k : α → Option β) : obnd o k = k x := by rw [h]; rfl
theorem ite_some {α : Type} {c : Prop} [Decidable c] {A B : Option α} {r : α} (h : (if c then A else B) = some r) : (c ∧ A = some r) ∨ (¬ c ∧ B = some r) := by
  by_cases hc : c
  · rw [if_pos hc] at h; exact .inl ⟨hc, h⟩
  · rw [if_neg hc] at h; exact .inr ⟨hc, h⟩
/-- What lies at a place of a list. -/
def getI {α : Type} (xs : List α) (n : Int) : Option α := if 0 ≤ n then xs[n.toNat]? else none
theorem getI_some {α : Type} {xs : List α} {n : Int} {x : α} (h : getI xs n = some x) : 0 ≤ n ∧ xs[n.toNat]? = some x ∧ n.toNat < xs.length := by
  unfold getI at h
  split at h
  · exact ⟨‹_›, h, (List.getElem?_eq_some_iff.1 h).1⟩
  · cases h

theorem getI_nat {α : Type} {xs : List α} {k : Nat} {x : α} (h : getI xs (k : Int) = some x) : xs[k]? = some x ∧ k < xs.length := by
  obtain ⟨_, h2, h3⟩ := getI_some h
  rw [Int.toNat_natCast] at h2 h3
  exact ⟨h2, h3⟩
/-- What lies at a place of a text. -/
def getS (s : ByteArray) (n : Int) : Option UInt8 := if 0 ≤ n then s[n.toNat]? else none
theorem getS_some {s : ByteArray} {n : Int} {x : UInt8} (h : getS s n = some x) : 0 ≤ n ∧ s[n.toNat]? = some x ∧ n.toNat < s.size := by
  unfold getS at h
  split at h
  · refine ⟨‹_›, h, ?_⟩
    rcases Nat.lt_or_ge n.toNat s.size with hlt | hge
    · exact hlt
    · rw [getElem?_neg s n.toNat (by simpa using hge)] at h; cases h
  · cases h
theorem getS_nat {s : ByteArray} {k : Nat} {x : UInt8} (h : getS s (k : Int) = some x) : s[k]? = some x ∧ k < s.size := by
  obtain ⟨_, h2, h3⟩ := getS_some h
  rw [Int.toNat_natCast] at h2 h3
  exact ⟨h2, h3⟩
open Classical in
/-- A slice is asked whether it is nil: an empty one may be or not. -/
noncomputable def nilQ {α R : Type} (xs : List α) (A B : Option R) : Option R := if xs = [] then (if A = B then A else none) else B
theorem nilQ_some {α R : Type} {xs : List α} {A B : Option R} {r : R} (h : nilQ xs A B = some r) : (xs = [] ∧ A = some r ∧ B = some r) ∨ (xs ≠ [] ∧ B = some r) := by
  unfold nilQ at h
  split at h
  · split at h
    · rename_i h1 h2
      exact .inl ⟨h1, h, by rw [← h2]; exact h⟩
    · cases h
  · exact .inr ⟨‹_›, h⟩
theorem evIsNil_ne {α : Type} {e : α → List AV} {xs : List α} (h : xs ≠ []) (H : Hp) : evIsNil H (.sl (rowsOf e xs)) = some false := by
  cases xs with
  | nil => contradiction
  | cons x xs => rfl
theorem evIsNil_nil (H : Hp) : evIsNil H (.lit (.slice none 0 0)) = some true := rfl
theorem evIsNil_cons (H : Hp) (r : List AV) (rs : List (List AV)) : evIsNil H (.sl (r :: rs)) = some false := rfl
theorem evIsNil_empty (H : Hp) : evIsNil H (.sl []) = none := rfl
theorem evIsNil_ref (H : Hp) (id ver i n : Nat) : evIsNil H (.ref id ver i n) = match hget H id with
    | some (v, _) => if v = ver then (if 0 < n then some false else none) else none
    | none => none := rfl
/-- What a closure holds: it is the same for everybody. -/
def KC (k : List AV) : Prop := (∀ H, trL [] H true k = some k) ∧ ∀ ρ, renL ρ k = k

inductive Step (σ ρ : Type) where
  | next (s : σ)
  | done (r : ρ)

inductive Iter {σ ρ : Type} (body : σ → Option (Step σ ρ)) : Nat → σ → ρ → Prop
  | done {s r} : body s = some (.done r) → Iter body 0 s r
  | next {n s s' r} : body s = some (.next s') → Iter body n s' r → Iter body (n + 1) s r

open Classical in
noncomputable def loopO {σ ρ : Type} (body : σ → Option (Step σ ρ)) (s : σ) : Option ρ :=
  if h : ∃ r n, Iter body n s r then some h.choose else none

theorem Iter.det {σ ρ : Type} {body : σ → Option (Step σ ρ)} {n m : Nat} {s : σ} {r t : ρ} (h : Iter body n s r) (g : Iter body m s t) : r = t := by
  induction h generalizing m with
  | done h => cases g with
    | done g => rw [h] at g; cases g; rfl
    | next g _ => rw [h] at g; cases g
  | next h _ ih => cases g with
    | done g => rw [h] at g; cases g
    | next g g2 => rw [h] at g; cases g; exact ih g2

theorem loopO_iff {σ ρ : Type} {body : σ → Option (Step σ ρ)} {s : σ} {r : ρ} : loopO body s = some r ↔ ∃ n, Iter body n s r := by
  unfold loopO
  constructor
  · intro h
    split at h
    · rename_i hx
      cases h
      exact hx.choose_spec
    · cases h
  · intro ⟨n, h⟩
    have hx : ∃ r n, Iter body n s r := ⟨r, n, h⟩
    rw [dif_pos hx]
    obtain ⟨m, hm⟩ := hx.choose_spec
    rw [hm.det h]

/-- One round more. -/
theorem loopO_eq {σ ρ : Type} (body : σ → Option (Step σ ρ)) (s : σ) : loopO body s = (match body s with
    | some (.next s') => loopO body s'
    | some (.done r) => some r
    | none => none) := by
  apply Option.ext
  intro r
  rw [loopO_iff]
  constructor
  · rintro ⟨n, h⟩
    cases h with
    | done h => rw [h]
    | next h g => rw [h]; exact loopO_iff.2 ⟨_, g⟩
  · intro h
    split at h
    · rename_i s' hs
      obtain ⟨n, g⟩ := loopO_iff.1 h
      exact ⟨_, .next hs g⟩
    · rename_i r' hs
      cases h
      exact ⟨_, .done hs⟩
    · cases h

def Goes {σ ρ : Type} (body : σ → Option (Step σ ρ)) (r : ρ) (n : Nat) : Step σ ρ → Prop
  | .next s' => ∃ m, m < n ∧ Iter body m s' r
  | .done r' => r' = r

/-- Where a round ends. -/
def NextQ {σ ρ : Type} (body : σ → Option (Step σ ρ)) (r : ρ) (n : Nat) (S : σ → St) (st : St) : Prop := ∃ m, m < n ∧ ∃ s1, Iter body m s1 r ∧ st = S s1

/-- A loop, led by the plain function of its body. -/
theorem loopW_loopO {σ ρ : Type} {A : St → (Exit → St → Prop) → Prop} {Q : Exit → St → Prop} {m1 : Mark A} {m2 : Mark Q} {st : St} (acts : List Ax) (S : σ → St) {body : σ → Option (Step σ ρ)} {s0 : σ} {r : ρ}
    (h : loopO body s0 = some r) (h0 : loopK acts (fun st1 => st1 = S s0) st)
    (hb : ∀ n s b, body s = some b → Goes body r n b → A (S s) (fun e st' => match e with
      | .normal => loopK acts (NextQ body r n S) st'
      | e => Q e st')) : loopW A Q m1 m2 st := by
  obtain ⟨n0, hn0⟩ := loopO_iff.1 h
  refine ⟨acts, fun n st1 => ∃ s1, Iter body n s1 r ∧ st1 = S s1, n0, ?_, ?_⟩
  · unfold loopK at h0 ⊢
    split at h0
    · rename_i st' he
      exact ⟨s0, hn0, h0⟩
    · exact h0
  · rintro n st1 ⟨s1, hi, rfl⟩
    cases hi with
    | done hd => exact hb _ _ _ hd rfl
    | next hd hi => exact hb _ _ _ hd ⟨_, Nat.lt_succ_self _, hi⟩

/-- The end of a round. -/
theorem next_of {σ ρ : Type} {body : σ → Option (Step σ ρ)} {r : ρ} {n : Nat} {S : σ → St} {s' : σ} {st : St} (hg : Goes body r n (.next s')) (hs : st = S s') : NextQ body r n S st := by
  obtain ⟨m, hm, hi⟩ := hg
  exact ⟨m, hm, s', hi, hs⟩

theorem done_of {σ ρ : Type} {body : σ → Option (Step σ ρ)} {r v : ρ} {n : Nat} (hg : Goes body r n (.done v)) : r = v := Eq.symm hg

/-! ### Where ways meet -/
section
variable {P : Program} {md : Nat → Md} {T : Nat → Ty} {nt : Nat} {hi : Hint}

def acodeJ (P : Program) (md : Nat → Md) (T : Nat → Ty) (nt : Nat) (hi : Hint) (c : Code) (st : St) (Q : Exit → St → Prop) : Prop := acode P md T nt hi c st Q

def firstRegion : Code → Option Nat
  | .region id _ _ => some id
  | .seq x _ => firstRegion x
  | .block _ x => firstRegion x
  | _ => none

theorem acode_enter {st st1 : St} : ∀ {c : Code} {id : Nat} {Q : Exit → St → Prop}, firstRegion c = some id → doActs (hi.acts id) st = some st1 → doActs (hi.acts id) st1 = some st1 → acode P md T nt hi c st1 Q → acode P md T nt hi c st Q
  | .region id ops draw, id', Q, hf, h1, h2, h => by
    simp only [firstRegion, Option.some.injEq] at hf
    subst hf
    simp only [acode, aregion, h1, h2] at h ⊢
    exact h
  | .seq x y, id, Q, hf, h1, h2, h => by
    simp only [firstRegion] at hf
    simp only [acode] at h ⊢
    exact acode_enter hf h1 h2 h
  | .block i x, id, Q, hf, h1, h2, h => by
    simp only [firstRegion] at hf
    simp only [acode] at h ⊢
    exact acode_enter hf h1 h2 h
  | .skip, _, _, hf, _, _, _ => by simp [firstRegion] at hf
  | .cond .., _, _, hf, _, _, _ => by simp [firstRegion] at hf
  | .loop _, _, _, hf, _, _, _ => by simp [firstRegion] at hf
  | .exit _, _, _, hf, _, _, _ => by simp [firstRegion] at hf
  | .ret, _, _, hf, _, _, _ => by simp [firstRegion] at hf
  | .scope _, _, _, hf, _, _, _ => by simp [firstRegion] at hf
  | .rangeFunc .., _, _, hf, _, _, _ => by simp [firstRegion] at hf
  | .label _, _, _, hf, _, _, _ => by simp [firstRegion] at hf
  | .goto _, _, _, hf, _, _, _ => by simp [firstRegion] at hf
  | .refuse _, _, _, hf, _, _, _ => by simp [firstRegion] at hf

/-- Two codes one behind the other: the second is walked once, from the states that the first leads to. -/
theorem cut {V : Type} (J : V → St) (pre : V → Prop) {x y : Code} {st : St} {Q : Exit → St → Prop} (hy : ∀ v, pre v → acode P md T nt hi y (J v) Q)
    (hx : (∀ v, pre v → acodeJ P md T nt hi y (J v) Q) → acode P md T nt hi x st (fun e st' => match e with
      | .normal => acodeJ P md T nt hi y st' Q
      | e => Q e st')) : acode P md T nt hi (.seq x y) st Q := hx hy

theorem join {V : Type} {J : V → St} {pre : V → Prop} {y : Code} {Q : Exit → St → Prop} (hJ : ∀ v, pre v → acodeJ P md T nt hi y (J v) Q) {st : St} (id : Nat) (v : V) (hf : firstRegion y = some id) (hv : pre v)
    (h1 : doActs (hi.acts id) st = some (J v)) (h2 : doActs (hi.acts id) (J v) = some (J v)) : acodeJ P md T nt hi y st Q :=
  acode_enter hf h1 h2 (hJ v hv)
end
end Go.Proofs.YteijmljgodikiaaGreatZ
