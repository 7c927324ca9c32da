/- Shows marked and held, copied; SkewShow. Own work. -/
import Derived.Test.YtgmiaokdnpaglaaYP12
set_option linter.all false
set_option linter.unusedVariables false
set_option linter.unusedSimpArgs false
namespace Go.Proofs.YtgmiaokdnpaglaaY
open Go

/-! ### What marking a show leaves, and that holding it tells the same -/
noncomputable def txt (k : Int) : ByteArray := (m_laws_markText k).getD (ByteArray.mk #[])
theorem markText_txt (k : Int) (hk : k ≤ 2305843009213693952) : m_laws_markText k = some (txt k) := by
  obtain ⟨r, hr⟩ := markText_ok k hk
  unfold txt
  rw [hr]; rfl

def kN (k : Int) (a : List GNode) (i : Nat) : Int := k + ((a.take i).map (fun n => (n.label.length : Int) + 2)).sum
theorem kN_zero (k : Int) (a : List GNode) : kN k a 0 = k := by simp [kN]
theorem kN_succ (k : Int) (a : List GNode) (i : Nat) (h : i < a.length) : kN k a (i + 1) = kN k a i + a[i].label.length + 2 := by
  unfold kN
  rw [take_succ_of h, List.map_append, List.sum_append]
  simp
  omega
theorem kN_bound (k : Int) (a : List GNode) (hn : ∀ n, n ∈ a → FitN n) : ∀ i, i ≤ a.length → k ≤ kN k a i ∧ kN k a i ≤ k + (i : Int) * 1048578
  | 0, _ => by rw [kN_zero]; omega
  | i + 1, h => by
    have ih := kN_bound k a hn i (by omega)
    have hl := (hn _ (List.getElem_mem (by omega : i < a.length))).label
    rw [kN_succ k a i (by omega)]
    omega
noncomputable def ndF (k : Int) (a : List GNode) (x : GNode) (j : Nat) : GNode := ⟨txt (kN k a j), mkI (kN k a j + 1) x.label.length, kN k a j + 1 + x.label.length⟩

theorem getI_half {α : Type} (f : α → Nat → α) (xs : List α) (i : Nat) (h : i < xs.length) : getI (half2 f xs i) (i : Int) = some xs[i] := by
  unfold getI; rw [if_pos (by omega), Int.toNat_natCast, half2_get f xs i h]

theorem markNodeS_eq (a : List GNode) (k : Int) (ha : a.length ≤ 1048576) (hn : ∀ n, n ∈ a → FitN n) (h0 : 0 ≤ k) (hk : k ≤ 1125899906842624) : m_laws_markNodeS a k = some (kN k a a.length, half2 (ndF k a) a a.length) := by
  unfold m_laws_markNodeS
  have key : loopO m_laws_markNodeS_L1 (kN k a 0, ((0 : Nat) : Int), half2 (ndF k a) a 0) = some (kN k a a.length, half2 (ndF k a) a a.length) := by
    refine loopO_to a.length (fun i => (kN k a i, (i : Int), half2 (ndF k a) a i)) ?_ ?_
    · intro i hi
      have hb := kN_bound k a hn i (by omega)
      have hl : a[i].label.length ≤ 1048576 := (hn _ (List.getElem_mem hi)).label
      have hlen := half2_length (ndF k a) a i (by omega)
      unfold m_laws_markNodeS_L1
      simp only
      rw [if_pos (by omega), markText_txt _ (by omega), getI_half _ _ _ hi]
      simp only [obnd, Int.toNat_natCast]
      have hlt : ∀ z : GNode, i < ((half2 (ndF k a) a i).set i z).length := fun z => by simp; omega
      rw [getI_lt (hlt _)]
      simp only [List.getElem_set_self]
      rw [wr (x := kN k a i + 1) (by omega) (by omega), markIntS_eq _ _ hl (by omega) (by omega)]
      simp only
      rw [chk_pos (by rw [mkI_length]), getI_lt (by simp; omega)]
      simp only [List.getElem_set_self, List.set_set]
      rw [wr (x := kN k a i + 1 + (a[i].label.length : Int) + 1) (by omega) (by omega), wr (x := (i : Int) + 1) (by omega) (by omega)]
      have st := half2_step (ndF k a) a i hi
      rw [show ndF k a a[i] i = ⟨txt (kN k a i), mkI (kN k a i + 1) a[i].label.length, kN k a i + 1 + a[i].label.length⟩ from rfl] at st
      rw [st, kN_succ k a i hi]
      rw [show kN k a i + 1 + (a[i].label.length : Int) + 1 = kN k a i + (a[i].label.length : Int) + 2 by omega]; rfl
    · have hlen := half2_length (ndF k a) a a.length (by omega)
      unfold m_laws_markNodeS_L1
      simp only
      rw [if_neg (by omega)]
  rw [half2_zero, kN_zero] at key
  rw [show (0 : Int) = ((0 : Nat) : Int) from rfl, key]; rfl

theorem half2_all_get {α : Type} (f : α → Nat → α) (xs : List α) (i : Nat) (h : i < xs.length) : getI (half2 f xs xs.length) (i : Int) = some (f xs[i] i) := by
  rw [half2_all, getI_lt (by simp; exact h)]
  simp

theorem heldNodeS_eq (a : List GNode) (k : Int) (ha : a.length ≤ 1048576) (hn : ∀ n, n ∈ a → FitN n) (h0 : 0 ≤ k) (hk : k ≤ 1125899906842624) : m_laws_heldNodeS (half2 (ndF k a) a a.length) k = some (kN k a a.length) := by
  unfold m_laws_heldNodeS
  have key : loopO (m_laws_heldNodeS_L1 (half2 (ndF k a) a a.length)) (kN k a 0, ((0 : Nat) : Int)) = some (.inl (kN k a a.length)) := by
    have hlen := half2_length (ndF k a) a a.length (by omega)
    refine loopO_to a.length (fun i => (kN k a i, (i : Int))) ?_ ?_
    · intro i hi
      have hb := kN_bound k a hn i (by omega)
      have hl : a[i].label.length ≤ 1048576 := (hn _ (List.getElem_mem hi)).label
      unfold m_laws_heldNodeS_L1
      simp only
      rw [if_pos (by omega), half2_all_get _ _ _ hi, markText_txt _ (by omega), wr (x := kN k a i + 1) (by omega) (by omega), wr (x := (i : Int) + 1) (by omega) (by omega)]
      simp only [obnd]
      simp only [ndF, if_true]
      rw [heldIntS_eq _ _ hl (by omega) (by omega)]
      simp only
      rw [if_neg (by omega), if_pos trivial, wr (x := kN k a i + 1 + (a[i].label.length : Int) + 1) (by omega) (by omega), kN_succ k a i hi]
      rw [show kN k a i + 1 + (a[i].label.length : Int) + 1 = kN k a i + (a[i].label.length : Int) + 2 by omega]; rfl
    · unfold m_laws_heldNodeS_L1
      simp only
      rw [if_neg (by omega)]
  rw [kN_zero] at key
  rw [show (0 : Int) = ((0 : Nat) : Int) from rfl, key]; rfl

def tiF (k : Int) (_ : GTie) (j : Nat) : GTie := ⟨k + 5 * (j : Int), k + 5 * (j : Int) + 1, k + 5 * (j : Int) + 2, k + 5 * (j : Int) + 3, decide (Int.tmod (k + 5 * (j : Int) + 4) 3 = 0)⟩
theorem markTieS_eq (a : List GTie) (k : Int) (ha : a.length ≤ 1048576) (h0 : 0 ≤ k) (hk : k ≤ 1152921504606846976) : m_laws_markTieS a k = some (k + 5 * a.length, half2 (tiF k) a a.length) := by
  unfold m_laws_markTieS
  have key : loopO m_laws_markTieS_L1 (k + 5 * ((0 : Nat) : Int), ((0 : Nat) : Int), half2 (tiF k) a 0) = some (k + 5 * a.length, half2 (tiF k) a a.length) := by
    refine loopO_to a.length (fun i => (k + 5 * (i : Int), (i : Int), half2 (tiF k) a i)) ?_ ?_
    · intro i hi
      have hlen := half2_length (tiF k) a i (by omega)
      unfold m_laws_markTieS_L1
      simp only
      rw [if_pos (by omega), getI_half _ _ _ hi]
      simp only [obnd, Int.toNat_natCast]
      rw [wr (x := k + 5 * (i : Int) + 1) (by omega) (by omega), wr (x := k + 5 * (i : Int) + 1 + 1) (by omega) (by omega), wr (x := k + 5 * (i : Int) + 1 + 1 + 1) (by omega) (by omega), wr (x := k + 5 * (i : Int) + 1 + 1 + 1 + 1) (by omega) (by omega), wr (x := k + 5 * (i : Int) + 1 + 1 + 1 + 1 + 1) (by omega) (by omega), wr (x := (i : Int) + 1) (by omega) (by omega)]
      rw [getI_lt (by simp; omega)]
      simp only [List.getElem_set_self, List.set_set]
      rw [getI_lt (by simp; omega)]
      simp only [List.getElem_set_self, List.set_set]
      rw [getI_lt (by simp; omega)]
      simp only [List.getElem_set_self, List.set_set]
      rw [getI_lt (by simp; omega)]
      simp only [List.getElem_set_self, List.set_set]
      have st := half2_step (tiF k) a i hi
      rw [← st]
      unfold tiF
      rw [show k + 5 * (i : Int) + 1 + 1 + 1 + 1 + 1 = k + 5 * ((i + 1 : Nat) : Int) by omega, show k + 5 * (i : Int) + 1 + 1 + 1 + 1 = k + 5 * (i : Int) + 4 by omega, show k + 5 * (i : Int) + 1 + 1 + 1 = k + 5 * (i : Int) + 3 by omega, show k + 5 * (i : Int) + 1 + 1 = k + 5 * (i : Int) + 2 by omega]; rfl
    · have hlen := half2_length (tiF k) a a.length (by omega)
      unfold m_laws_markTieS_L1
      simp only
      rw [if_neg (by omega)]
  rw [half2_zero, show k + 5 * ((0 : Nat) : Int) = k by omega] at key
  rw [show (0 : Int) = ((0 : Nat) : Int) from rfl, key]; rfl
theorem heldTieS_eq (a : List GTie) (k : Int) (ha : a.length ≤ 1048576) (h0 : 0 ≤ k) (hk : k ≤ 1152921504606846976) : m_laws_heldTieS (half2 (tiF k) a a.length) k = some (k + 5 * a.length) := by
  unfold m_laws_heldTieS
  have key : loopO (m_laws_heldTieS_L1 (half2 (tiF k) a a.length)) (k + 5 * ((0 : Nat) : Int), ((0 : Nat) : Int)) = some (.inl (k + 5 * a.length)) := by
    have hlen := half2_length (tiF k) a a.length (by omega)
    refine loopO_to a.length (fun i => (k + 5 * (i : Int), (i : Int))) ?_ ?_
    · intro i hi
      unfold m_laws_heldTieS_L1
      simp only
      rw [if_pos (by omega), half2_all_get _ _ _ hi]
      simp only [obnd]
      rw [wr (x := k + 5 * (i : Int) + 1) (by omega) (by omega), wr (x := k + 5 * (i : Int) + 1 + 1) (by omega) (by omega), wr (x := k + 5 * (i : Int) + 1 + 1 + 1) (by omega) (by omega), wr (x := k + 5 * (i : Int) + 1 + 1 + 1 + 1) (by omega) (by omega), wr (x := k + 5 * (i : Int) + 1 + 1 + 1 + 1 + 1) (by omega) (by omega), wr (x := (i : Int) + 1) (by omega) (by omega)]
      simp only [tiF]
      rw [show k + 5 * (i : Int) + 1 + 1 + 1 + 1 + 1 = k + 5 * ((i + 1 : Nat) : Int) by omega, show k + 5 * (i : Int) + 1 + 1 + 1 + 1 = k + 5 * (i : Int) + 4 by omega, show k + 5 * (i : Int) + 1 + 1 + 1 = k + 5 * (i : Int) + 3 by omega, show k + 5 * (i : Int) + 1 + 1 = k + 5 * (i : Int) + 2 by omega]
      simp only [if_true]; rfl
    · unfold m_laws_heldTieS_L1
      simp only
      rw [if_neg (by omega)]
  rw [show k + 5 * ((0 : Nat) : Int) = k by omega] at key
  rw [show (0 : Int) = ((0 : Nat) : Int) from rfl, key]; rfl

/-- A show is marked, and what is marked is held. -/
theorem markShow_held (g : GShow) (k : Int) (hf : FitS g) (h0 : 0 ≤ k) (hk : k ≤ 1073741824) : ∃ q, m_laws_markShow g k = some q ∧ 0 ≤ q.1 ∧ q.1 ≤ 1152921504605798400 ∧ q.2.1.length = g.nodes.length ∧ q.2.2.length = g.ties.length ∧ m_laws_heldShow ⟨q.2.1, q.2.2, g.horizon⟩ k = some q.1 := by
  have h1 := hf.nodes
  have h2 := hf.ties
  have hb := kN_bound k g.nodes hf.node g.nodes.length (by omega)
  have e1 := markNodeS_eq g.nodes k hf.nodes hf.node h0 (by omega)
  have e2 := markTieS_eq g.ties (kN k g.nodes g.nodes.length) hf.ties (by omega) (by omega)
  have e3 := heldNodeS_eq g.nodes k hf.nodes hf.node h0 (by omega)
  have e4 := heldTieS_eq g.ties (kN k g.nodes g.nodes.length) hf.ties (by omega) (by omega)
  unfold m_laws_markShow
  rw [e1]
  simp only [obnd, e2]
  refine ⟨_, rfl, by simp only; omega, by simp only; omega, half2_length _ _ _ (by omega), half2_length _ _ _ (by omega), ?_⟩
  unfold m_laws_heldShow
  simp only [e3, obnd]
  rw [if_neg (by omega), e4]
  simp only
  rw [if_neg (by omega)]

/-! ### Copied -/
theorem Clone_Tie_eq (a : List GTie) (ha : a.length ≤ 1048576) : m_slices_Clone_Tie a = some a := by
  unfold m_slices_Clone_Tie nilQ
  rw [chk_pos (by omega), chk_pos (by omega)]
  by_cases h : a = []
  · subst h; rw [if_pos rfl, if_pos rfl]
  · rw [if_neg h]
theorem l08Copy_eq (s : GShow) (h : FitS s) : m_spec_l08Copy s = some s := by
  have h1 := h.nodes
  have h2 := h.ties
  unfold m_spec_l08Copy
  rw [chk_pos (by omega), chk_pos (by omega)]
  have key : loopO (m_spec_l08Copy_L1 s.nodes ((s.nodes.length : Nat) : Int) s.horizon s.ties) (((0 : Nat) : Int), s.nodes.take 0) = some s.nodes := by
    refine loopO_to s.nodes.length (fun i => ((i : Int), s.nodes.take i)) ?_ ?_
    · intro i hi
      have hl : s.nodes[i].label.length ≤ 1048576 := (h.node _ (List.getElem_mem hi)).label
      have hlen : (s.nodes.take i).length = i := by simp; omega
      unfold m_spec_l08Copy_L1
      simp only
      rw [if_pos (by omega), getI_lt hi, wr (x := (i : Int) + 1) (by omega) (by omega)]
      simp only [obnd]
      rw [chk_pos (by omega), chk_pos (by omega), chk_pos (by omega), chk_pos (by omega), take_succ_of hi]; rfl
    · unfold m_spec_l08Copy_L1
      simp only
      rw [if_neg (by omega), List.take_length]
  rw [List.take_zero] at key
  rw [show (0 : Int) = ((0 : Nat) : Int) from rfl, key]; rfl
theorem copyShow_eq (s : GShow) (h : FitS s) : m_impl_copyShow s = some s := by
  have h1 := h.nodes
  have h2 := h.ties
  unfold m_impl_copyShow
  rw [Clone_Tie_eq _ h.ties]
  simp only [obnd]
  have key : loopO (m_impl_copyShow_L1 s.nodes ((s.nodes.length : Nat) : Int) s.horizon s.ties) (((0 : Nat) : Int), s.nodes.take 0) = some s.nodes := by
    refine loopO_to s.nodes.length (fun i => ((i : Int), s.nodes.take i)) ?_ ?_
    · intro i hi
      have hl : s.nodes[i].label.length ≤ 1048576 := (h.node _ (List.getElem_mem hi)).label
      have hlen : (s.nodes.take i).length = i := by simp; omega
      unfold m_impl_copyShow_L1
      simp only
      rw [if_pos (by omega), getI_lt hi, wr (x := (i : Int) + 1) (by omega) (by omega)]
      simp only [obnd]
      rw [Clone_int_eq _ hl]
      simp only
      rw [chk_pos (by omega), chk_pos (by omega), take_succ_of hi]; rfl
    · unfold m_impl_copyShow_L1
      simp only
      rw [if_neg (by omega), List.take_length]
  rw [List.take_zero] at key
  rw [show (0 : Int) = ((0 : Nat) : Int) from rfl, key]

/-! ### SkewShow -/
def noShow : GShow := ⟨[], [], 0⟩
theorem noShow_fit : FitS noShow := ⟨by decide, by decide, by simp [noShow]⟩
def secP (s : GShow) (l : List Int) (i : Nat) : Bool := decide ((0 ≤ l.getD i 0 ∧ l.getD i 0 < s.nodes.length) ∧ (0 < i → l.getD (i - 1) 0 < l.getD i 0))
def secOk (s : GShow) (l : List Int) : Bool := decide (∀ i, i < l.length → secP s l i = true)
def apartT (l : List Int) (t : GTie) : Bool := !(decide (t.from_ ∈ l) == decide (t.to ∈ l))
def skF (l : List Int) (d : Int) (t : GTie) (_ : Nat) : GTie := if apartT l t = true then ⟨t.from_, t.to, IntKind.wrap .i64 (t.low + d), IntKind.wrap .i64 (t.high - d), t.free⟩ else t
def skewed (s : GShow) (l : List Int) (d : Int) : GShow := ⟨s.nodes, half2 (skF l d) s.ties s.ties.length, s.horizon⟩
def skewOf (s : GShow) (l : List Int) (d : Int) : GShow × Bool :=
  if showOk s = true ∧ (0 ≤ d ∧ d ≤ 20) ∧ secOk s l = true then
    (if s.ties.any (fun t => apartT l t && t.free) = true then (noShow, false)
    else if showOk (skewed s l d) = true then (skewed s l d, true) else (noShow, false))
  else (noShow, false)
theorem skewed_fit (s : GShow) (l : List Int) (d : Int) (h : FitS s) : FitS (skewed s l d) :=
  ⟨h.nodes, by show (half2 _ _ _).length ≤ _; rw [half2_length _ _ _ (by omega)]; exact h.ties, h.node⟩
theorem skewOf_fit (s : GShow) (l : List Int) (d : Int) (h : FitS s) : FitS (skewOf s l d).1 := by
  unfold skewOf
  split
  · split
    · exact noShow_fit
    · split
      · exact skewed_fit s l d h
      · exact noShow_fit
  · exact noShow_fit

theorem any_find {α ρ : Type} {xs : List α} {q : α → Bool} {a b : ρ} : (match xs.findIdx? q with | none => a | some _ => b) = if xs.any q = true then b else a := by
  have h := firstI_any (xs := xs) (q := q)
  unfold firstI at h
  cases hf : xs.findIdx? q with
  | none => rw [hf] at h; rw [← h]; rfl
  | some j => rw [hf] at h; rw [← h]; simp

theorem SkewShow_impl (s : GShow) (l : List Int) (d : Int) (h : FitS s) (hl : l.length ≤ 1048576) : m_impl_SkewShow s l d = some (skewOf s l d) := by
  have hs := h.small
  have h2 := h.ties
  unfold m_impl_SkewShow skewOf
  rw [ShowOk_impl s hs]
  simp only [obnd]
  cases hA : showOk s
  · rw [if_neg (by simp), if_neg (by simp)]; rfl
  · rw [if_pos rfl]
    unfold m_impl_isUpTo
    by_cases hd : 0 ≤ d ∧ d ≤ 20
    · rw [if_pos hd.1]
      simp only
      rw [if_pos (decide_eq_true hd.2)]
      have key : loopO (m_impl_SkewShow_L1 l d ((l.length : Nat) : Int) s.nodes s.ties s.horizon) ((0 : Nat) : Int) = some (if ∀ i, i < l.length → secP s l i = true then .inl () else .inr (noShow, false)) := by
        refine loopO_all l.length (fun i => (i : Int)) (secP s l) ?_ ?_ ?_
        · intro i hi hp
          unfold secP at hp
          rw [decide_eq_true_eq] at hp
          unfold m_impl_SkewShow_L1
          rw [if_pos (by omega), getI_D hi, wr (x := (i : Int) + 1) (by omega) (by omega)]
          simp only [obnd, isNode_eq]
          rw [if_pos (decide_eq_true hp.1)]
          by_cases h0 : 0 < i
          · rw [if_pos (by omega), wr (x := (i : Int) - 1) (by omega) (by omega), show (i : Int) - 1 = ((i - 1 : Nat) : Int) by omega, getI_D (by omega)]
            simp only
            rw [if_neg (by have := hp.2 h0; omega)]; rfl
          · rw [if_neg (by omega)]; rfl
        · intro i hi hp
          unfold secP at hp
          rw [decide_eq_false_iff_not] at hp
          unfold m_impl_SkewShow_L1
          rw [if_pos (by omega), getI_D hi]
          simp only [obnd, isNode_eq]
          by_cases h1 : 0 ≤ l.getD i 0 ∧ l.getD i 0 < (s.nodes.length : Int)
          · rw [if_pos (decide_eq_true h1)]
            by_cases h0 : 0 < i
            · rw [if_pos (by omega), wr (x := (i : Int) - 1) (by omega) (by omega), show (i : Int) - 1 = ((i - 1 : Nat) : Int) by omega, getI_D (by omega)]
              simp only
              rw [if_pos (by omega)]; rfl
            · exact absurd ⟨h1, fun h => absurd h h0⟩ hp
          · rw [if_neg (by rw [decide_eq_false h1]; simp)]; rfl
        · unfold m_impl_SkewShow_L1
          rw [if_neg (by omega)]
      rw [show (0 : Int) = ((0 : Nat) : Int) from rfl, key]
      by_cases hS : ∀ i, i < l.length → secP s l i = true
      · have hS' : secOk s l = true := decide_eq_true hS
        rw [if_pos hS, if_pos ⟨trivial, hd, hS'⟩, copyShow_eq s h]
        simp only
        have key2 : loopO (m_impl_SkewShow_L2 l d ((s.ties.length : Nat) : Int) s.horizon s.nodes) (((0 : Nat) : Int), half2 (skF l d) s.ties 0) = some (match s.ties.findIdx? (fun t => apartT l t && t.free) with | none => .inl (half2 (skF l d) s.ties s.ties.length) | some _ => .inr (noShow, false)) := by
          refine loopO_idx s.ties (fun t => apartT l t && t.free) (fun i => ((i : Int), half2 (skF l d) s.ties i)) (rT := .inl (half2 (skF l d) s.ties s.ties.length)) (fun _ => (Sum.inr (noShow, false) : Sum (List GTie) (GShow × Bool))) ?_ ?_ ?_
          · intro i hi hq
            have st := half2_step (skF l d) s.ties i hi
            have hlen := half2_length (skF l d) s.ties i (by omega)
            unfold m_impl_SkewShow_L2
            simp only
            rw [if_pos (by omega), getI_half _ _ _ hi, wr (x := (i : Int) + 1) (by omega) (by omega)]
            simp only [obnd]
            rw [Contains_eq _ _ (by unfold Cnt; omega), Contains_eq _ _ (by unfold Cnt; omega)]
            simp only [Int.toNat_natCast]
            by_cases ha : apartT l s.ties[i] = true
            · have hne : ¬ decide (s.ties[i].from_ ∈ l) = decide (s.ties[i].to ∈ l) := by
                unfold apartT at ha; simpa using ha
              rw [if_neg hne]
              rw [ha, Bool.true_and] at hq
              rw [if_neg (by rw [hq]; simp), getI_lt (by simp; omega)]
              simp only [List.getElem_set_self, List.set_set]
              rw [← st, skF, if_pos ha, hq]; rfl
            · have he : decide (s.ties[i].from_ ∈ l) = decide (s.ties[i].to ∈ l) := by
                unfold apartT at ha; simpa using ha
              rw [if_pos he, ← st, skF, if_neg ha, set_same (half2_get (skF l d) s.ties i hi)]; rfl
          · intro i hi hq
            unfold m_impl_SkewShow_L2
            simp only
            rw [if_pos (by omega), getI_half _ _ _ hi]
            simp only [obnd]
            rw [Contains_eq _ _ (by unfold Cnt; omega), Contains_eq _ _ (by unfold Cnt; omega)]
            simp only
            rw [Bool.and_eq_true] at hq
            have hne : ¬ decide (s.ties[i].from_ ∈ l) = decide (s.ties[i].to ∈ l) := by
              have := hq.1; unfold apartT at this; simpa using this
            rw [if_neg hne, if_pos hq.2]; rfl
          · unfold m_impl_SkewShow_L2
            simp only
            rw [if_neg (by omega)]
        rw [any_find, half2_zero] at key2
        rw [key2]
        cases hany : s.ties.any (fun t => apartT l t && t.free)
        · rw [if_neg (by simp), if_neg (by simp)]
          simp only
          rw [show (GShow.mk s.nodes (half2 (skF l d) s.ties s.ties.length) s.horizon) = skewed s l d from rfl, ShowOk_impl _ (skewed_fit s l d h).small]
          simp only
          cases showOk (skewed s l d) <;> rfl
        · rw [if_pos rfl, if_pos rfl]
      · have hS' : ¬ secOk s l = true := by unfold secOk; rw [decide_eq_false hS]; simp
        rw [if_neg hS, if_neg (fun hh => hS' hh.2.2)]
    · by_cases h0 : 0 ≤ d
      · rw [if_pos h0]
        simp only
        rw [if_neg (by rw [decide_eq_false (by omega)]; simp), if_neg (fun hh => hd hh.2.1)]; rfl
      · rw [if_neg h0]
        simp only
        rw [if_neg (by simp), if_neg (fun hh => hd hh.2.1)]; rfl

theorem SkewShow_spec (s : GShow) (l : List Int) (d : Int) (h : FitS s) (hl : l.length ≤ 1048576) : m_spec_SkewShow s l d = some (skewOf s l d) := by
  have hs := h.small
  have h1' := h.nodes
  have h2 := h.ties
  unfold m_spec_SkewShow skewOf
  rw [ShowOk_spec s hs]
  simp only [obnd]
  cases hA : showOk s
  · rw [if_neg (by simp), if_neg (by simp)]; rfl
  · rw [if_pos rfl, l01In_eq]
    simp only
    by_cases hd : 0 ≤ d ∧ d ≤ 20
    · rw [if_pos (decide_eq_true hd)]
      have key : loopO (m_spec_SkewShow_L1 l d ((l.length : Nat) : Int) s.nodes s.ties s.horizon) ((0 : Nat) : Int) = some (if ∀ i, i < l.length → secP s l i = true then .inl () else .inr (noShow, false)) := by
        refine loopO_all l.length (fun i => (i : Int)) (secP s l) ?_ ?_ ?_
        · intro i hi hp
          unfold secP at hp
          rw [decide_eq_true_eq] at hp
          unfold m_spec_SkewShow_L1
          rw [if_pos (by omega), getI_D hi, wr (x := (i : Int) + 1) (by omega) (by omega), wr (x := (s.nodes.length : Int) - 1) (by omega) (by omega)]
          simp only [obnd, l01In_eq]
          rw [if_pos (decide_eq_true (by omega))]
          by_cases h0 : 0 < i
          · rw [if_pos (by omega), wr (x := (i : Int) - 1) (by omega) (by omega), show (i : Int) - 1 = ((i - 1 : Nat) : Int) by omega, getI_D (by omega)]
            simp only
            rw [if_neg (by have := hp.2 h0; omega)]; rfl
          · rw [if_neg (by omega)]; rfl
        · intro i hi hp
          unfold secP at hp
          rw [decide_eq_false_iff_not] at hp
          unfold m_spec_SkewShow_L1
          rw [if_pos (by omega), getI_D hi, wr (x := (s.nodes.length : Int) - 1) (by omega) (by omega)]
          simp only [obnd, l01In_eq]
          by_cases h1 : 0 ≤ l.getD i 0 ∧ l.getD i 0 ≤ (s.nodes.length : Int) - 1
          · rw [if_pos (decide_eq_true h1)]
            by_cases h0 : 0 < i
            · rw [if_pos (by omega), wr (x := (i : Int) - 1) (by omega) (by omega), show (i : Int) - 1 = ((i - 1 : Nat) : Int) by omega, getI_D (by omega)]
              simp only
              rw [if_pos (by omega)]; rfl
            · exact absurd ⟨by omega, fun h => absurd h h0⟩ hp
          · rw [if_neg (by rw [decide_eq_false h1]; simp)]; rfl
        · unfold m_spec_SkewShow_L1
          rw [if_neg (by omega)]
      rw [show (0 : Int) = ((0 : Nat) : Int) from rfl, key]
      by_cases hS : ∀ i, i < l.length → secP s l i = true
      · have hS' : secOk s l = true := decide_eq_true hS
        rw [if_pos hS, if_pos ⟨trivial, hd, hS'⟩, l08Copy_eq s h]
        simp only
        have key2 : loopO (m_spec_SkewShow_L2 l d s.ties ((s.ties.length : Nat) : Int) s.horizon s.nodes) (((0 : Nat) : Int), half2 (skF l d) s.ties 0) = some (match s.ties.findIdx? (fun t => apartT l t && t.free) with | none => .inl (half2 (skF l d) s.ties s.ties.length) | some _ => .inr (noShow, false)) := by
          refine loopO_idx s.ties (fun t => apartT l t && t.free) (fun i => ((i : Int), half2 (skF l d) s.ties i)) (rT := .inl (half2 (skF l d) s.ties s.ties.length)) (fun _ => (Sum.inr (noShow, false) : Sum (List GTie) (GShow × Bool))) ?_ ?_ ?_
          · intro i hi hq
            have st := half2_step (skF l d) s.ties i hi
            have hlen := half2_length (skF l d) s.ties i (by omega)
            unfold m_spec_SkewShow_L2
            simp only
            rw [if_pos (by omega), getI_lt hi, wr (x := (i : Int) + 1) (by omega) (by omega)]
            simp only [obnd]
            rw [l07Has_eq _ _ (by unfold Cnt; omega), l07Has_eq _ _ (by unfold Cnt; omega)]
            simp only [Int.toNat_natCast]
            by_cases ha : apartT l s.ties[i] = true
            · have hne : ¬ decide (s.ties[i].from_ ∈ l) = decide (s.ties[i].to ∈ l) := by
                unfold apartT at ha; simpa using ha
              rw [if_neg hne]
              rw [ha, Bool.true_and] at hq
              rw [if_neg (by rw [hq]; simp), getI_half _ _ _ hi]
              simp only
              rw [getI_lt (by simp; omega)]
              simp only [List.getElem_set_self, List.set_set]
              rw [← st, skF, if_pos ha]; rfl
            · have he : decide (s.ties[i].from_ ∈ l) = decide (s.ties[i].to ∈ l) := by
                unfold apartT at ha; simpa using ha
              rw [if_pos he, ← st, skF, if_neg ha, set_same (half2_get (skF l d) s.ties i hi)]; rfl
          · intro i hi hq
            unfold m_spec_SkewShow_L2
            simp only
            rw [if_pos (by omega), getI_lt hi]
            simp only [obnd]
            rw [l07Has_eq _ _ (by unfold Cnt; omega), l07Has_eq _ _ (by unfold Cnt; omega)]
            simp only
            rw [Bool.and_eq_true] at hq
            have hne : ¬ decide (s.ties[i].from_ ∈ l) = decide (s.ties[i].to ∈ l) := by
              have := hq.1; unfold apartT at this; simpa using this
            rw [if_neg hne, if_pos hq.2]; rfl
          · unfold m_spec_SkewShow_L2
            simp only
            rw [if_neg (by omega)]
        rw [any_find, half2_zero] at key2
        rw [key2]
        cases hany : s.ties.any (fun t => apartT l t && t.free)
        · rw [if_neg (by simp), if_neg (by simp)]
          simp only
          rw [show (GShow.mk s.nodes (half2 (skF l d) s.ties s.ties.length) s.horizon) = skewed s l d from rfl, ShowOk_spec _ (skewed_fit s l d h).small]
          simp only
          cases showOk (skewed s l d) <;> rfl
        · rw [if_pos rfl, if_pos rfl]
      · have hS' : ¬ secOk s l = true := by unfold secOk; rw [decide_eq_false hS]; simp
        rw [if_neg hS, if_neg (fun hh => hS' hh.2.2)]
    · rw [if_neg (by rw [decide_eq_false hd]; simp), if_neg (fun hh => hd hh.2.1)]; rfl

theorem SkewShow_law (s : GShow) (l : List Int) (d : Int) (hb : BdS s) : m_laws_FnExactSkewShow s l d = some true := by
  unfold m_laws_FnExactSkewShow
  by_cases h1 : l.length ≤ 1048576
  · rw [if_neg (by omega)]
    obtain ⟨r, hr, hp⟩ := szShow_ok hb
    rw [hr]
    simp only [obnd]
    by_cases h3 : r < 0
    · rw [if_pos h3]
    · rw [if_neg h3]
      have hf : FitS s := by
        rcases hp with hp | hp
        · exact absurd hp h3
        · exact hp
      have hc : Cnt l.length := by unfold Cnt; omega
      have hg := skewOf_fit s l d hf
      simp only [toShow_eq s hf, toIntS_eq _ h1, SkewShow_impl s l d hf h1, SkewShow_spec s l d hf h1]
      generalize skewOf s l d = p at hg ⊢
      obtain ⟨g, b⟩ := p
      simp only at hg ⊢
      obtain ⟨q, hq, hq1, hq2⟩ := markShow_ok s 1 hf (by omega) (by omega)
      obtain ⟨q', m1, m2, m3, m4, m5, m6⟩ := markShow_held g 1 hg (by omega) (by omega)
      have e2 : m_laws_eqIntS l l = some true := by rw [eqIntS_eq _ _ hc]; simp
      simp only [e2, eqShow_self s hf, eqShow_self g hg, hq, if_true]
      rw [markIntS_eq l q.1 h1 (by omega) (by omega)]
      simp only
      rw [if_neg (by omega), m1]
      simp only
      rw [chk_pos (by omega), chk_pos (by omega), List.take_of_length_le (by omega), List.take_of_length_le (by omega), m6]
      simp only
      rw [if_neg (by omega)]
      simp
      omega
  · rw [if_pos (by omega)]
end Go.Proofs.YtgmiaokdnpaglaaY
