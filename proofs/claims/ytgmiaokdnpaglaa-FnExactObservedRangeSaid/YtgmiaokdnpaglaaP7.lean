/- What the laws do with lists of whole numbers, nodes, ties and shows: copied, compared, weighed, marked, held. Own work. -/
import Derived.Test.YtgmiaokdnpaglaaP6
set_option linter.all false
set_option linter.unusedVariables false
set_option linter.unusedSimpArgs false
namespace Go.Proofs.YtgmiaokdnpaglaaV
open Go

/-! ### Copied -/
theorem toIntS_eq (a : List Int) (ha : a.length ≤ 1048576) : m_laws_toIntS a = some a := by
  unfold m_laws_toIntS
  rw [chk_pos (by omega), chk_pos (by omega)]
  have key : loopO (m_laws_toIntS_L1 a) (((0 : Nat) : Int), half 0 a 0) = some a := by
    refine loopO_to a.length (fun i => ((i : Int), half 0 a i)) ?_ ?_
    · intro i hi
      have h2 : getI (half 0 a i) (i : Int) = some 0 := by
        unfold getI; rw [if_pos (by omega), Int.toNat_natCast, half_get 0 a i hi]
      unfold m_laws_toIntS_L1
      simp only
      rw [if_pos (by omega), getI_lt hi, h2, wr (x := (i : Int) + 1) (by omega) (by omega)]
      simp only [obnd, Int.toNat_natCast]
      rw [half_step 0 a i hi]; rfl
    · unfold m_laws_toIntS_L1
      simp only
      rw [if_neg (by omega), half_all]
  rw [half_zero] at key
  rw [show (0 : Int) = ((0 : Nat) : Int) from rfl] at *
  rw [key]; rfl

structure FitN (n : GNode) : Prop where
  name : n.name.size ≤ 1048576
  label : n.label.length ≤ 1048576
theorem toNodeS_eq (a : List GNode) (ha : a.length ≤ 1048576) (hn : ∀ n, n ∈ a → FitN n) : m_laws_toNodeS a = some a := by
  unfold m_laws_toNodeS
  rw [chk_pos (by omega), chk_pos (by omega)]
  generalize hz : (GNode.mk (ByteArray.mk #[]) ([]) 0) = z
  have key : loopO (m_laws_toNodeS_L1 a) (((0 : Nat) : Int), half z a 0) = some a := by
    refine loopO_to a.length (fun i => ((i : Int), half z a i)) ?_ ?_
    · intro i hi
      have h2 : getI (half z a i) (i : Int) = some z := by
        unfold getI; rw [if_pos (by omega), Int.toNat_natCast, half_get z a i hi]
      have h3 : m_laws_toNode a[i] = some a[i] := by
        unfold m_laws_toNode
        rw [toIntS_eq _ (hn _ (List.getElem_mem hi)).label]; rfl
      unfold m_laws_toNodeS_L1
      simp only
      rw [if_pos (by omega), getI_lt hi, h2, wr (x := (i : Int) + 1) (by omega) (by omega)]
      simp only [obnd, Int.toNat_natCast, h3]
      rw [half_step z a i hi]; rfl
    · unfold m_laws_toNodeS_L1
      simp only
      rw [if_neg (by omega), half_all]
  rw [half_zero] at key
  rw [show (0 : Int) = ((0 : Nat) : Int) from rfl] at *
  rw [key]; rfl
theorem toTieS_eq (a : List GTie) (ha : a.length ≤ 1048576) : m_laws_toTieS a = some a := by
  unfold m_laws_toTieS
  rw [chk_pos (by omega), chk_pos (by omega)]
  generalize hz : (GTie.mk 0 0 0 0 false) = z
  have key : loopO (m_laws_toTieS_L1 a) (((0 : Nat) : Int), half z a 0) = some a := by
    refine loopO_to a.length (fun i => ((i : Int), half z a i)) ?_ ?_
    · intro i hi
      have h2 : getI (half z a i) (i : Int) = some z := by
        unfold getI; rw [if_pos (by omega), Int.toNat_natCast, half_get z a i hi]
      unfold m_laws_toTieS_L1
      simp only
      rw [if_pos (by omega), getI_lt hi, h2, wr (x := (i : Int) + 1) (by omega) (by omega)]
      simp only [obnd, Int.toNat_natCast, m_laws_toTie]
      rw [half_step z a i hi]; rfl
    · unfold m_laws_toTieS_L1
      simp only
      rw [if_neg (by omega), half_all]
  rw [half_zero] at key
  rw [show (0 : Int) = ((0 : Nat) : Int) from rfl] at *
  rw [key]; rfl
structure FitS (s : GShow) : Prop where
  nodes : s.nodes.length ≤ 1048576
  ties : s.ties.length ≤ 1048576
  node : ∀ n, n ∈ s.nodes → FitN n
theorem FitS.small {s : GShow} (h : FitS s) : SmallS s := ⟨by have := h.nodes; unfold Cnt; omega, by have := h.ties; unfold Cnt; omega, fun n hn => ⟨by have := (h.node n hn).name; unfold Cnt; omega, by have := (h.node n hn).label; unfold Cnt; omega⟩⟩
theorem toShow_eq (s : GShow) (h : FitS s) : m_laws_toShow s = some s := by
  unfold m_laws_toShow
  rw [toNodeS_eq _ h.nodes h.node, toTieS_eq _ h.ties]; rfl

/-! ### Weighed -/
structure BdN (n : GNode) : Prop where
  name : n.name.size ≤ maxLen
  label : n.label.length ≤ maxLen
structure BdS (s : GShow) : Prop where
  nodes : s.nodes.length ≤ maxLen
  ties : s.ties.length ≤ maxLen
  node : ∀ n, n ∈ s.nodes → BdN n

theorem szIntS_ok {a : List Int} {l : Int} (hl : l ≤ 1048576) (h0 : 0 ≤ l) (ha : a.length ≤ maxLen) : m_laws_szIntS a l = some (if l - a.length < 0 then -1 else l - a.length) := by
  unfold maxLen at ha
  unfold m_laws_szIntS
  rw [wr (by omega) (by omega)]
  split <;> rfl
theorem szTieS_ok {a : List GTie} {l : Int} (hl : l ≤ 1048576) (h0 : 0 ≤ l) (ha : a.length ≤ maxLen) : m_laws_szTieS a l = some (if l - a.length < 0 then -1 else l - a.length) := by
  unfold maxLen at ha
  unfold m_laws_szTieS
  rw [wr (by omega) (by omega)]
  split <;> rfl
theorem szNode_ok {n : GNode} {l : Int} (hl : l ≤ 1048576) (h0 : 0 ≤ l) (hb : BdN n) : ∃ r, m_laws_szNode n l = some r ∧ (r < 0 ∨ (0 ≤ r ∧ r ≤ l ∧ (n.name.size : Int) ≤ l ∧ (n.label.length : Int) ≤ l)) := by
  have h1 := hb.name
  unfold maxLen at h1
  unfold m_laws_szNode
  rw [wr (by omega) (by omega)]
  split
  · exact ⟨_, rfl, .inl (by omega)⟩
  · rw [szIntS_ok (by omega) (by omega) hb.label]
    simp only [obnd]
    by_cases h : l - (n.name.size : Int) - (n.label.length : Int) < 0
    · rw [if_pos h]; exact ⟨_, rfl, .inl (by omega)⟩
    · rw [if_neg h, if_neg (by omega)]; exact ⟨_, rfl, .inr (by omega)⟩
theorem szNodeS_ok {a : List GNode} {l : Int} (hl : l ≤ 1048576) (h0 : 0 ≤ l) (ha : a.length ≤ maxLen) (hb : ∀ n, n ∈ a → BdN n) : ∃ r, m_laws_szNodeS a l = some r ∧ (r < 0 ∨ (0 ≤ r ∧ r ≤ l ∧ (a.length : Int) ≤ l ∧ ∀ n, n ∈ a → (n.name.size : Int) ≤ l ∧ (n.label.length : Int) ≤ l)) := by
  unfold maxLen at ha
  unfold m_laws_szNodeS
  rw [wr (by omega) (by omega)]
  by_cases h : l - (a.length : Int) < 0
  · rw [if_pos h]; exact ⟨_, rfl, .inl (by omega)⟩
  · rw [if_neg h]
    have inv : ∃ q, loopO (m_laws_szNodeS_L1 a) (l - (a.length : Int), 0) = some q ∧ ((∃ x, q = .inr x ∧ x < 0) ∨ ∃ x, q = .inl x ∧ 0 ≤ x ∧ x ≤ l ∧ ∀ n, n ∈ a → (n.name.size : Int) ≤ l ∧ (n.label.length : Int) ≤ l) := by
      refine loopO_inv a.length (fun i s => s.2 = (i : Int) ∧ 0 ≤ s.1 ∧ s.1 ≤ l ∧ ∀ j (hj : j < a.length), j < i → (a[j].name.size : Int) ≤ l ∧ (a[j].label.length : Int) ≤ l) _ ⟨rfl, by simp only; omega, by simp only; omega, fun j _ hj => by omega⟩ ?_ ?_
      · rintro i ⟨left, i'⟩ hi ⟨h1, h2, h3, h4⟩
        simp only at h1 h2 h3
        subst h1
        unfold m_laws_szNodeS_L1
        simp only
        rw [if_pos (by omega), getI_lt hi, wr (x := (i : Int) + 1) (by omega) (by omega)]
        simp only [obnd]
        obtain ⟨r, hr, hp⟩ := szNode_ok (by omega) h2 (hb _ (List.getElem_mem hi))
        rw [hr]
        simp only
        rcases hp with hp | ⟨p1, p2, p3, p4⟩
        · rw [if_pos hp]; exact .inr ⟨_, rfl, .inl ⟨_, rfl, by omega⟩⟩
        · rw [if_neg (by omega)]
          refine .inl ⟨_, rfl, rfl, p1, by simp only; omega, fun j hj hji => ?_⟩
          by_cases he : j = i
          · subst he; exact ⟨by omega, by omega⟩
          · exact h4 j hj (by omega)
      · rintro ⟨left, i'⟩ ⟨h1, h2, h3, h4⟩
        simp only at h1 h2 h3
        subst h1
        unfold m_laws_szNodeS_L1
        simp only
        rw [if_neg (by omega)]
        refine ⟨_, rfl, .inr ⟨_, rfl, h2, h3, fun n hn => ?_⟩⟩
        obtain ⟨j, hj, rfl⟩ := List.getElem_of_mem hn
        exact h4 j hj hj
    obtain ⟨r, hr, hp⟩ := inv
    rw [hr]
    simp only [obnd]
    rcases hp with ⟨x, rfl, hx⟩ | ⟨x, rfl, h1, h2, h3⟩
    · exact ⟨_, rfl, .inl hx⟩
    · exact ⟨_, rfl, .inr ⟨h1, h2, by omega, h3⟩⟩
theorem szShow_ok {s : GShow} (hb : BdS s) : ∃ r, m_laws_szShow s 1048576 = some r ∧ (r < 0 ∨ FitS s) := by
  unfold m_laws_szShow
  obtain ⟨r, hr, hp⟩ := szNodeS_ok (l := 1048576) (by omega) (by omega) hb.nodes hb.node
  rw [hr]
  simp only [obnd]
  rcases hp with hp | ⟨h1, h2, h3, h4⟩
  · rw [if_pos hp]; exact ⟨_, rfl, .inl (by omega)⟩
  · rw [if_neg (by omega), szTieS_ok h2 h1 hb.ties]
    simp only
    by_cases h : r - (s.ties.length : Int) < 0
    · rw [if_pos h]; exact ⟨_, rfl, .inl (by omega)⟩
    · rw [if_neg h, if_neg h]
      exact ⟨_, rfl, .inr ⟨by omega, by omega, fun n hn => ⟨by have := (h4 n hn).1; omega, by have := (h4 n hn).2; omega⟩⟩⟩

/-! ### Compared -/
theorem eqIntS_eq (a b : List Int) (ha : Cnt a.length) : m_laws_eqIntS a b = some (decide (a = b)) := by
  unfold m_laws_eqIntS
  by_cases hl : a.length = b.length
  · rw [if_pos (by omega)]
    have key : loopO (m_laws_eqIntS_L1 a b) ((0 : Nat) : Int) = some (if ∀ i, i < a.length → decide (a.getD i 0 = b.getD i 0) = true then .inl () else .inr false) := by
      refine loopO_all a.length (fun i => (i : Int)) (fun i => decide (a.getD i 0 = b.getD i 0)) ?_ ?_ ?_
      · intro i hi hp
        unfold m_laws_eqIntS_L1
        rw [if_pos (by omega), getI_D hi, getI_D (xs := b) (by omega), wr (x := (i : Int) + 1) (by omega) (by omega)]
        simp only [obnd]
        rw [if_pos (of_decide_eq_true hp)]; rfl
      · intro i hi hp
        unfold m_laws_eqIntS_L1
        rw [if_pos (by omega), getI_D hi, getI_D (xs := b) (by omega)]
        simp only [obnd]
        rw [if_neg (of_decide_eq_false hp)]
      · unfold m_laws_eqIntS_L1
        rw [if_neg (by omega)]
    rw [show (0 : Int) = ((0 : Nat) : Int) from rfl, key]
    by_cases he : a = b
    · rw [if_pos ((eqLoop hl).2 he), decide_eq_true he]; rfl
    · rw [if_neg (fun h => he ((eqLoop hl).1 h)), decide_eq_false he]; rfl
  · rw [if_neg (by omega), decide_eq_false (fun h => hl (by rw [h]))]
theorem eqNode_self (n : GNode) (h : FitN n) : m_laws_eqNode n n = some true := by
  unfold m_laws_eqNode
  rw [if_pos rfl, eqIntS_eq _ _ (by have := h.label; unfold Cnt; omega)]
  simp [obnd]
theorem eqNodeS_self (a : List GNode) (ha : a.length ≤ 1048576) (hn : ∀ n, n ∈ a → FitN n) : m_laws_eqNodeS a a = some true := by
  unfold m_laws_eqNodeS
  rw [if_pos rfl]
  have key : loopO (m_laws_eqNodeS_L1 a a) ((0 : Nat) : Int) = some (.inl ()) := by
    refine loopO_to a.length (fun i => (i : Int)) ?_ ?_
    · intro i hi
      unfold m_laws_eqNodeS_L1
      rw [if_pos (by omega), getI_lt hi, wr (x := (i : Int) + 1) (by omega) (by omega)]
      simp only [obnd, eqNode_self _ (hn _ (List.getElem_mem hi)), if_true]; rfl
    · unfold m_laws_eqNodeS_L1
      rw [if_neg (by omega)]
  rw [show (0 : Int) = ((0 : Nat) : Int) from rfl, key]; rfl
theorem eqTieS_self (a : List GTie) (ha : a.length ≤ 1048576) : m_laws_eqTieS a a = some true := by
  unfold m_laws_eqTieS
  rw [if_pos rfl]
  have key : loopO (m_laws_eqTieS_L1 a a) ((0 : Nat) : Int) = some (.inl ()) := by
    refine loopO_to a.length (fun i => (i : Int)) ?_ ?_
    · intro i hi
      unfold m_laws_eqTieS_L1
      rw [if_pos (by omega), getI_lt hi, wr (x := (i : Int) + 1) (by omega) (by omega)]
      simp only [obnd, m_laws_eqTie, if_true]; rfl
    · unfold m_laws_eqTieS_L1
      rw [if_neg (by omega)]
  rw [show (0 : Int) = ((0 : Nat) : Int) from rfl, key]; rfl
theorem eqShow_self (s : GShow) (h : FitS s) : m_laws_eqShow s s = some true := by
  unfold m_laws_eqShow
  rw [eqNodeS_self _ h.nodes h.node, eqTieS_self _ h.ties]
  simp [obnd]
end Go.Proofs.YtgmiaokdnpaglaaV
