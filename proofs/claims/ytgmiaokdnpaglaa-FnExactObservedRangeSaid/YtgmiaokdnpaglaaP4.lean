/- A show that is right: what both ShowOk come to. Own work. -/
import Derived.Test.YtgmiaokdnpaglaaP3
set_option linter.all false
set_option linter.unusedVariables false
set_option linter.unusedSimpArgs false
namespace Go.Proofs.YtgmiaokdnpaglaaV
open Go

def earlier (s : GShow) (i : Nat) (n : GNode) : Bool := (s.nodes.take i).all (fun m => !decide (m.name = n.name) && (decide (n.watch = 0) || !decide (m.watch = n.watch)))
def nodeP (s : GShow) (i : Nat) : Bool := (s.nodes[i]?).any (fun n => nodeOk n && earlier s i n)
def firstOk (s : GShow) : Bool := (s.nodes[0]?).any (fun n => decide (n.label = []) && decide (n.watch = 0))
def nodesA (s : GShow) : Bool := decide (1 ≤ s.nodes.length ∧ s.nodes.length ≤ 7) && firstOk s && decide (∀ i, i < s.nodes.length → nodeP s i = true)

structure SmallS (s : GShow) : Prop where
  nodes : Cnt s.nodes.length
  ties : Cnt s.ties.length
  node : ∀ n, n ∈ s.nodes → SmallN n

theorem nodeP_lt {s : GShow} {i : Nat} (h : i < s.nodes.length) : nodeP s i = (nodeOk s.nodes[i] && earlier s i s.nodes[i]) := by
  unfold nodeP
  rw [List.getElem?_eq_getElem h]; rfl

theorem earlier_impl (s : GShow) (i : Nat) (hi : i ≤ s.nodes.length) (n : GNode) (hs : Cnt s.nodes.length) (a b : Int) (c d : Int) :
    loopO (m_impl_areNodes_L2 s.nodes a b (s.nodes.take i) (((s.nodes.take i).length : Nat) : Int) s.ties d n.name n.label n.watch) 0 = some (if earlier s i n = true then .inl () else .inr false) := by
  have hl : (s.nodes.take i).length = i := by simp; omega
  refine loopO_allL (s.nodes.take i) (fun m => !decide (m.name = n.name) && (decide (n.watch = 0) || !decide (m.watch = n.watch))) (fun i => (i : Int)) ?_ ?_ ?_
  · intro j hj hq
    unfold m_impl_areNodes_L2
    rw [if_pos (by omega), getI_lt hj, wr (x := (j : Int) + 1) (by omega) (by omega)]
    simp only [obnd]
    simp only [Bool.and_eq_true, Bool.or_eq_true, Bool.not_eq_true', decide_eq_false_iff_not, decide_eq_true_eq] at hq
    rw [if_neg hq.1]
    rcases hq.2 with h | h
    · rw [if_pos h]; rfl
    · by_cases h0 : n.watch = 0
      · rw [if_pos h0]; rfl
      · rw [if_neg h0, if_neg h]; rfl
  · intro j hj hq
    unfold m_impl_areNodes_L2
    rw [if_pos (by omega), getI_lt hj]
    simp only [obnd]
    simp only [Bool.and_eq_false_iff, Bool.or_eq_false_iff, Bool.not_eq_false', decide_eq_false_iff_not, decide_eq_true_eq] at hq
    rcases hq with h | ⟨h1, h2⟩
    · rw [if_pos h]
    · repeat' split
      all_goals first | rfl | (exfalso; simp_all)
  · unfold m_impl_areNodes_L2
    rw [if_neg (by omega)]

theorem areNodes_eq (s : GShow) (h : SmallS s) : m_impl_areNodes s = some (nodesA s) := by
  unfold m_impl_areNodes nodesA
  have h1 := h.nodes
  by_cases hlen : 1 ≤ s.nodes.length ∧ s.nodes.length ≤ 7
  · rw [if_neg (by omega), if_neg (by omega), decide_eq_true hlen, Bool.true_and]
    have h0 : 0 < s.nodes.length := by omega
    rw [show (0 : Int) = ((0 : Nat) : Int) from rfl, getI_lt h0]
    simp only [obnd]
    have hf : firstOk s = (decide (s.nodes[0].label = []) && decide (s.nodes[0].watch = 0)) := by
      unfold firstOk; rw [List.getElem?_eq_getElem h0]; rfl
    rw [hf]
    by_cases hlab : s.nodes[0].label = []
    · rw [if_neg (by rw [hlab]; simp), decide_eq_true hlab, Bool.true_and]
      by_cases hw : s.nodes[0].watch = 0
      · rw [if_pos (by simpa using hw), decide_eq_true hw, Bool.true_and]
        have key : loopO (m_impl_areNodes_L3 s.nodes ((s.nodes.length : Nat) : Int) s.ties s.horizon) ((0 : Nat) : Int) = some (if ∀ i, i < s.nodes.length → nodeP s i = true then .inl () else .inr false) := by
          refine loopO_all s.nodes.length (fun i => (i : Int)) (nodeP s) ?_ ?_ ?_
          · intro i hi hp
            rw [nodeP_lt hi, Bool.and_eq_true] at hp
            unfold m_impl_areNodes_L3
            rw [if_pos (by omega), getI_lt hi, wr (x := (i : Int) + 1) (by omega) (by omega)]
            simp only [obnd, NodeOk_impl _ (h.node _ (List.getElem_mem hi)), hp.1, if_true, Int.toNat_natCast]
            rw [chk_pos (by omega), chk_pos (by omega), earlier_impl s i (by omega) _ h1 _ _ 0, if_pos hp.2]
            rfl
          · intro i hi hp
            rw [nodeP_lt hi, Bool.and_eq_false_iff] at hp
            unfold m_impl_areNodes_L3
            rw [if_pos (by omega), getI_lt hi]
            simp only [obnd, NodeOk_impl _ (h.node _ (List.getElem_mem hi)), Int.toNat_natCast]
            by_cases hn : nodeOk s.nodes[i] = true
            · rw [if_pos hn, chk_pos (by omega), chk_pos (by omega), earlier_impl s i (by omega) _ h1 _ _ 0]
              rcases hp with hp | hp
              · rw [hp] at hn; cases hn
              · rw [hp]; rfl
            · rw [if_neg hn]
          · unfold m_impl_areNodes_L3
            rw [if_neg (by omega)]
        rw [key]
        by_cases hall : ∀ i, i < s.nodes.length → nodeP s i = true
        · rw [if_pos hall, decide_eq_true hall]
        · rw [if_neg hall, decide_eq_false hall]
      · rw [if_neg (by simpa using hw), decide_eq_false hw]; rfl
    · rw [if_pos (by have := List.length_pos_iff.2 hlab; omega), decide_eq_false hlab]; rfl
  · rw [decide_eq_false hlen]
    split
    · rfl
    · rw [if_pos (by omega)]; rfl

/-! ### Ties -/
def tieFree (s : GShow) (i : Nat) (t : GTie) : Bool := !t.free || (decide (1 ≤ t.low ∧ t.to ≠ 0) && (match s.nodes[t.to.toNat]?, s.nodes[t.from_.toNat]? with | some b, some a => decide (b.watch = 0 ∧ b.label = a.label) | _, _ => false) && !(s.ties.take i).any (fun u => u.free && decide (u.to = t.to)))
def tieB (s : GShow) (t : GTie) : Bool := decide ((0 ≤ t.from_ ∧ t.from_ < s.nodes.length) ∧ (0 ≤ t.to ∧ t.to < s.nodes.length) ∧ t.from_ ≠ t.to ∧ -20 ≤ t.low ∧ t.high ≤ 20 ∧ t.low ≤ t.high)
def tieP (s : GShow) (i : Nat) : Bool := (s.ties[i]?).any (fun t => tieB s t && tieFree s i t)
theorem tieP_lt {s : GShow} {i : Nat} (h : i < s.ties.length) : tieP s i = (tieB s s.ties[i] && tieFree s i s.ties[i]) := by
  unfold tieP
  rw [List.getElem?_eq_getElem h]; rfl

theorem contains_tie (s : GShow) (t : GTie) (n : Nat) (h : Cnt s.ties.length) : m_slices_ContainsFunc_Tie (s.ties.take n) (fun a0 => m_impl_areTies_c1 a0 t) = some ((s.ties.take n).any (fun u => u.free && decide (u.to = t.to))) := by
  refine ContainsFunc_Tie _ _ _ (by simp only [List.length_take]; unfold Cnt at *; omega) (fun u _ => ?_)
  unfold m_impl_areTies_c1
  cases u.free <;> rfl

theorem areTies_step (s : GShow) (hs : SmallS s) (i : Nat) (hi : i < s.ties.length) : m_impl_areTies_L1 s.ties ((s.ties.length : Nat) : Int) s.nodes s.horizon ((i : Nat) : Int) = some (if tieP s i = true then .next (((i + 1 : Nat)) : Int) else .done (.inr false)) := by
  have h1 := hs.ties
  have h2 := hs.nodes
  unfold m_impl_areTies_L1
  rw [if_pos (by omega), getI_lt hi, wr (x := (i : Int) + 1) (by omega) (by omega), tieP_lt hi]
  generalize s.ties[i] = t
  simp only [obnd, isNode_eq, isSpan_eq, Int.toNat_natCast, contains_tie s t i h1]
  by_cases hB : tieB s t = true
  · have hB' := hB
    unfold tieB at hB'
    rw [decide_eq_true_eq] at hB'
    obtain ⟨⟨a1, a2⟩, ⟨b1, b2⟩, c1, c2, c3, c4⟩ := hB'
    rw [if_pos (decide_eq_true ⟨a1, a2⟩), if_pos (decide_eq_true ⟨b1, b2⟩), if_neg c1, if_pos (decide_eq_true ⟨by omega, by omega⟩), if_pos (decide_eq_true ⟨by omega, by omega⟩), if_neg (by omega), hB, Bool.true_and]
    have gt : s.nodes[t.to.toNat]? = some s.nodes[t.to.toNat] := List.getElem?_eq_getElem (by omega)
    have gf : s.nodes[t.from_.toNat]? = some s.nodes[t.from_.toNat] := List.getElem?_eq_getElem (by omega)
    have it : getI s.nodes t.to = some s.nodes[t.to.toNat] := by unfold getI; rw [if_pos b1, gt]
    have jf : getI s.nodes t.from_ = some s.nodes[t.from_.toNat] := by unfold getI; rw [if_pos a1, gf]
    unfold tieFree
    simp only [gt, gf, it, jf]
    have hc : Cnt s.nodes[t.to.toNat].label.length := (hs.node _ (List.getElem_mem _)).2
    rw [Equal_int _ _ hc]
    cases t.free
    · rfl
    · simp only [if_true, Bool.not_true, Bool.false_or]
      by_cases d1 : 1 ≤ t.low
      · rw [if_neg (by omega)]
        by_cases d2 : t.to = 0
        · rw [if_pos d2]; simp [d2]
        · have e1 : decide (1 ≤ t.low ∧ t.to ≠ 0) = true := decide_eq_true ⟨d1, d2⟩
          rw [if_neg d2, e1, Bool.true_and]
          by_cases d3 : s.nodes[t.to.toNat].watch = 0
          · rw [if_pos d3]
            by_cases d4 : s.nodes[t.to.toNat].label = s.nodes[t.from_.toNat].label
            · simp only [decide_eq_true d4, if_true]
              have e2 : decide (s.nodes[t.to.toNat].watch = 0 ∧ s.nodes[t.to.toNat].label = s.nodes[t.from_.toNat].label) = true := decide_eq_true ⟨d3, d4⟩
              rw [chk_pos (by omega), chk_pos (by omega), e2]
              cases (s.ties.take i).any (fun u => u.free && decide (u.to = t.to)) <;> rfl
            · simp only [decide_eq_false d4]
              rw [if_neg (by simp), decide_eq_false (fun h => d4 h.2)]; rfl
          · rw [if_neg d3, decide_eq_false (fun h => d3 h.1)]; rfl
      · rw [if_pos (by omega), decide_eq_false (fun h => d1 h.1)]; rfl
  · rw [Bool.not_eq_true] at hB
    rw [hB]
    unfold tieB at hB
    rw [decide_eq_false_iff_not] at hB
    simp only [Bool.false_and]
    by_cases a : 0 ≤ t.from_ ∧ t.from_ < (s.nodes.length : Int)
    · rw [if_pos (decide_eq_true a)]
      by_cases b : 0 ≤ t.to ∧ t.to < (s.nodes.length : Int)
      · rw [if_pos (decide_eq_true b)]
        by_cases c : t.from_ = t.to
        · rw [if_pos c]; rfl
        · rw [if_neg c]
          by_cases d : -20 ≤ t.low ∧ t.low ≤ 20
          · rw [if_pos (decide_eq_true d)]
            by_cases e : -20 ≤ t.high ∧ t.high ≤ 20
            · rw [if_pos (decide_eq_true e), if_pos (by omega)]; rfl
            · rw [if_neg (by rw [decide_eq_false e]; simp)]; rfl
          · rw [if_neg (by rw [decide_eq_false d]; simp)]; rfl
      · rw [if_neg (by rw [decide_eq_false b]; simp)]; rfl
    · rw [if_neg (by rw [decide_eq_false a]; simp)]; rfl

theorem areTies_eq (s : GShow) (hs : SmallS s) : m_impl_areTies s = some (decide (∀ i, i < s.ties.length → tieP s i = true) && decide (s.ties.length ≤ 14)) := by
  have h1 := hs.ties
  unfold m_impl_areTies
  have key : loopO (m_impl_areTies_L1 s.ties ((s.ties.length : Nat) : Int) s.nodes s.horizon) ((0 : Nat) : Int) = some (if ∀ i, i < s.ties.length → tieP s i = true then .inl () else .inr false) := by
    refine loopO_all s.ties.length (fun i => (i : Int)) (tieP s) ?_ ?_ ?_
    · intro i hi hp
      simp only [areTies_step s hs i hi, hp, if_true]
    · intro i hi hp
      simp only [areTies_step s hs i hi, hp]; rfl
    · unfold m_impl_areTies_L1
      rw [if_neg (by omega)]
  rw [show (0 : Int) = ((0 : Nat) : Int) from rfl, key]
  by_cases hall : ∀ i, i < s.ties.length → tieP s i = true
  · rw [if_pos hall, decide_eq_true hall, Bool.true_and]
    simp only [obnd]
    congr 1
    exact decide_eq_decide.2 (by omega)
  · rw [if_neg hall, decide_eq_false hall]; rfl
end Go.Proofs.YtgmiaokdnpaglaaV
