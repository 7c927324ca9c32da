/- States and TakesOf. Own work. -/
import Derived.Test.YtgmiaokdnpaglaaXP12
import Derived.Test.YtgmiaokdnpaglaaXP20
set_option linter.all false
set_option linter.unusedVariables false
set_option linter.unusedSimpArgs false
namespace Go.Proofs.YtgmiaokdnpaglaaX
open Go

/-! ### States -/
def valuesOk (v : List Int) : Bool := decide (v.length = 3) && v.all (fun n => decide (-1 ≤ n ∧ n ≤ 1))
theorem ValuesOk_impl (v : List Int) (hv : Cnt v.length) : m_impl_ValuesOk v = some (valuesOk v) := by
  unfold m_impl_ValuesOk valuesOk
  by_cases h3 : v.length = 3
  · rw [if_pos (by omega), decide_eq_true h3, ContainsFunc_int v _ (fun n => !decide (-1 ≤ n ∧ n ≤ 1)) hv]
    · simp only [obnd, Bool.true_and]
      rw [List.all_eq_not_any_not]
    · intro x _
      unfold m_impl_ValuesOk_c1
      by_cases h1 : x < -1
      · rw [if_pos h1, decide_eq_false (by omega)]; rfl
      · rw [if_neg h1]
        by_cases h2 : 1 < x
        · rw [decide_eq_true h2, decide_eq_false (by omega)]; rfl
        · rw [decide_eq_false h2, decide_eq_true (by omega)]; rfl
  · rw [if_neg (by omega), decide_eq_false h3]; rfl
theorem ValuesOk_spec (v : List Int) (hv : Cnt v.length) : m_spec_ValuesOk v = some (valuesOk v) := by
  unfold m_spec_ValuesOk valuesOk
  have key : loopO (m_spec_ValuesOk_L1 v ((v.length : Nat) : Int)) ((0 : Nat) : Int) = some (if v.all (fun n => decide (-1 ≤ n ∧ n ≤ 1)) = true then .inl () else .inr false) := by
    refine loopO_allL v (fun n => decide (-1 ≤ n ∧ n ≤ 1)) (fun i => (i : Int)) ?_ ?_ ?_
    · intro i hi hq
      unfold m_spec_ValuesOk_L1
      rw [if_pos (by omega), getI_lt hi, wr (x := (i : Int) + 1) (by omega) (by omega)]
      simp only [obnd, l01In_eq, hq, if_true]; rfl
    · intro i hi hq
      unfold m_spec_ValuesOk_L1
      rw [if_pos (by omega), getI_lt hi]
      simp only [obnd, l01In_eq, hq]; rfl
    · unfold m_spec_ValuesOk_L1
      rw [if_neg (by omega)]
  rw [show (0 : Int) = ((0 : Nat) : Int) from rfl, key]
  cases v.all (fun n => decide (-1 ≤ n ∧ n ≤ 1))
  · simp [obnd]
  · simp only [obnd, if_true, Bool.and_true]
    congr 1
    exact decide_eq_decide.2 (by omega)

def nProps : Nat := 3
def timeP (x : GState) (i : Nat) : Bool := if i = 0 then decide (tm x.times 0 = 0) else decide (-1 ≤ tm x.times i ∧ tm x.times i ≤ x.now - 1)
def watchP (s : GShow) (x : GState) (i : Nat) : Bool := decide (tm x.values i ≠ 0) == (decide (0 ≤ firstI s.nodes (fun n => decide (n.watch = (i : Int) + 1))) && decide (tm x.times (firstI s.nodes (fun n => decide (n.watch = (i : Int) + 1))) ≠ -1))
def stateOk (s : GShow) (x : GState) : Bool := showOk s && decide (0 ≤ x.now ∧ x.now ≤ s.horizon + 1) && decide (x.times.length = s.nodes.length) && valuesOk x.values && decide (∀ i, i < x.times.length → timeP x i = true) && decide (∀ i, i < nProps → watchP s x i = true)

theorem getI_tmN {ts : List Int} {i : Nat} (h : i < ts.length) : getI ts (i : Int) = some (tm ts (i : Int)) := getI_tm (by omega) (by omega)

/-- The loop over the propositions, as both functions run it. -/
theorem watch_step (s : GShow) (x : GState) (i : Nat) (hl : x.times.length = s.nodes.length) (N E : Option (Step Int (Sum Unit Bool))) :
    (if 0 ≤ firstI s.nodes (fun n => decide (n.watch = (i : Int) + 1)) then
      obnd (getI x.times (firstI s.nodes (fun n => decide (n.watch = (i : Int) + 1)))) fun x10 =>
      if (decide (¬ tm x.values i = 0)) = (decide (¬ x10 = (-1))) then N else E
    else
      if (decide (¬ tm x.values i = 0)) = false then N else E) = if watchP s x i = true then N else E := by
  unfold watchP
  generalize hw : firstI s.nodes (fun n => decide (n.watch = (i : Int) + 1)) = w
  by_cases h0 : 0 ≤ w
  · have hlt : w < s.nodes.length := by
      rw [← hw] at h0
      obtain ⟨j, hj, he, _⟩ := firstI_lt h0
      rw [hw] at he
      omega
    rw [if_pos h0, getI_tm h0 (by omega), decide_eq_true h0]
    simp only [obnd, Bool.true_and, beq_iff_eq]
  · rw [if_neg h0, decide_eq_false h0]
    simp only [Bool.false_and, beq_iff_eq]

theorem isState_eq (s : GShow) (x : GState) (hs : SmallS s) (hR : Right s) (h1 : x.times.length ≤ 1048576) (h2 : x.values.length ≤ 1048576) :
    m_impl_isState s x = some (decide (0 ≤ x.now ∧ x.now ≤ s.horizon + 1) && decide (x.times.length = s.nodes.length) && valuesOk x.values && decide (∀ i, i < x.times.length → timeP x i = true) && decide (∀ i, i < nProps → watchP s x i = true)) := by
  have hh := hR.hor
  unfold m_impl_isState
  rw [wr (x := s.horizon + 1) (by omega) (by omega)]
  by_cases hn : 0 ≤ x.now ∧ x.now ≤ s.horizon + 1
  · rw [if_neg (by omega), if_neg (by omega), decide_eq_true hn, Bool.true_and]
    by_cases hl : x.times.length = s.nodes.length
    · rw [if_pos (by omega), decide_eq_true hl, Bool.true_and, ValuesOk_impl _ (by unfold Cnt; omega)]
      simp only [obnd]
      cases hv : valuesOk x.values
      · rfl
      · rw [if_pos rfl, Bool.true_and]
        have hv3 : x.values.length = 3 := by
          unfold valuesOk at hv
          simp only [Bool.and_eq_true, decide_eq_true_eq] at hv
          exact hv.1
        have key : loopO (m_impl_isState_L1 x.times ((x.times.length : Nat) : Int) s.nodes s.ties s.horizon x.now x.values) ((0 : Nat) : Int) = some (if ∀ i, i < x.times.length → timeP x i = true then .inl () else .inr false) := by
          have stp : ∀ i, i < x.times.length → m_impl_isState_L1 x.times ((x.times.length : Nat) : Int) s.nodes s.ties s.horizon x.now x.values ((i : Nat) : Int) = some (if timeP x i = true then .next ((i + 1 : Nat) : Int) else .done (.inr false)) := by
            intro i hi
            unfold m_impl_isState_L1
            rw [if_pos (by omega), getI_tmN hi, wr (x := (i : Int) + 1) (by omega) (by omega), wr (x := x.now - 1) (by omega) (by omega)]
            simp only [obnd]
            unfold timeP
            by_cases h0 : i = 0
            · subst h0
              rw [if_pos (by rfl), if_pos rfl]
              by_cases ht : tm x.times ((0 : Nat) : Int) = 0
              · rw [if_pos ht, if_neg (by omega)]
                have : tm x.times 0 = 0 := ht
                rw [decide_eq_true this]; rfl
              · rw [if_neg ht]
                have : ¬ tm x.times 0 = 0 := ht
                rw [decide_eq_false this]; rfl
            · rw [if_neg (by omega), if_pos (by omega), if_neg h0]
              by_cases ha : tm x.times (i : Int) < -1
              · rw [if_pos ha, decide_eq_false (by omega)]; rfl
              · rw [if_neg ha]
                by_cases hb : x.now - 1 < tm x.times (i : Int)
                · rw [if_pos hb, decide_eq_false (by omega)]; rfl
                · rw [if_neg hb, decide_eq_true (by omega)]; rfl
          refine loopO_all x.times.length (fun i => (i : Int)) (timeP x) ?_ ?_ ?_
          · intro i hi hp
            simp only [stp i hi, hp, if_true]
          · intro i hi hp
            simp only [stp i hi, hp]; rfl
          · unfold m_impl_isState_L1
            rw [if_neg (by omega)]
        rw [show (0 : Int) = ((0 : Nat) : Int) from rfl, key]
        by_cases hT : ∀ i, i < x.times.length → timeP x i = true
        · rw [if_pos hT, decide_eq_true hT, Bool.true_and]
          simp only
          have key2 : loopO (m_impl_isState_L2 x.values ((x.values.length : Nat) : Int) s.nodes s.ties s.horizon x.now x.times) ((0 : Nat) : Int) = some (if ∀ i, i < nProps → watchP s x i = true then .inl () else .inr false) := by
            have stp : ∀ i, i < nProps → m_impl_isState_L2 x.values ((x.values.length : Nat) : Int) s.nodes s.ties s.horizon x.now x.times ((i : Nat) : Int) = (if watchP s x i = true then some (.next ((i + 1 : Nat) : Int)) else some (.done (.inr false))) := by
              intro i hi
              have hn3 : nProps = 3 := rfl
              unfold m_impl_isState_L2
              rw [if_pos (by omega), getI_tmN (by omega), wr (x := (i : Int) + 1) (by omega) (by omega)]
              simp only [obnd]
              rw [watcher_impl _ _ hs.nodes]
              have e : (fun n : GNode => decide (0 < (i : Int) + 1) && decide (n.watch = (i : Int) + 1)) = (fun n : GNode => decide (n.watch = (i : Int) + 1)) := by
                funext n; rw [decide_eq_true (by omega : 0 < (i : Int) + 1), Bool.true_and]
              rw [e]
              exact watch_step s x i hl (some (.next ((i : Int) + 1))) (some (.done (.inr false)))
            refine loopO_all nProps (fun i => (i : Int)) (watchP s x) ?_ ?_ ?_
            · intro i hi hp
              simp only [stp i hi, hp, if_true]
            · intro i hi hp
              simp only [stp i hi, hp]; rfl
            · have hn3 : nProps = 3 := rfl
              unfold m_impl_isState_L2
              rw [if_neg (by omega)]
          rw [key2]
          by_cases hW : ∀ i, i < nProps → watchP s x i = true
          · rw [if_pos hW, decide_eq_true hW]
          · rw [if_neg hW, decide_eq_false hW]
        · rw [if_neg hT, decide_eq_false hT]; rfl
    · rw [if_neg (by omega), decide_eq_false hl]; rfl
  · rw [decide_eq_false hn]
    split
    · rfl
    · rw [if_pos (by omega)]; rfl

theorem StateOk_impl (s : GShow) (x : GState) (hs : SmallS s) (h1 : x.times.length ≤ 1048576) (h2 : x.values.length ≤ 1048576) : m_impl_StateOk s x = some (stateOk s x) := by
  unfold m_impl_StateOk stateOk
  rw [ShowOk_impl s hs]
  simp only [obnd]
  cases hA : showOk s
  · rfl
  · rw [if_pos rfl, isState_eq s x hs (showOk_right hA) h1 h2]
    simp only [Bool.true_and]

theorem StateOk_spec (s : GShow) (x : GState) (hs : SmallS s) (h1 : x.times.length ≤ 1048576) (h2 : x.values.length ≤ 1048576) : m_spec_StateOk s x = some (stateOk s x) := by
  unfold m_spec_StateOk stateOk
  rw [ShowOk_spec s hs]
  simp only [obnd]
  cases hA : showOk s
  · rfl
  · have hR := showOk_right hA
    have hh := hR.hor
    have hn1 := hR.node1
    rw [if_pos rfl, l01In_eq, wr (x := s.horizon + 1) (by omega) (by omega)]
    simp only
    by_cases hn : 0 ≤ x.now ∧ x.now ≤ s.horizon + 1
    · rw [if_pos (decide_eq_true hn), decide_eq_true hn, Bool.true_and]
      by_cases hl : x.times.length = s.nodes.length
      · rw [if_pos (by omega), decide_eq_true hl, Bool.true_and, show (0 : Int) = ((0 : Nat) : Int) from rfl, getI_tmN (by omega)]
        simp only [Bool.true_and]
        by_cases ht0 : tm x.times 0 = 0
        · rw [if_pos (by exact ht0), ValuesOk_spec _ (by unfold Cnt; omega)]
          simp only
          cases hv : valuesOk x.values
          · rfl
          · rw [if_pos rfl, Bool.true_and]
            have hv3 : x.values.length = 3 := by
              unfold valuesOk at hv
              simp only [Bool.and_eq_true, decide_eq_true_eq] at hv
              exact hv.1
            have key : loopO (m_spec_StateOk_L1 x.times ((x.times.length : Nat) : Int) s.nodes s.ties s.horizon x.now x.values) ((0 : Nat) : Int) = some (if ∀ i, i < x.times.length → timeP x i = true then .inl () else .inr false) := by
              have stp : ∀ i, i < x.times.length → m_spec_StateOk_L1 x.times ((x.times.length : Nat) : Int) s.nodes s.ties s.horizon x.now x.values ((i : Nat) : Int) = some (if timeP x i = true then .next ((i + 1 : Nat) : Int) else .done (.inr false)) := by
                intro i hi
                unfold m_spec_StateOk_L1
                rw [if_pos (by omega), getI_tmN hi, wr (x := (i : Int) + 1) (by omega) (by omega), wr (x := x.now - 1) (by omega) (by omega)]
                simp only [obnd, l01In_eq]
                unfold timeP
                by_cases h0 : i = 0
                · subst h0
                  rw [if_neg (by omega), if_pos rfl, decide_eq_true ht0]; rfl
                · rw [if_pos (by omega), if_neg h0]
                  split <;> rfl
              refine loopO_all x.times.length (fun i => (i : Int)) (timeP x) ?_ ?_ ?_
              · intro i hi hp
                simp only [stp i hi, hp, if_true]
              · intro i hi hp
                simp only [stp i hi, hp]; rfl
              · unfold m_spec_StateOk_L1
                rw [if_neg (by omega)]
            rw [key]
            by_cases hT : ∀ i, i < x.times.length → timeP x i = true
            · rw [if_pos hT, decide_eq_true hT, Bool.true_and]
              simp only
              have key2 : loopO (m_spec_StateOk_L2 s.nodes s.ties s.horizon x.now x.times x.values) (((0 : Nat) : Int) + 1) = some (if ∀ i, i < nProps → watchP s x i = true then .inl () else .inr false) := by
                have stp : ∀ i, i < nProps → m_spec_StateOk_L2 s.nodes s.ties s.horizon x.now x.times x.values (((i : Nat) : Int) + 1) = (if watchP s x i = true then some (.next (((i + 1 : Nat) : Int) + 1)) else some (.done (.inr false))) := by
                  intro i hi
                  have hn3 : nProps = 3 := rfl
                  unfold m_spec_StateOk_L2
                  rw [if_pos (by omega), wr (x := (i : Int) + 1 - 1) (by omega) (by omega), show (i : Int) + 1 - 1 = ((i : Nat) : Int) by omega, getI_tmN (by omega), wr (x := (i : Int) + 1 + 1) (by omega) (by omega)]
                  simp only [obnd]
                  rw [l08Watcher_eq _ _ hs.nodes]
                  exact watch_step s x i hl (some (.next ((i : Int) + 1 + 1))) (some (.done (.inr false)))
                refine loopO_all nProps (fun i => (i : Int) + 1) (watchP s x) ?_ ?_ ?_
                · intro i hi hp
                  simp only [stp i hi, hp, if_true]
                · intro i hi hp
                  simp only [stp i hi, hp]; rfl
                · have hn3 : nProps = 3 := rfl
                  unfold m_spec_StateOk_L2
                  rw [if_neg (by omega)]
              rw [show (1 : Int) = ((0 : Nat) : Int) + 1 from rfl, key2]
              by_cases hW : ∀ i, i < nProps → watchP s x i = true
              · rw [if_pos hW, decide_eq_true hW]
              · rw [if_neg hW, decide_eq_false hW]
            · rw [if_neg hT, decide_eq_false hT]; rfl
        · rw [if_neg (by exact ht0), decide_eq_false (p := ∀ i, i < x.times.length → timeP x i = true) (fun h => ht0 (by have := h 0 (by omega); unfold timeP at this; simpa using this))]
          simp
      · rw [if_neg (by omega), decide_eq_false hl]; rfl
    · rw [if_neg (by rw [decide_eq_false hn]; simp), decide_eq_false hn]; rfl

structure StateR (s : GShow) (x : GState) : Prop where
  right : Right s
  len : x.times.length = s.nodes.length
  all : ∀ i : Int, 0 ≤ i → i < s.nodes.length → -1 ≤ tm x.times i ∧ tm x.times i ≤ 11
theorem stateOk_right {s : GShow} {x : GState} (h : stateOk s x = true) : StateR s x := by
  unfold stateOk at h
  simp only [Bool.and_eq_true, decide_eq_true_eq] at h
  obtain ⟨⟨⟨⟨⟨h1, h2⟩, h3⟩, _⟩, h4⟩, _⟩ := h
  have hR := showOk_right h1
  refine ⟨hR, h3, fun i h0 hi => ?_⟩
  have hh := hR.hor
  have := h4 i.toNat (by omega)
  unfold timeP at this
  split at this
  · rename_i he
    rw [decide_eq_true_eq] at this
    rw [show i = 0 by omega, this]; omega
  · rw [decide_eq_true_eq, show ((i.toNat : Nat) : Int) = i by omega] at this
    omega

/-! ### TakesOf -/
def freeAt (s : GShow) (i : Nat) : Bool := (s.ties[i]?).any (fun t => t.free)
def tieAt (s : GShow) (k : Int) : GTie := (s.ties[k.toNat]?).getD ⟨0, 0, 0, 0, false⟩
def seenAt (s : GShow) (x : GState) (k : Int) : Bool := decide (tm x.times (tieAt s k).from_ ≠ -1 ∧ tm x.times (tieAt s k).to ≠ -1)
def takeAt (s : GShow) (x : GState) (k : Int) : GTake := ⟨k, tm x.times (tieAt s k).to - tm x.times (tieAt s k).from_⟩
def takesFrom (s : GShow) (x : GState) (l : List Int) : List GTake := (l.filter (seenAt s x)).map (takeAt s x)
def takesOf (s : GShow) (x : GState) : List GTake := if stateOk s x = true then takesFrom s x (places (freeAt s) s.ties.length) else []

theorem takesFrom_yes {s : GShow} {x : GState} {l : List Int} {k : Int} (h : seenAt s x k = true) : takesFrom s x (l ++ [k]) = takesFrom s x l ++ [takeAt s x k] := by
  unfold takesFrom
  rw [List.filter_append, List.map_append]; simp [h]
theorem takesFrom_no {s : GShow} {x : GState} {l : List Int} {k : Int} (h : seenAt s x k = false) : takesFrom s x (l ++ [k]) = takesFrom s x l := by
  unfold takesFrom
  rw [List.filter_append, List.map_append]; simp [h]
theorem takesFrom_len (s : GShow) (x : GState) (l : List Int) : (takesFrom s x l).length ≤ l.length := by
  unfold takesFrom
  rw [List.length_map]
  exact List.length_filter_le _ _
theorem takesOf_len (s : GShow) (x : GState) (hs : s.ties.length ≤ 1048576) : (takesOf s x).length ≤ 1048576 := by
  unfold takesOf
  split
  · exact Nat.le_trans (takesFrom_len _ _ _) (Nat.le_trans (places_len _ _) hs)
  · simp
theorem tieAt_lt {s : GShow} {i : Nat} (h : i < s.ties.length) : tieAt s (i : Int) = s.ties[i] := by
  unfold tieAt
  rw [Int.toNat_natCast, List.getElem?_eq_getElem h]; rfl

theorem TakesOf_impl (s : GShow) (x : GState) (hs : SmallS s) (h1 : x.times.length ≤ 1048576) (h2 : x.values.length ≤ 1048576) : m_impl_TakesOf s x = some (takesOf s x) := by
  unfold m_impl_TakesOf takesOf
  rw [StateOk_impl s x hs h1 h2]
  simp only [obnd]
  cases hA : stateOk s x
  · rfl
  · have hR := stateOk_right hA
    have h14 := hR.right.ties
    have hln := hR.len
    rw [if_pos rfl, if_pos rfl]
    have key : loopO (m_impl_TakesOf_L1 s.ties ((s.ties.length : Nat) : Int) x.now x.times x.values) (((0 : Nat) : Int), takesFrom s x (places (freeAt s) 0)) = some (takesFrom s x (places (freeAt s) s.ties.length)) := by
      refine loopO_to s.ties.length (fun i => ((i : Int), takesFrom s x (places (freeAt s) i))) ?_ ?_
      · intro i hi
        have hT := hR.right.tie _ (List.getElem_mem hi)
        have hb1 := hR.all _ hT.f0 hT.f1
        have hb2 := hR.all _ hT.t0 hT.t1
        have hl1 := takesFrom_len s x (places (freeAt s) i)
        have hl2 := places_len (freeAt s) i
        have ef : freeAt s i = s.ties[i].free := by unfold freeAt; rw [List.getElem?_eq_getElem hi]; rfl
        have et := tieAt_lt hi
        unfold m_impl_TakesOf_L1
        simp only
        rw [if_pos (by omega), getI_lt hi, wr (x := (i : Int) + 1) (by omega) (by omega)]
        simp only [obnd]
        rw [getI_tm hT.f0 (by have := hT.f1; omega), getI_tm hT.t0 (by have := hT.t1; omega)]
        simp only
        rw [wr (x := tm x.times s.ties[i].to - tm x.times s.ties[i].from_) (by omega) (by omega)]
        cases hf : s.ties[i].free
        · rw [if_neg (by simp), places_no (by rw [ef, hf])]; rfl
        · rw [if_pos rfl, places_yes (by rw [ef, hf])]
          by_cases ha : tm x.times s.ties[i].from_ = -1
          · rw [if_pos ha, takesFrom_no (by unfold seenAt; rw [et]; exact decide_eq_false (fun h => h.1 ha))]; rfl
          · rw [if_neg ha]
            by_cases hb : tm x.times s.ties[i].to = -1
            · rw [if_pos hb, takesFrom_no (by unfold seenAt; rw [et]; exact decide_eq_false (fun h => h.2 hb))]; rfl
            · rw [if_neg hb, chk_pos (by omega), chk_pos (by omega), takesFrom_yes (by unfold seenAt; rw [et]; exact decide_eq_true ⟨ha, hb⟩)]
              unfold takeAt
              rw [et]; rfl
      · unfold m_impl_TakesOf_L1
        simp only
        rw [if_neg (by omega)]
    rw [show takesFrom s x (places (freeAt s) 0) = [] from rfl] at key
    rw [show (0 : Int) = ((0 : Nat) : Int) from rfl, key]

theorem l10Free_eq (s : GShow) (h : s.ties.length ≤ 1048576) : m_spec_l10Free s = some (places (freeAt s) s.ties.length) := by
  unfold m_spec_l10Free
  have key : loopO (m_spec_l10Free_L1 s.ties ((s.ties.length : Nat) : Int)) (((0 : Nat) : Int), places (freeAt s) 0) = some (places (freeAt s) s.ties.length) := by
    refine loopO_to s.ties.length (fun i => ((i : Int), places (freeAt s) i)) ?_ ?_
    · intro i hi
      have hl2 := places_len (freeAt s) i
      have ef : freeAt s i = s.ties[i].free := by unfold freeAt; rw [List.getElem?_eq_getElem hi]; rfl
      unfold m_spec_l10Free_L1
      simp only
      rw [if_pos (by omega), getI_lt hi, wr (x := (i : Int) + 1) (by omega) (by omega)]
      simp only [obnd]
      cases hf : s.ties[i].free
      · rw [if_neg (by simp), places_no (by rw [ef, hf])]; rfl
      · rw [if_pos rfl, chk_pos (by omega), chk_pos (by omega), places_yes (by rw [ef, hf])]; rfl
    · unfold m_spec_l10Free_L1
      simp only
      rw [if_neg (by omega)]
  rw [places_zero] at key
  rw [show (0 : Int) = ((0 : Nat) : Int) from rfl, key]; rfl
theorem places_get {p : Nat → Bool} {n j : Nat} (h : j < (places p n).length) : ∃ i, i < n ∧ (places p n)[j] = (i : Int) := by
  have hm := List.getElem_mem h
  generalize (places p n)[j] = k at hm
  unfold places at hm
  rw [List.mem_map] at hm
  obtain ⟨i, hi, rfl⟩ := hm
  exact ⟨i, by have := (List.mem_filter.1 hi).1; simpa using this, rfl⟩

theorem TakesOf_spec (s : GShow) (x : GState) (hs : SmallS s) (h1 : x.times.length ≤ 1048576) (h2 : x.values.length ≤ 1048576) (h3 : s.ties.length ≤ 1048576) : m_spec_TakesOf s x = some (takesOf s x) := by
  unfold m_spec_TakesOf takesOf
  rw [StateOk_spec s x hs h1 h2]
  simp only [obnd]
  cases hA : stateOk s x
  · rfl
  · have hR := stateOk_right hA
    have h14 := hR.right.ties
    have hln := hR.len
    rw [if_pos rfl, if_pos rfl, l10Free_eq s h3]
    simp only
    have hpl := places_len (freeAt s) s.ties.length
    have hget : ∀ j (hj : j < (places (freeAt s) s.ties.length).length), ∃ i, i < s.ties.length ∧ (places (freeAt s) s.ties.length)[j] = (i : Int) := fun j hj => places_get hj
    generalize places (freeAt s) s.ties.length = L at hpl hget ⊢
    have key : loopO (m_spec_TakesOf_L1 ((L.length : Nat) : Int) s.nodes s.ties s.horizon x.now x.times x.values L) (((0 : Nat) : Int), takesFrom s x (L.take 0)) = some (takesFrom s x L) := by
      refine loopO_to L.length (fun i => ((i : Int), takesFrom s x (L.take i))) ?_ ?_
      · intro j hj
        obtain ⟨i, hi, he⟩ := hget j hj
        have hT := hR.right.tie _ (List.getElem_mem hi)
        have hb1 := hR.all _ hT.f0 hT.f1
        have hb2 := hR.all _ hT.t0 hT.t1
        have hl1 := takesFrom_len s x (L.take j)
        rw [List.length_take] at hl1
        have et := tieAt_lt hi
        unfold m_spec_TakesOf_L1
        simp only
        rw [if_pos (by omega), getI_lt hj, wr (x := (j : Int) + 1) (by omega) (by omega), take_succ_of hj, he]
        simp only [obnd]
        rw [getI_lt hi]
        simp only
        rw [getI_tm hT.f0 (by have := hT.f1; omega), getI_tm hT.t0 (by have := hT.t1; omega)]
        simp only
        rw [wr (x := tm x.times s.ties[i].to - tm x.times s.ties[i].from_) (by omega) (by omega)]
        by_cases ha : tm x.times s.ties[i].from_ = -1
        · rw [if_pos ha, takesFrom_no (by unfold seenAt; rw [et]; exact decide_eq_false (fun h => h.1 ha))]; rfl
        · rw [if_neg ha]
          by_cases hb : tm x.times s.ties[i].to = -1
          · rw [if_pos hb, takesFrom_no (by unfold seenAt; rw [et]; exact decide_eq_false (fun h => h.2 hb))]; rfl
          · rw [if_neg hb, chk_pos (by omega), chk_pos (by omega), takesFrom_yes (by unfold seenAt; rw [et]; exact decide_eq_true ⟨ha, hb⟩)]
            unfold takeAt
            rw [et]; rfl
      · unfold m_spec_TakesOf_L1
        simp only
        rw [if_neg (by omega), List.take_length]
    rw [show takesFrom s x (L.take 0) = [] from rfl] at key
    rw [show (0 : Int) = ((0 : Nat) : Int) from rfl, key]

/-! ### States in the laws -/
structure FitX (x : GState) : Prop where
  times : x.times.length ≤ 1048576
  values : x.values.length ≤ 1048576
theorem toState_eq (x : GState) (h : FitX x) : m_laws_toState x = some x := by
  unfold m_laws_toState
  rw [toIntS_eq _ h.times, toIntS_eq _ h.values]; rfl
theorem szState_ok {x : GState} {l : Int} (hl : l ≤ 1048576) (h0 : 0 ≤ l) (hb : BdX x) : ∃ r, m_laws_szState x l = some r ∧ (r < 0 ∨ (0 ≤ r ∧ r ≤ l ∧ FitX x)) := by
  unfold m_laws_szState
  rw [szIntS_ok hl h0 hb.times]
  simp only [obnd]
  by_cases h : l - (x.times.length : Int) < 0
  · rw [if_pos h]; exact ⟨_, rfl, .inl (by omega)⟩
  · rw [if_neg h, if_neg h, szIntS_ok (by omega) (by omega) hb.values]
    simp only
    by_cases h' : l - (x.times.length : Int) - (x.values.length : Int) < 0
    · rw [if_pos h']; exact ⟨_, rfl, .inl (by omega)⟩
    · rw [if_neg h', if_neg h']
      exact ⟨_, rfl, .inr ⟨by omega, by omega, by omega, by omega⟩⟩
theorem eqState_self (x : GState) (h : FitX x) : m_laws_eqState x x = some true := by
  unfold m_laws_eqState
  rw [if_pos rfl, eqIntS_eq _ _ (by have := h.times; unfold Cnt; omega), eqIntS_eq _ _ (by have := h.values; unfold Cnt; omega)]
  simp [obnd]
theorem markState_ok (x : GState) (k : Int) (h : FitX x) (h0 : 0 ≤ k) (hk : k ≤ 1152921504605798400) : ∃ q, m_laws_markState x k = some q ∧ 0 ≤ q.1 := by
  unfold m_laws_markState
  have h1 := h.times
  have h2 := h.values
  rw [markIntS_eq _ k h.times h0 (by omega)]
  simp only [obnd]
  rw [markIntS_eq _ _ h.values (by omega) (by omega)]
  exact ⟨_, rfl, by simp only; omega⟩

/-! ### Takes marked and held -/
def mkT (k : Int) (n : Nat) : List GTake := (List.range n).map (fun (j : Nat) => ⟨k + 2 * (j : Int), k + 2 * (j : Int) + 1⟩)
def mkTA (k : Int) (a : List GTake) (i : Nat) : List GTake := a.mapIdx (fun j x => if j < i then ⟨k + 2 * (j : Int), k + 2 * (j : Int) + 1⟩ else x)
theorem mkT_length (k : Int) (n : Nat) : (mkT k n).length = n := by simp [mkT]
theorem mkT_take (k : Int) (n : Nat) : (mkT k n).take n = mkT k n := List.take_of_length_le (by rw [mkT_length]; omega)
theorem mkTA_length (k : Int) (a : List GTake) (i : Nat) : (mkTA k a i).length = a.length := by simp [mkTA]
theorem mkTA_zero (k : Int) (a : List GTake) : mkTA k a 0 = a := by
  apply List.ext_getElem (by simp [mkTA])
  intro j h1 h2
  simp [mkTA]
theorem mkTA_all (k : Int) (a : List GTake) : mkTA k a a.length = mkT k a.length := by
  apply List.ext_getElem (by simp [mkTA, mkT])
  intro j h1 h2
  simp [mkTA_length] at h1
  simp [mkTA, mkT, h1]
theorem mkTA_step (k : Int) (a : List GTake) (i : Nat) (hi : i < a.length) : (mkTA k a i).set i ⟨k + 2 * (i : Int), k + 2 * (i : Int) + 1⟩ = mkTA k a (i + 1) := by
  apply List.ext_getElem (by simp [mkTA])
  intro j h1 h2
  rw [List.getElem_set]
  simp only [mkTA, List.getElem_mapIdx]
  by_cases h : i = j
  · subst h; simp
  · rw [if_neg h]
    by_cases h3 : j < i
    · rw [if_pos h3, if_pos (by omega)]
    · rw [if_neg h3, if_neg (by omega)]
theorem markTakeS_eq (a : List GTake) (k : Int) (ha : a.length ≤ 1048576) (h0 : 0 ≤ k) (hk : k ≤ 1152921504606846976) : m_laws_markTakeS a k = some (k + 2 * a.length, mkT k a.length) := by
  unfold m_laws_markTakeS
  have key : loopO m_laws_markTakeS_L1 (k + 2 * ((0 : Nat) : Int), ((0 : Nat) : Int), mkTA k a 0) = some (k + 2 * a.length, mkT k a.length) := by
    refine loopO_to a.length (fun i => (k + 2 * (i : Int), (i : Int), mkTA k a i)) ?_ ?_
    · intro i hi
      have hl := mkTA_length k a i
      have hi' : i < (mkTA k a i).length := by omega
      unfold m_laws_markTakeS_L1
      simp only
      rw [if_pos (by omega), getI_lt hi', wr (x := k + 2 * (i : Int) + 1) (by omega) (by omega), wr (x := k + 2 * (i : Int) + 1 + 1) (by omega) (by omega), wr (x := (i : Int) + 1) (by omega) (by omega)]
      simp only [obnd, Int.toNat_natCast]
      rw [getI_lt (by rw [List.length_set]; exact hi')]
      simp only [List.getElem_set_self, List.set_set]
      rw [mkTA_step k a i hi]
      rw [show k + 2 * (i : Int) + 1 + 1 = k + 2 * ((i + 1 : Nat) : Int) by omega, show (i : Int) + 1 = ((i + 1 : Nat) : Int) by omega]
    · have hl := mkTA_length k a a.length
      unfold m_laws_markTakeS_L1
      simp only
      rw [if_neg (by omega), mkTA_all]
  rw [mkTA_zero, show k + 2 * ((0 : Nat) : Int) = k by omega, show ((0 : Nat) : Int) = 0 from rfl] at key
  rw [key]; rfl
theorem heldTakeS_eq (k : Int) (n : Nat) (hn : n ≤ 1048576) (h0 : 0 ≤ k) (hk : k ≤ 1152921504606846976) : m_laws_heldTakeS (mkT k n) k = some (k + 2 * n) := by
  unfold m_laws_heldTakeS
  have hl : (mkT k n).length = n := by simp [mkT]
  have key : loopO (m_laws_heldTakeS_L1 (mkT k n)) (k + 2 * ((0 : Nat) : Int), ((0 : Nat) : Int)) = some (.inl (k + 2 * n)) := by
    refine loopO_to n (fun i => (k + 2 * (i : Int), (i : Int))) ?_ ?_
    · intro i hi
      unfold m_laws_heldTakeS_L1
      simp only
      rw [if_pos (by omega), getI_lt (by omega), wr (x := k + 2 * (i : Int) + 1) (by omega) (by omega), wr (x := k + 2 * (i : Int) + 1 + 1) (by omega) (by omega), wr (x := (i : Int) + 1) (by omega) (by omega)]
      simp only [obnd]
      rw [if_pos (by simp [mkT]), if_pos (by simp [mkT])]
      rw [show k + 2 * (i : Int) + 1 + 1 = k + 2 * ((i + 1 : Nat) : Int) by omega, show (i : Int) + 1 = ((i + 1 : Nat) : Int) by omega]
    · unfold m_laws_heldTakeS_L1
      simp only
      rw [if_neg (by omega)]
  rw [show k + 2 * ((0 : Nat) : Int) = k by omega, show ((0 : Nat) : Int) = 0 from rfl] at key
  rw [key]; rfl

theorem TakesOf_law (s : GShow) (x : GState) (hb : BdS s) (hx : BdX x) : m_laws_FnExactTakesOf s x = some true := by
  unfold m_laws_FnExactTakesOf
  obtain ⟨r, hr, hp⟩ := szShow_left hb
  rw [hr]
  simp only [obnd]
  rcases hp with hp | ⟨hf, h0, h1⟩
  · rw [if_pos hp]
  · obtain ⟨r2, hr2, hp2⟩ := szState_ok h1 h0 hx
    rw [if_neg (by omega), hr2]
    simp only
    rcases hp2 with hp2 | ⟨_, _, fx⟩
    · rw [if_pos hp2]
    · rw [if_neg (by omega)]
      have hlen := takesOf_len s x hf.ties
      simp only [toShow_eq s hf, toState_eq x fx, TakesOf_impl s x hf.small fx.times fx.values, TakesOf_spec s x hf.small fx.times fx.values hf.ties]
      generalize takesOf s x = g at hlen ⊢
      obtain ⟨q, hq, hq1, hq2⟩ := markShow_ok s 1 hf (by omega) (by omega)
      obtain ⟨q3, hq3, hq4⟩ := markState_ok x q.1 fx (by omega) (by omega)
      simp only [eqTakeS_self g hlen, eqShow_self s hf, eqState_self x fx, hq, hq3, if_true]
      rw [if_neg (by omega), markTakeS_eq g 1 hlen (by omega) (by omega)]
      simp only
      rw [chk_pos (by rw [mkT_length]; omega), mkT_take, heldTakeS_eq 1 _ hlen (by omega) (by omega)]
      simp only
      rw [if_neg (by omega)]
      simp
      omega
end Go.Proofs.YtgmiaokdnpaglaaX
