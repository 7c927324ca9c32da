/- From trees that fit to the things they are. Own work. -/
import Derived.Test.YteijmljgodikiaaGreatZ27
import Derived.Test.YteijmljgodikiaaGreatZP9
import Derived.Test.YteijmljgodikiaaGreatRows
import Derived.KernelRfl
set_option linter.all false
set_option linter.unusedVariables false
set_option maxRecDepth 100000
namespace Go.Proofs.YteijmljgodikiaaGreatZ
open Go
theorem fitL_cons {s : Sh} {ss : List Sh} {aa : List AV} (h : FitL (s :: ss) aa) : ∃ a r, aa = a :: r ∧ Fit s a ∧ FitL ss r := by
  cases aa with
  | nil => simp [FitL] at h
  | cons a r => simp only [FitL] at h; exact ⟨a, r, rfl, h.1, h.2⟩
theorem fitL_nil {aa : List AV} (h : FitL [] aa) : aa = [] := by
  cases aa with
  | nil => rfl
  | cons a r => simp [FitL] at h
theorem fit_rows {α : Type} {e : α → List AV} {p : α → Prop} {cs : List Sh} (hx : ∀ r, FitL cs r → ∃ x, r = e x ∧ p x) : ∀ {rows : List (List AV)}, (∀ r, r ∈ rows → FitL cs r) → ∃ xs : List α, rows = rowsOf e xs ∧ ∀ x, x ∈ xs → p x
  | [], _ => ⟨[], rfl, by simp⟩
  | r :: rows, h => by
    obtain ⟨x, rfl, hp⟩ := hx r (h r (by simp))
    obtain ⟨xs, rfl, hps⟩ := fit_rows hx (rows := rows) (fun r hr => h r (by simp [hr]))
    refine ⟨x :: xs, rfl, fun y hy => ?_⟩
    rcases List.mem_cons.1 hy with rfl | hy
    · exact hp
    · exact hps y hy
theorem fit_sl {α : Type} {e : α → List AV} {p : α → Prop} {cs : List Sh} {av : AV} (hx : ∀ r, FitL cs r → ∃ x, r = e x ∧ p x) (h : Fit (.sl cs) av) : ∃ xs : List α, av = .sl (rowsOf e xs) ∧ xs.length ≤ maxLen ∧ ∀ x, x ∈ xs → p x := by
  simp only [Fit] at h
  obtain ⟨rows, rfl, hl, hr⟩ := h
  obtain ⟨xs, rfl, hp⟩ := fit_rows hx hr
  exact ⟨xs, rfl, by simpa [rowsOf] using hl, hp⟩
theorem fit_int {k : IntKind} {av : AV} (h : Fit (.int k) av) : ∃ n, av = .lit (.int k n) := by
  simp only [Fit] at h; obtain ⟨n, rfl, _⟩ := h; exact ⟨n, rfl⟩
theorem fit_bool {av : AV} (h : Fit .bool av) : ∃ b, av = .lit (.bool b) := by simpa only [Fit] using h
theorem fit_str {av : AV} (h : Fit .str av) : ∃ s : ByteArray, av = .lit (.string s) ∧ s.size ≤ maxLen := by simpa only [Fit] using h
theorem fit_eI (r : List AV) (h : FitL [.int .i64] r) : ∃ x, r = eI x ∧ True := by
  obtain ⟨a, r, rfl, ha, hr⟩ := fitL_cons h
  obtain rfl := fitL_nil hr
  obtain ⟨n, rfl⟩ := fit_int ha
  exact ⟨n, rfl, trivial⟩
theorem fit_ints {av : AV} (h : Fit (.sl [.int .i64]) av) : ∃ xs : List Int, av = .sl (rowsOf eI xs) ∧ xs.length ≤ maxLen := by
  obtain ⟨xs, h1, h2, _⟩ := fit_sl fit_eI h
  exact ⟨xs, h1, h2⟩
def shTie : List Sh := [.int .i64, .int .i64, .int .i64, .int .i64, .bool]
def shNode : List Sh := [.str, .sl [.int .i64], .int .i64]
theorem fit_tie (r : List AV) (h : FitL shTie r) : ∃ x, r = GTie.enc x ∧ True := by
  obtain ⟨a1, r, rfl, h1, h⟩ := fitL_cons h
  obtain ⟨a2, r, rfl, h2, h⟩ := fitL_cons h
  obtain ⟨a3, r, rfl, h3, h⟩ := fitL_cons h
  obtain ⟨a4, r, rfl, h4, h⟩ := fitL_cons h
  obtain ⟨a5, r, rfl, h5, h⟩ := fitL_cons h
  obtain rfl := fitL_nil h
  obtain ⟨n1, rfl⟩ := fit_int h1
  obtain ⟨n2, rfl⟩ := fit_int h2
  obtain ⟨n3, rfl⟩ := fit_int h3
  obtain ⟨n4, rfl⟩ := fit_int h4
  obtain ⟨n5, rfl⟩ := fit_bool h5
  exact ⟨⟨n1, n2, n3, n4, n5⟩, rfl, trivial⟩
theorem fit_node (r : List AV) (h : FitL shNode r) : ∃ x, r = GNode.encS x ∧ BdN x := by
  obtain ⟨a1, r, rfl, h1, h⟩ := fitL_cons h
  obtain ⟨a2, r, rfl, h2, h⟩ := fitL_cons h
  obtain ⟨a3, r, rfl, h3, h⟩ := fitL_cons h
  obtain rfl := fitL_nil h
  obtain ⟨n1, rfl, l1⟩ := fit_str h1
  obtain ⟨n2, rfl, l2⟩ := fit_ints h2
  obtain ⟨n3, rfl⟩ := fit_int h3
  exact ⟨⟨n1, n2, n3⟩, rfl, ⟨l1, l2⟩⟩
theorem argsFit_cons {T : Nat → Ty} {t : Nat} {ts : List Nat} {aa : List AV} (h : ArgsFit T (t :: ts) aa) : ∃ a r, aa = a :: r ∧ ArgFit T t a ∧ ArgsFit T ts r := by
  cases aa with
  | nil => simp [ArgsFit] at h
  | cons a r => simp only [ArgsFit] at h; exact ⟨a, r, rfl, h.1, h.2⟩
theorem argsFit_nil {T : Nat → Ty} {aa : List AV} (h : ArgsFit T [] aa) : aa = [] := by
  cases aa with
  | nil => rfl
  | cons a r => simp [ArgsFit] at h
theorem argFit_struct {T : Nat → Ty} {t : Nat} {a : AV} {s : List Sh} {fs : List (Nat × Nat)} (h : ArgFit T t a) (hs : shapeOf T 20 t = some s) (hk : (T t).kind = .struct fs) : ∃ aa, a = .agg aa ∧ FitL s aa := by
  obtain ⟨s', h1, h2⟩ := h
  rw [hs] at h1
  cases h1
  simpa only [hk] using h2
end Go.Proofs.YteijmljgodikiaaGreatZ

/- Shows with times: areShown and l26Ok, BrokenTies, MarginOf. Own work. -/
set_option linter.unusedVariables false
set_option linter.unusedSimpArgs false
namespace Go.Proofs.YteijmljgodikiaaGreatZ
open Go

/-! ### What a show that is right has -/
structure RightT (s : GShow) (t : GTie) : Prop where
  f0 : 0 ≤ t.from_
  f1 : t.from_ < s.nodes.length
  t0 : 0 ≤ t.to
  t1 : t.to < s.nodes.length
  lo : -20 ≤ t.low
  hi : t.high ≤ 20
  lh : t.low ≤ t.high
structure Right (s : GShow) : Prop where
  tie : ∀ t, t ∈ s.ties → RightT s t
  ties : s.ties.length ≤ 14
  nodes : s.nodes.length ≤ 7
  node1 : 1 ≤ s.nodes.length
  hor : 1 ≤ s.horizon ∧ s.horizon ≤ 10
theorem showOk_right {s : GShow} (h : showOk s = true) : Right s := by
  unfold showOk nodesA at h
  simp only [Bool.and_eq_true, decide_eq_true_eq] at h
  obtain ⟨⟨⟨⟨⟨⟨h1, _⟩, _⟩, h2⟩, h3⟩, h4⟩, _⟩ := h
  refine ⟨?_, h3, h1.2, h1.1, h4⟩
  intro t ht
  obtain ⟨i, hi, rfl⟩ := List.getElem_of_mem ht
  have := h2 i hi
  rw [tieP_lt hi, Bool.and_eq_true] at this
  have hB := this.1
  unfold tieB at hB
  rw [decide_eq_true_eq] at hB
  obtain ⟨⟨a1, a2⟩, ⟨b1, b2⟩, c1, c2, c3, c4⟩ := hB
  exact ⟨a1, a2, b1, b2, c2, c3, c4⟩
/-- The time at a place. -/
def tm (ts : List Int) (i : Int) : Int := (ts[i.toNat]?).getD 0
theorem getI_tm {ts : List Int} {i : Int} (h0 : 0 ≤ i) (h1 : i < ts.length) : getI ts i = some (tm ts i) := by
  unfold getI tm
  rw [if_pos h0, List.getElem?_eq_getElem (by omega)]; rfl
theorem tm_mem {ts : List Int} {i : Int} (h0 : 0 ≤ i) (h1 : i < ts.length) : tm ts i ∈ ts := by
  unfold tm
  rw [List.getElem?_eq_getElem (by omega)]
  exact List.getElem_mem _
/-! ### The places of those of a kind -/
def places (p : Nat → Bool) (n : Nat) : List Int := ((List.range n).filter p).map (fun (i : Nat) => (i : Int))
theorem places_zero (p : Nat → Bool) : places p 0 = [] := rfl
theorem places_yes {p : Nat → Bool} {n : Nat} (h : p n = true) : places p (n + 1) = places p n ++ [(n : Int)] := by
  unfold places
  rw [List.range_succ, List.filter_append, List.map_append]
  simp [h]
theorem places_no {p : Nat → Bool} {n : Nat} (h : p n = false) : places p (n + 1) = places p n := by
  unfold places
  rw [List.range_succ, List.filter_append, List.map_append]
  simp [h]
theorem places_len (p : Nat → Bool) (n : Nat) : (places p n).length ≤ n := by
  unfold places
  rw [List.length_map]
  have := List.length_filter_le p (List.range n)
  simpa using this

/-! ### MarginOf -/
end Go.Proofs.YteijmljgodikiaaGreatZ

/- Takes: TakesOk, KeepsAssumptions, ObservedRange. Own work. -/
set_option linter.unusedVariables false
set_option linter.unusedSimpArgs false
namespace Go.Proofs.YteijmljgodikiaaGreatZ
open Go

/-! ### Copied, weighed, compared -/
/-! ### TakesOk -/
/-! ### ObservedRange -/
theorem take_succ_of {α : Type} {l : List α} {i : Nat} (h : i < l.length) : l.take (i + 1) = l.take i ++ [l[i]] := by
  rw [List.take_add_one, List.getElem?_eq_getElem h]; rfl
end Go.Proofs.YteijmljgodikiaaGreatZ

/- From trees that fit to takes and states. Own work. -/
set_option linter.unusedVariables false
set_option maxRecDepth 100000
namespace Go.Proofs.YteijmljgodikiaaGreatZ
open Go
structure BdX (x : GState) : Prop where
  times : x.times.length ≤ maxLen
  values : x.values.length ≤ maxLen
end Go.Proofs.YteijmljgodikiaaGreatZ

/- TimeLine. Own work. -/
set_option linter.unusedVariables false
set_option linter.unusedSimpArgs false
namespace Go.Proofs.YteijmljgodikiaaGreatZ
open Go

end Go.Proofs.YteijmljgodikiaaGreatZ

/- States and TakesOf. Own work. -/
set_option linter.unusedVariables false
set_option linter.unusedSimpArgs false
namespace Go.Proofs.YteijmljgodikiaaGreatZ
open Go

/-! ### States -/
def valuesOk (v : List Int) : Bool := decide (v.length = 3) && v.all (fun n => decide (-1 ≤ n ∧ n ≤ 1))
theorem ValuesOk_impl (v : List Int) (hv : Cnt v.length) : m_impl_ValuesOk v = some (valuesOk v) := by
  unfold m_impl_ValuesOk valuesOk
  by_cases h3 : v.length = 3
  · rw [if_pos (by omega), decide_eq_true h3, ContainsFunc_int v _ (fun n => !decide (-1 ≤ n ∧ n ≤ 1)) hv]
    · simp only [obnd, Bool.true_and]
      rw [List.all_eq_not_any_not]
    · intro x _
      unfold m_impl_ValuesOk_c1
      by_cases h1 : x < -1
      · rw [if_pos h1, decide_eq_false (by omega)]; rfl
      · rw [if_neg h1]
        by_cases h2 : 1 < x
        · rw [decide_eq_true h2, decide_eq_false (by omega)]; rfl
        · rw [decide_eq_false h2, decide_eq_true (by omega)]; rfl
  · rw [if_neg (by omega), decide_eq_false h3]; rfl
theorem ValuesOk_spec (v : List Int) (hv : Cnt v.length) : m_spec_ValuesOk v = some (valuesOk v) := by
  unfold m_spec_ValuesOk valuesOk
  have key : loopO (m_spec_ValuesOk_L1 v ((v.length : Nat) : Int)) ((0 : Nat) : Int) = some (if v.all (fun n => decide (-1 ≤ n ∧ n ≤ 1)) = true then .inl () else .inr false) := by
    refine loopO_allL v (fun n => decide (-1 ≤ n ∧ n ≤ 1)) (fun i => (i : Int)) ?_ ?_ ?_
    · intro i hi hq
      unfold m_spec_ValuesOk_L1
      rw [if_pos (by omega), getI_lt hi, wr (x := (i : Int) + 1) (by omega) (by omega)]
      simp only [obnd, l01In_eq, hq, if_true]; rfl
    · intro i hi hq
      unfold m_spec_ValuesOk_L1
      rw [if_pos (by omega), getI_lt hi]
      simp only [obnd, l01In_eq, hq]; rfl
    · unfold m_spec_ValuesOk_L1
      rw [if_neg (by omega)]
  rw [show (0 : Int) = ((0 : Nat) : Int) from rfl, key]
  cases v.all (fun n => decide (-1 ≤ n ∧ n ≤ 1))
  · simp [obnd]
  · simp only [obnd, if_true, Bool.and_true]
    congr 1
    exact decide_eq_decide.2 (by omega)

def nProps : Nat := 3
def timeP (x : GState) (i : Nat) : Bool := if i = 0 then decide (tm x.times 0 = 0) else decide (-1 ≤ tm x.times i ∧ tm x.times i ≤ x.now - 1)
def watchP (s : GShow) (x : GState) (i : Nat) : Bool := decide (tm x.values i ≠ 0) == (decide (0 ≤ firstI s.nodes (fun n => decide (n.watch = (i : Int) + 1))) && decide (tm x.times (firstI s.nodes (fun n => decide (n.watch = (i : Int) + 1))) ≠ -1))
def stateOk (s : GShow) (x : GState) : Bool := showOk s && decide (0 ≤ x.now ∧ x.now ≤ s.horizon + 1) && decide (x.times.length = s.nodes.length) && valuesOk x.values && decide (∀ i, i < x.times.length → timeP x i = true) && decide (∀ i, i < nProps → watchP s x i = true)

theorem getI_tmN {ts : List Int} {i : Nat} (h : i < ts.length) : getI ts (i : Int) = some (tm ts (i : Int)) := getI_tm (by omega) (by omega)

/-- The loop over the propositions, as both functions run it. -/
theorem watch_step (s : GShow) (x : GState) (i : Nat) (hl : x.times.length = s.nodes.length) (N E : Option (Step Int (Sum Unit Bool))) :
    (if 0 ≤ firstI s.nodes (fun n => decide (n.watch = (i : Int) + 1)) then
      obnd (getI x.times (firstI s.nodes (fun n => decide (n.watch = (i : Int) + 1)))) fun x10 =>
      if (decide (¬ tm x.values i = 0)) = (decide (¬ x10 = (-1))) then N else E
    else
      if (decide (¬ tm x.values i = 0)) = false then N else E) = if watchP s x i = true then N else E := by
  unfold watchP
  generalize hw : firstI s.nodes (fun n => decide (n.watch = (i : Int) + 1)) = w
  by_cases h0 : 0 ≤ w
  · have hlt : w < s.nodes.length := by
      rw [← hw] at h0
      obtain ⟨j, hj, he, _⟩ := firstI_lt h0
      rw [hw] at he
      omega
    rw [if_pos h0, getI_tm h0 (by omega), decide_eq_true h0]
    simp only [obnd, Bool.true_and, beq_iff_eq]
  · rw [if_neg h0, decide_eq_false h0]
    simp only [Bool.false_and, beq_iff_eq]

theorem isState_eq (s : GShow) (x : GState) (hs : SmallS s) (hR : Right s) (h1 : x.times.length ≤ 1048576) (h2 : x.values.length ≤ 1048576) :
    m_impl_isState s x = some (decide (0 ≤ x.now ∧ x.now ≤ s.horizon + 1) && decide (x.times.length = s.nodes.length) && valuesOk x.values && decide (∀ i, i < x.times.length → timeP x i = true) && decide (∀ i, i < nProps → watchP s x i = true)) := by
  have hh := hR.hor
  unfold m_impl_isState
  rw [wr (x := s.horizon + 1) (by omega) (by omega)]
  by_cases hn : 0 ≤ x.now ∧ x.now ≤ s.horizon + 1
  · rw [if_neg (by omega), if_neg (by omega), decide_eq_true hn, Bool.true_and]
    by_cases hl : x.times.length = s.nodes.length
    · rw [if_pos (by omega), decide_eq_true hl, Bool.true_and, ValuesOk_impl _ (by unfold Cnt; omega)]
      simp only [obnd]
      cases hv : valuesOk x.values
      · rfl
      · rw [if_pos rfl, Bool.true_and]
        have hv3 : x.values.length = 3 := by
          unfold valuesOk at hv
          simp only [Bool.and_eq_true, decide_eq_true_eq] at hv
          exact hv.1
        have key : loopO (m_impl_isState_L1 x.times ((x.times.length : Nat) : Int) s.nodes s.ties s.horizon x.now x.values) ((0 : Nat) : Int) = some (if ∀ i, i < x.times.length → timeP x i = true then .inl () else .inr false) := by
          have stp : ∀ i, i < x.times.length → m_impl_isState_L1 x.times ((x.times.length : Nat) : Int) s.nodes s.ties s.horizon x.now x.values ((i : Nat) : Int) = some (if timeP x i = true then .next ((i + 1 : Nat) : Int) else .done (.inr false)) := by
            intro i hi
            unfold m_impl_isState_L1
            rw [if_pos (by omega), getI_tmN hi, wr (x := (i : Int) + 1) (by omega) (by omega), wr (x := x.now - 1) (by omega) (by omega)]
            simp only [obnd]
            unfold timeP
            by_cases h0 : i = 0
            · subst h0
              rw [if_pos (by rfl), if_pos rfl]
              by_cases ht : tm x.times ((0 : Nat) : Int) = 0
              · rw [if_pos ht, if_neg (by omega)]
                have : tm x.times 0 = 0 := ht
                rw [decide_eq_true this]; rfl
              · rw [if_neg ht]
                have : ¬ tm x.times 0 = 0 := ht
                rw [decide_eq_false this]; rfl
            · rw [if_neg (by omega), if_pos (by omega), if_neg h0]
              by_cases ha : tm x.times (i : Int) < -1
              · rw [if_pos ha, decide_eq_false (by omega)]; rfl
              · rw [if_neg ha]
                by_cases hb : x.now - 1 < tm x.times (i : Int)
                · rw [if_pos hb, decide_eq_false (by omega)]; rfl
                · rw [if_neg hb, decide_eq_true (by omega)]; rfl
          refine loopO_all x.times.length (fun i => (i : Int)) (timeP x) ?_ ?_ ?_
          · intro i hi hp
            simp only [stp i hi, hp, if_true]
          · intro i hi hp
            simp only [stp i hi, hp]; rfl
          · unfold m_impl_isState_L1
            rw [if_neg (by omega)]
        rw [show (0 : Int) = ((0 : Nat) : Int) from rfl, key]
        by_cases hT : ∀ i, i < x.times.length → timeP x i = true
        · rw [if_pos hT, decide_eq_true hT, Bool.true_and]
          simp only
          have key2 : loopO (m_impl_isState_L2 x.values ((x.values.length : Nat) : Int) s.nodes s.ties s.horizon x.now x.times) ((0 : Nat) : Int) = some (if ∀ i, i < nProps → watchP s x i = true then .inl () else .inr false) := by
            have stp : ∀ i, i < nProps → m_impl_isState_L2 x.values ((x.values.length : Nat) : Int) s.nodes s.ties s.horizon x.now x.times ((i : Nat) : Int) = (if watchP s x i = true then some (.next ((i + 1 : Nat) : Int)) else some (.done (.inr false))) := by
              intro i hi
              have hn3 : nProps = 3 := rfl
              unfold m_impl_isState_L2
              rw [if_pos (by omega), getI_tmN (by omega), wr (x := (i : Int) + 1) (by omega) (by omega)]
              simp only [obnd]
              rw [watcher_impl _ _ hs.nodes]
              have e : (fun n : GNode => decide (0 < (i : Int) + 1) && decide (n.watch = (i : Int) + 1)) = (fun n : GNode => decide (n.watch = (i : Int) + 1)) := by
                funext n; rw [decide_eq_true (by omega : 0 < (i : Int) + 1), Bool.true_and]
              rw [e]
              exact watch_step s x i hl (some (.next ((i : Int) + 1))) (some (.done (.inr false)))
            refine loopO_all nProps (fun i => (i : Int)) (watchP s x) ?_ ?_ ?_
            · intro i hi hp
              simp only [stp i hi, hp, if_true]
            · intro i hi hp
              simp only [stp i hi, hp]; rfl
            · have hn3 : nProps = 3 := rfl
              unfold m_impl_isState_L2
              rw [if_neg (by omega)]
          rw [key2]
          by_cases hW : ∀ i, i < nProps → watchP s x i = true
          · rw [if_pos hW, decide_eq_true hW]
          · rw [if_neg hW, decide_eq_false hW]
        · rw [if_neg hT, decide_eq_false hT]; rfl
    · rw [if_neg (by omega), decide_eq_false hl]; rfl
  · rw [decide_eq_false hn]
    split
    · rfl
    · rw [if_pos (by omega)]; rfl

theorem StateOk_impl (s : GShow) (x : GState) (hs : SmallS s) (h1 : x.times.length ≤ 1048576) (h2 : x.values.length ≤ 1048576) : m_impl_StateOk s x = some (stateOk s x) := by
  unfold m_impl_StateOk stateOk
  rw [ShowOk_impl s hs]
  simp only [obnd]
  cases hA : showOk s
  · rfl
  · rw [if_pos rfl, isState_eq s x hs (showOk_right hA) h1 h2]
    simp only [Bool.true_and]

theorem StateOk_spec (s : GShow) (x : GState) (hs : SmallS s) (h1 : x.times.length ≤ 1048576) (h2 : x.values.length ≤ 1048576) : m_spec_StateOk s x = some (stateOk s x) := by
  unfold m_spec_StateOk stateOk
  rw [ShowOk_spec s hs]
  simp only [obnd]
  cases hA : showOk s
  · rfl
  · have hR := showOk_right hA
    have hh := hR.hor
    have hn1 := hR.node1
    rw [if_pos rfl, l01In_eq, wr (x := s.horizon + 1) (by omega) (by omega)]
    simp only
    by_cases hn : 0 ≤ x.now ∧ x.now ≤ s.horizon + 1
    · rw [if_pos (decide_eq_true hn), decide_eq_true hn, Bool.true_and]
      by_cases hl : x.times.length = s.nodes.length
      · rw [if_pos (by omega), decide_eq_true hl, Bool.true_and, show (0 : Int) = ((0 : Nat) : Int) from rfl, getI_tmN (by omega)]
        simp only [Bool.true_and]
        by_cases ht0 : tm x.times 0 = 0
        · rw [if_pos (by exact ht0), ValuesOk_spec _ (by unfold Cnt; omega)]
          simp only
          cases hv : valuesOk x.values
          · rfl
          · rw [if_pos rfl, Bool.true_and]
            have hv3 : x.values.length = 3 := by
              unfold valuesOk at hv
              simp only [Bool.and_eq_true, decide_eq_true_eq] at hv
              exact hv.1
            have key : loopO (m_spec_StateOk_L1 x.times ((x.times.length : Nat) : Int) s.nodes s.ties s.horizon x.now x.values) ((0 : Nat) : Int) = some (if ∀ i, i < x.times.length → timeP x i = true then .inl () else .inr false) := by
              have stp : ∀ i, i < x.times.length → m_spec_StateOk_L1 x.times ((x.times.length : Nat) : Int) s.nodes s.ties s.horizon x.now x.values ((i : Nat) : Int) = some (if timeP x i = true then .next ((i + 1 : Nat) : Int) else .done (.inr false)) := by
                intro i hi
                unfold m_spec_StateOk_L1
                rw [if_pos (by omega), getI_tmN hi, wr (x := (i : Int) + 1) (by omega) (by omega), wr (x := x.now - 1) (by omega) (by omega)]
                simp only [obnd, l01In_eq]
                unfold timeP
                by_cases h0 : i = 0
                · subst h0
                  rw [if_neg (by omega), if_pos rfl, decide_eq_true ht0]; rfl
                · rw [if_pos (by omega), if_neg h0]
                  split <;> rfl
              refine loopO_all x.times.length (fun i => (i : Int)) (timeP x) ?_ ?_ ?_
              · intro i hi hp
                simp only [stp i hi, hp, if_true]
              · intro i hi hp
                simp only [stp i hi, hp]; rfl
              · unfold m_spec_StateOk_L1
                rw [if_neg (by omega)]
            rw [key]
            by_cases hT : ∀ i, i < x.times.length → timeP x i = true
            · rw [if_pos hT, decide_eq_true hT, Bool.true_and]
              simp only
              have key2 : loopO (m_spec_StateOk_L2 s.nodes s.ties s.horizon x.now x.times x.values) (((0 : Nat) : Int) + 1) = some (if ∀ i, i < nProps → watchP s x i = true then .inl () else .inr false) := by
                have stp : ∀ i, i < nProps → m_spec_StateOk_L2 s.nodes s.ties s.horizon x.now x.times x.values (((i : Nat) : Int) + 1) = (if watchP s x i = true then some (.next (((i + 1 : Nat) : Int) + 1)) else some (.done (.inr false))) := by
                  intro i hi
                  have hn3 : nProps = 3 := rfl
                  unfold m_spec_StateOk_L2
                  rw [if_pos (by omega), wr (x := (i : Int) + 1 - 1) (by omega) (by omega), show (i : Int) + 1 - 1 = ((i : Nat) : Int) by omega, getI_tmN (by omega), wr (x := (i : Int) + 1 + 1) (by omega) (by omega)]
                  simp only [obnd]
                  rw [l08Watcher_eq _ _ hs.nodes]
                  exact watch_step s x i hl (some (.next ((i : Int) + 1 + 1))) (some (.done (.inr false)))
                refine loopO_all nProps (fun i => (i : Int) + 1) (watchP s x) ?_ ?_ ?_
                · intro i hi hp
                  simp only [stp i hi, hp, if_true]
                · intro i hi hp
                  simp only [stp i hi, hp]; rfl
                · have hn3 : nProps = 3 := rfl
                  unfold m_spec_StateOk_L2
                  rw [if_neg (by omega)]
              rw [show (1 : Int) = ((0 : Nat) : Int) + 1 from rfl, key2]
              by_cases hW : ∀ i, i < nProps → watchP s x i = true
              · rw [if_pos hW, decide_eq_true hW]
              · rw [if_neg hW, decide_eq_false hW]
            · rw [if_neg hT, decide_eq_false hT]; rfl
        · rw [if_neg (by exact ht0), decide_eq_false (p := ∀ i, i < x.times.length → timeP x i = true) (fun h => ht0 (by have := h 0 (by omega); unfold timeP at this; simpa using this))]
          simp
      · rw [if_neg (by omega), decide_eq_false hl]; rfl
    · rw [if_neg (by rw [decide_eq_false hn]; simp), decide_eq_false hn]; rfl

structure StateR (s : GShow) (x : GState) : Prop where
  right : Right s
  len : x.times.length = s.nodes.length
  all : ∀ i : Int, 0 ≤ i → i < s.nodes.length → -1 ≤ tm x.times i ∧ tm x.times i ≤ 11
theorem stateOk_right {s : GShow} {x : GState} (h : stateOk s x = true) : StateR s x := by
  unfold stateOk at h
  simp only [Bool.and_eq_true, decide_eq_true_eq] at h
  obtain ⟨⟨⟨⟨⟨h1, h2⟩, h3⟩, _⟩, h4⟩, _⟩ := h
  have hR := showOk_right h1
  refine ⟨hR, h3, fun i h0 hi => ?_⟩
  have hh := hR.hor
  have := h4 i.toNat (by omega)
  unfold timeP at this
  split at this
  · rename_i he
    rw [decide_eq_true_eq] at this
    rw [show i = 0 by omega, this]; omega
  · rw [decide_eq_true_eq, show ((i.toNat : Nat) : Int) = i by omega] at this
    omega

/-! ### TakesOf -/
def tieAt (s : GShow) (k : Int) : GTie := (s.ties[k.toNat]?).getD ⟨0, 0, 0, 0, false⟩
theorem tieAt_lt {s : GShow} {i : Nat} (h : i < s.ties.length) : tieAt s (i : Int) = s.ties[i] := by
  unfold tieAt
  rw [Int.toNat_natCast, List.getElem?_eq_getElem h]; rfl

/-! ### States in the laws -/
structure FitX (x : GState) : Prop where
  times : x.times.length ≤ 1048576
  values : x.values.length ≤ 1048576
theorem toState_eq (x : GState) (h : FitX x) : m_laws_toState x = some x := by
  unfold m_laws_toState
  rw [toIntS_eq _ h.times, toIntS_eq _ h.values]; rfl
theorem szState_ok {x : GState} {l : Int} (hl : l ≤ 1048576) (h0 : 0 ≤ l) (hb : BdX x) : ∃ r, m_laws_szState x l = some r ∧ (r < 0 ∨ (0 ≤ r ∧ r ≤ l ∧ FitX x)) := by
  unfold m_laws_szState
  rw [szIntS_ok hl h0 hb.times]
  simp only [obnd]
  by_cases h : l - (x.times.length : Int) < 0
  · rw [if_pos h]; exact ⟨_, rfl, .inl (by omega)⟩
  · rw [if_neg h, if_neg h, szIntS_ok (by omega) (by omega) hb.values]
    simp only
    by_cases h' : l - (x.times.length : Int) - (x.values.length : Int) < 0
    · rw [if_pos h']; exact ⟨_, rfl, .inl (by omega)⟩
    · rw [if_neg h', if_neg h']
      exact ⟨_, rfl, .inr ⟨by omega, by omega, by omega, by omega⟩⟩
theorem eqState_self (x : GState) (h : FitX x) : m_laws_eqState x x = some true := by
  unfold m_laws_eqState
  rw [if_pos rfl, eqIntS_eq _ _ (by have := h.times; unfold Cnt; omega), eqIntS_eq _ _ (by have := h.values; unfold Cnt; omega)]
  simp [obnd]
/-! ### Takes marked and held -/
end Go.Proofs.YteijmljgodikiaaGreatZ

/- NewConsole. Own work. -/
set_option linter.unusedVariables false
set_option linter.unusedSimpArgs false
namespace Go.Proofs.YteijmljgodikiaaGreatZ
open Go

end Go.Proofs.YteijmljgodikiaaGreatZ

/- Shows marked and held, copied; SkewShow. Own work. -/
set_option linter.unusedVariables false
set_option linter.unusedSimpArgs false
namespace Go.Proofs.YteijmljgodikiaaGreatZ
open Go

/-! ### What marking a show leaves, and that holding it tells the same -/
/-! ### Copied -/
/-! ### SkewShow -/
end Go.Proofs.YteijmljgodikiaaGreatZ

/- TightenShow. Own work. -/
set_option linter.unusedVariables false
set_option linter.unusedSimpArgs false
namespace Go.Proofs.YteijmljgodikiaaGreatZ
open Go

end Go.Proofs.YteijmljgodikiaaGreatZ

/- Desks: SameDesks. Own work. -/
set_option linter.unusedVariables false
set_option linter.unusedSimpArgs false
namespace Go.Proofs.YteijmljgodikiaaGreatZ
open Go

/-! ### Lists that are the same -/
section
variable {α : Type} [DecidableEq α] {σ ρ : Type} {body : σ → Option (Step σ ρ)}
end
theorem stateEq (a b : GState) : (a = b) ↔ (a.now = b.now ∧ a.times = b.times ∧ a.values = b.values) := by cases a; cases b; simp
/-! ### What fits -/
structure FitE (e : GEntry) : Prop where
  ties : e.ties.length ≤ 1048576
  nodes : e.nodes.length ≤ 1048576
  values : e.values.length ≤ 1048576
structure FitD (d : GDesk) : Prop where
  sh : FitS d.show_
  st : FitX d.state
  log : d.log.length ≤ 1048576
  entry : ∀ e, e ∈ d.log → FitE e
structure BdE (e : GEntry) : Prop where
  ties : e.ties.length ≤ maxLen
  nodes : e.nodes.length ≤ maxLen
  values : e.values.length ≤ maxLen
structure BdD (d : GDesk) : Prop where
  sh : BdS d.show_
  st : BdX d.state
  log : d.log.length ≤ maxLen
  entry : ∀ e, e ∈ d.log → BdE e

/-! ### The program's and the reference's tests -/
theorem SameStates_impl (a b : GState) (ha : FitX a) : m_impl_SameStates a b = some (decide (a = b)) := by
  have h1 : Cnt a.times.length := by have := ha.times; unfold Cnt; omega
  have h2 : Cnt a.values.length := by have := ha.values; unfold Cnt; omega
  unfold m_impl_SameStates
  rw [Equal_int _ _ h1, Equal_int _ _ h2]
  simp only [obnd, stateEq]
  by_cases h : a.now = b.now <;> by_cases h' : a.times = b.times <;> by_cases h'' : a.values = b.values <;> simp [h, h', h'']
theorem SameStates_spec (a b : GState) (ha : FitX a) : m_spec_SameStates a b = some (decide (a = b)) := by
  have h1 : Cnt a.times.length := by have := ha.times; unfold Cnt; omega
  have h2 : Cnt a.values.length := by have := ha.values; unfold Cnt; omega
  unfold m_spec_SameStates
  rw [l08Same_eq _ _ h1, l08Same_eq _ _ h2]
  simp only [obnd, stateEq]
  by_cases h : a.now = b.now <;> by_cases h' : a.times = b.times <;> by_cases h'' : a.values = b.values <;> simp [h, h', h'']
/-! ### Copied, weighed, compared -/
theorem toEntryS_eq (a : List GEntry) (ha : a.length ≤ 1048576) (hn : ∀ n, n ∈ a → FitE n) : m_laws_toEntryS a = some a := by
  unfold m_laws_toEntryS
  rw [chk_pos (by omega), chk_pos (by omega)]
  generalize hz : (GEntry.mk 0 ([]) ([]) ([])) = z
  have key : loopO (m_laws_toEntryS_L1 a) (((0 : Nat) : Int), half z a 0) = some a := by
    refine loopO_to a.length (fun i => ((i : Int), half z a i)) ?_ ?_
    · intro i hi
      have h2 : getI (half z a i) (i : Int) = some z := by
        unfold getI; rw [if_pos (by omega), Int.toNat_natCast, half_get z a i hi]
      have hf := hn _ (List.getElem_mem hi)
      have h3 : m_laws_toEntry a[i] = some a[i] := by
        unfold m_laws_toEntry
        rw [toIntS_eq _ hf.ties, toIntS_eq _ hf.nodes, toIntS_eq _ hf.values]; rfl
      unfold m_laws_toEntryS_L1
      simp only
      rw [if_pos (by omega), getI_lt hi, h2, wr (x := (i : Int) + 1) (by omega) (by omega)]
      simp only [obnd, Int.toNat_natCast, h3]
      rw [half_step z a i hi]; rfl
    · unfold m_laws_toEntryS_L1
      simp only
      rw [if_neg (by omega), half_all]
  rw [half_zero] at key
  rw [show (0 : Int) = ((0 : Nat) : Int) from rfl] at *
  rw [key]; rfl
theorem toDesk_eq (d : GDesk) (h : FitD d) : m_laws_toDesk d = some d := by
  unfold m_laws_toDesk
  rw [toShow_eq _ h.sh, toState_eq _ h.st, toEntryS_eq _ h.log h.entry]; rfl
theorem eqEntryS_self (a : List GEntry) (ha : a.length ≤ 1048576) (hn : ∀ n, n ∈ a → FitE n) : m_laws_eqEntryS a a = some true := by
  unfold m_laws_eqEntryS
  rw [if_pos rfl]
  have key : loopO (m_laws_eqEntryS_L1 a a) ((0 : Nat) : Int) = some (.inl ()) := by
    refine loopO_to a.length (fun i => (i : Int)) ?_ ?_
    · intro i hi
      have hf := hn _ (List.getElem_mem hi)
      have h3 : m_laws_eqEntry a[i] a[i] = some true := by
        unfold m_laws_eqEntry
        rw [if_pos rfl, eqIntS_eq _ _ (by have := hf.ties; unfold Cnt; omega), eqIntS_eq _ _ (by have := hf.nodes; unfold Cnt; omega), eqIntS_eq _ _ (by have := hf.values; unfold Cnt; omega)]
        simp [obnd]
      unfold m_laws_eqEntryS_L1
      rw [if_pos (by omega), getI_lt hi, wr (x := (i : Int) + 1) (by omega) (by omega)]
      simp only [obnd, h3, if_true]; rfl
    · unfold m_laws_eqEntryS_L1
      rw [if_neg (by omega)]
  rw [show (0 : Int) = ((0 : Nat) : Int) from rfl, key]; rfl
theorem eqDesk_self (d : GDesk) (h : FitD d) : m_laws_eqDesk d d = some true := by
  unfold m_laws_eqDesk
  rw [eqShow_self _ h.sh, eqState_self _ h.st, eqEntryS_self _ h.log h.entry]
  simp [obnd]
theorem szShow_gen {s : GShow} {l : Int} (hl : l ≤ 1048576) (h0 : 0 ≤ l) (hb : BdS s) : ∃ r, m_laws_szShow s l = some r ∧ (r < 0 ∨ (FitS s ∧ 0 ≤ r ∧ r ≤ l)) := by
  unfold m_laws_szShow
  obtain ⟨r, hr, hp⟩ := szNodeS_ok hl h0 hb.nodes hb.node
  rw [hr]
  simp only [obnd]
  rcases hp with hp | ⟨h1, h2, h3, h4⟩
  · rw [if_pos hp]; exact ⟨_, rfl, .inl (by omega)⟩
  · rw [if_neg (by omega), szTieS_ok (by omega) h1 hb.ties]
    simp only
    by_cases h : r - (s.ties.length : Int) < 0
    · rw [if_pos h]; exact ⟨_, rfl, .inl (by omega)⟩
    · rw [if_neg h, if_neg h]
      exact ⟨_, rfl, .inr ⟨⟨by omega, by omega, fun n hn => ⟨by have := (h4 n hn).1; omega, by have := (h4 n hn).2; omega⟩⟩, by omega, by omega⟩⟩
theorem szEntry_ok {e : GEntry} {l : Int} (hl : l ≤ 1048576) (h0 : 0 ≤ l) (hb : BdE e) : ∃ r, m_laws_szEntry e l = some r ∧ (r < 0 ∨ (0 ≤ r ∧ r ≤ l ∧ FitE e)) := by
  unfold m_laws_szEntry
  rw [szIntS_ok hl h0 hb.ties]
  simp only [obnd]
  by_cases h : l - (e.ties.length : Int) < 0
  · rw [if_pos h]; exact ⟨_, rfl, .inl (by omega)⟩
  · rw [if_neg h, if_neg h, szIntS_ok (by omega) (by omega) hb.nodes]
    simp only
    by_cases h' : l - (e.ties.length : Int) - (e.nodes.length : Int) < 0
    · rw [if_pos h']; exact ⟨_, rfl, .inl (by omega)⟩
    · rw [if_neg h', if_neg h', szIntS_ok (by omega) (by omega) hb.values]
      simp only
      by_cases h'' : l - (e.ties.length : Int) - (e.nodes.length : Int) - (e.values.length : Int) < 0
      · rw [if_pos h'']; exact ⟨_, rfl, .inl (by omega)⟩
      · rw [if_neg h'', if_neg h'']
        exact ⟨_, rfl, .inr ⟨by omega, by omega, by omega, by omega, by omega⟩⟩
theorem szEntryS_ok {a : List GEntry} {l : Int} (hl : l ≤ 1048576) (h0 : 0 ≤ l) (ha : a.length ≤ maxLen) (hb : ∀ n, n ∈ a → BdE n) : ∃ r, m_laws_szEntryS a l = some r ∧ (r < 0 ∨ (0 ≤ r ∧ r ≤ l ∧ a.length ≤ 1048576 ∧ ∀ n, n ∈ a → FitE n)) := by
  unfold maxLen at ha
  unfold m_laws_szEntryS
  rw [wr (by omega) (by omega)]
  by_cases h : l - (a.length : Int) < 0
  · rw [if_pos h]; exact ⟨_, rfl, .inl (by omega)⟩
  · rw [if_neg h]
    have inv : ∃ q, loopO (m_laws_szEntryS_L1 a) (l - (a.length : Int), 0) = some q ∧ ((∃ x, q = .inr x ∧ x < 0) ∨ ∃ x, q = .inl x ∧ 0 ≤ x ∧ x ≤ l ∧ ∀ n, n ∈ a → FitE n) := by
      refine loopO_inv a.length (fun i s => s.2 = (i : Int) ∧ 0 ≤ s.1 ∧ s.1 ≤ l ∧ ∀ j (hj : j < a.length), j < i → FitE a[j]) _ ⟨rfl, by simp only; omega, by simp only; omega, fun j _ hj => by omega⟩ ?_ ?_
      · rintro i ⟨left, i'⟩ hi ⟨h1, h2, h3, h4⟩
        simp only at h1 h2 h3
        subst h1
        unfold m_laws_szEntryS_L1
        simp only
        rw [if_pos (by omega), getI_lt hi, wr (x := (i : Int) + 1) (by omega) (by omega)]
        simp only [obnd]
        obtain ⟨r, hr, hp⟩ := szEntry_ok (by omega) h2 (hb _ (List.getElem_mem hi))
        rw [hr]
        simp only
        rcases hp with hp | ⟨p1, p2, p3⟩
        · rw [if_pos hp]; exact .inr ⟨_, rfl, .inl ⟨_, rfl, by omega⟩⟩
        · rw [if_neg (by omega)]
          refine .inl ⟨_, rfl, rfl, p1, by simp only; omega, fun j hj hji => ?_⟩
          by_cases he : j = i
          · subst he; exact p3
          · exact h4 j hj (by omega)
      · rintro ⟨left, i'⟩ ⟨h1, h2, h3, h4⟩
        simp only at h1 h2 h3
        subst h1
        unfold m_laws_szEntryS_L1
        simp only
        rw [if_neg (by omega)]
        refine ⟨_, rfl, .inr ⟨_, rfl, h2, h3, fun n hn => ?_⟩⟩
        obtain ⟨j, hj, rfl⟩ := List.getElem_of_mem hn
        exact h4 j hj hj
    obtain ⟨r, hr, hp⟩ := inv
    rw [hr]
    simp only [obnd]
    rcases hp with ⟨x, rfl, hx⟩ | ⟨x, rfl, h1, h2, h3⟩
    · exact ⟨_, rfl, .inl hx⟩
    · exact ⟨_, rfl, .inr ⟨h1, h2, by omega, h3⟩⟩
theorem szDesk_ok {d : GDesk} {l : Int} (hl : l ≤ 1048576) (h0 : 0 ≤ l) (hb : BdD d) : ∃ r, m_laws_szDesk d l = some r ∧ (r < 0 ∨ (FitD d ∧ 0 ≤ r ∧ r ≤ l)) := by
  unfold m_laws_szDesk
  obtain ⟨r1, hr1, hp1⟩ := szShow_gen hl h0 hb.sh
  rw [hr1]
  simp only [obnd]
  rcases hp1 with hp1 | ⟨f1, a1, b1⟩
  · rw [if_pos hp1]; exact ⟨_, rfl, .inl (by omega)⟩
  · rw [if_neg (by omega)]
    obtain ⟨r2, hr2, hp2⟩ := szState_ok (by omega) a1 hb.st
    rw [hr2]
    simp only
    rcases hp2 with hp2 | ⟨a2, b2, f2⟩
    · rw [if_pos hp2]; exact ⟨_, rfl, .inl (by omega)⟩
    · rw [if_neg (by omega)]
      obtain ⟨r3, hr3, hp3⟩ := szEntryS_ok (by omega) a2 hb.log hb.entry
      rw [hr3]
      simp only
      rcases hp3 with hp3 | ⟨a3, b3, f3, f4⟩
      · rw [if_pos hp3]; exact ⟨_, rfl, .inl (by omega)⟩
      · rw [if_neg (by omega)]
        exact ⟨_, rfl, .inr ⟨⟨f1, f2, f3, f4⟩, a3, by omega⟩⟩

end Go.Proofs.YteijmljgodikiaaGreatZ

/- NewDesk. Own work. -/
set_option linter.unusedVariables false
set_option linter.unusedSimpArgs false
namespace Go.Proofs.YteijmljgodikiaaGreatZ
open Go

theorem Repeat1 : m_slices_Repeat_int [-1] 1 = some [-1] := by
  unfold m_slices_Repeat_int
  rw [if_neg (by decide), show m_bits_Mul (IntKind.wrap .u64 ((([-1] : List Int).length : Nat) : Int)) (IntKind.wrap .u64 1) = some (0, 1) from by kernel_rfl]
  simp only [obnd]
  rw [if_neg (by decide), if_neg (by decide), chk_pos (by decide), chk_pos (by decide), chk_pos (by decide)]
  have key : loopO m_slices_Repeat_int_L1 (1, [-1]) = some [-1] := by
    rw [loopO_eq, show m_slices_Repeat_int_L1 (1, [-1]) = some (.done [-1]) from by kernel_rfl]
  have hst : ∀ st : Int × List Int, st = (1, [-1]) → obnd (loopO m_slices_Repeat_int_L1 st) (fun q => some q) = some [-1] := by
    rintro _ rfl
    rw [key]; rfl
  exact hst _ (by kernel_rfl)
theorem Repeat2 : m_slices_Repeat_int [-1] 2 = some [-1, -1] := by
  unfold m_slices_Repeat_int
  rw [if_neg (by decide), show m_bits_Mul (IntKind.wrap .u64 ((([-1] : List Int).length : Nat) : Int)) (IntKind.wrap .u64 2) = some (0, 2) from by kernel_rfl]
  simp only [obnd]
  rw [if_neg (by decide), if_neg (by decide), chk_pos (by decide), chk_pos (by decide), chk_pos (by decide)]
  have key : loopO m_slices_Repeat_int_L1 (1, [-1, 0]) = some [-1, -1] := by
    rw [loopO_eq, show m_slices_Repeat_int_L1 (1, [-1, 0]) = some (.next (2, [-1, -1])) from by kernel_rfl]
    simp only
    rw [loopO_eq, show m_slices_Repeat_int_L1 (2, [-1, -1]) = some (.done [-1, -1]) from by kernel_rfl]
  have hst : ∀ st : Int × List Int, st = (1, [-1, 0]) → obnd (loopO m_slices_Repeat_int_L1 st) (fun q => some q) = some [-1, -1] := by
    rintro _ rfl
    rw [key]; rfl
  exact hst _ (by kernel_rfl)
theorem Repeat3 : m_slices_Repeat_int [-1] 3 = some [-1, -1, -1] := by
  unfold m_slices_Repeat_int
  rw [if_neg (by decide), show m_bits_Mul (IntKind.wrap .u64 ((([-1] : List Int).length : Nat) : Int)) (IntKind.wrap .u64 3) = some (0, 3) from by kernel_rfl]
  simp only [obnd]
  rw [if_neg (by decide), if_neg (by decide), chk_pos (by decide), chk_pos (by decide), chk_pos (by decide)]
  have key : loopO m_slices_Repeat_int_L1 (1, [-1, 0, 0]) = some [-1, -1, -1] := by
    rw [loopO_eq, show m_slices_Repeat_int_L1 (1, [-1, 0, 0]) = some (.next (2, [-1, -1, 0])) from by kernel_rfl]
    simp only
    rw [loopO_eq, show m_slices_Repeat_int_L1 (2, [-1, -1, 0]) = some (.next (3, [-1, -1, -1])) from by kernel_rfl]
    simp only
    rw [loopO_eq, show m_slices_Repeat_int_L1 (3, [-1, -1, -1]) = some (.done [-1, -1, -1]) from by kernel_rfl]
  have hst : ∀ st : Int × List Int, st = (1, [-1, 0, 0]) → obnd (loopO m_slices_Repeat_int_L1 st) (fun q => some q) = some [-1, -1, -1] := by
    rintro _ rfl
    rw [key]; rfl
  exact hst _ (by kernel_rfl)
theorem Repeat4 : m_slices_Repeat_int [-1] 4 = some [-1, -1, -1, -1] := by
  unfold m_slices_Repeat_int
  rw [if_neg (by decide), show m_bits_Mul (IntKind.wrap .u64 ((([-1] : List Int).length : Nat) : Int)) (IntKind.wrap .u64 4) = some (0, 4) from by kernel_rfl]
  simp only [obnd]
  rw [if_neg (by decide), if_neg (by decide), chk_pos (by decide), chk_pos (by decide), chk_pos (by decide)]
  have key : loopO m_slices_Repeat_int_L1 (1, [-1, 0, 0, 0]) = some [-1, -1, -1, -1] := by
    rw [loopO_eq, show m_slices_Repeat_int_L1 (1, [-1, 0, 0, 0]) = some (.next (2, [-1, -1, 0, 0])) from by kernel_rfl]
    simp only
    rw [loopO_eq, show m_slices_Repeat_int_L1 (2, [-1, -1, 0, 0]) = some (.next (4, [-1, -1, -1, -1])) from by kernel_rfl]
    simp only
    rw [loopO_eq, show m_slices_Repeat_int_L1 (4, [-1, -1, -1, -1]) = some (.done [-1, -1, -1, -1]) from by kernel_rfl]
  have hst : ∀ st : Int × List Int, st = (1, [-1, 0, 0, 0]) → obnd (loopO m_slices_Repeat_int_L1 st) (fun q => some q) = some [-1, -1, -1, -1] := by
    rintro _ rfl
    rw [key]; rfl
  exact hst _ (by kernel_rfl)
theorem Repeat5 : m_slices_Repeat_int [-1] 5 = some [-1, -1, -1, -1, -1] := by
  unfold m_slices_Repeat_int
  rw [if_neg (by decide), show m_bits_Mul (IntKind.wrap .u64 ((([-1] : List Int).length : Nat) : Int)) (IntKind.wrap .u64 5) = some (0, 5) from by kernel_rfl]
  simp only [obnd]
  rw [if_neg (by decide), if_neg (by decide), chk_pos (by decide), chk_pos (by decide), chk_pos (by decide)]
  have key : loopO m_slices_Repeat_int_L1 (1, [-1, 0, 0, 0, 0]) = some [-1, -1, -1, -1, -1] := by
    rw [loopO_eq, show m_slices_Repeat_int_L1 (1, [-1, 0, 0, 0, 0]) = some (.next (2, [-1, -1, 0, 0, 0])) from by kernel_rfl]
    simp only
    rw [loopO_eq, show m_slices_Repeat_int_L1 (2, [-1, -1, 0, 0, 0]) = some (.next (4, [-1, -1, -1, -1, 0])) from by kernel_rfl]
    simp only
    rw [loopO_eq, show m_slices_Repeat_int_L1 (4, [-1, -1, -1, -1, 0]) = some (.next (5, [-1, -1, -1, -1, -1])) from by kernel_rfl]
    simp only
    rw [loopO_eq, show m_slices_Repeat_int_L1 (5, [-1, -1, -1, -1, -1]) = some (.done [-1, -1, -1, -1, -1]) from by kernel_rfl]
  have hst : ∀ st : Int × List Int, st = (1, [-1, 0, 0, 0, 0]) → obnd (loopO m_slices_Repeat_int_L1 st) (fun q => some q) = some [-1, -1, -1, -1, -1] := by
    rintro _ rfl
    rw [key]; rfl
  exact hst _ (by kernel_rfl)
theorem Repeat6 : m_slices_Repeat_int [-1] 6 = some [-1, -1, -1, -1, -1, -1] := by
  unfold m_slices_Repeat_int
  rw [if_neg (by decide), show m_bits_Mul (IntKind.wrap .u64 ((([-1] : List Int).length : Nat) : Int)) (IntKind.wrap .u64 6) = some (0, 6) from by kernel_rfl]
  simp only [obnd]
  rw [if_neg (by decide), if_neg (by decide), chk_pos (by decide), chk_pos (by decide), chk_pos (by decide)]
  have key : loopO m_slices_Repeat_int_L1 (1, [-1, 0, 0, 0, 0, 0]) = some [-1, -1, -1, -1, -1, -1] := by
    rw [loopO_eq, show m_slices_Repeat_int_L1 (1, [-1, 0, 0, 0, 0, 0]) = some (.next (2, [-1, -1, 0, 0, 0, 0])) from by kernel_rfl]
    simp only
    rw [loopO_eq, show m_slices_Repeat_int_L1 (2, [-1, -1, 0, 0, 0, 0]) = some (.next (4, [-1, -1, -1, -1, 0, 0])) from by kernel_rfl]
    simp only
    rw [loopO_eq, show m_slices_Repeat_int_L1 (4, [-1, -1, -1, -1, 0, 0]) = some (.next (6, [-1, -1, -1, -1, -1, -1])) from by kernel_rfl]
    simp only
    rw [loopO_eq, show m_slices_Repeat_int_L1 (6, [-1, -1, -1, -1, -1, -1]) = some (.done [-1, -1, -1, -1, -1, -1]) from by kernel_rfl]
  have hst : ∀ st : Int × List Int, st = (1, [-1, 0, 0, 0, 0, 0]) → obnd (loopO m_slices_Repeat_int_L1 st) (fun q => some q) = some [-1, -1, -1, -1, -1, -1] := by
    rintro _ rfl
    rw [key]; rfl
  exact hst _ (by kernel_rfl)
theorem Repeat7 : m_slices_Repeat_int [-1] 7 = some [-1, -1, -1, -1, -1, -1, -1] := by
  unfold m_slices_Repeat_int
  rw [if_neg (by decide), show m_bits_Mul (IntKind.wrap .u64 ((([-1] : List Int).length : Nat) : Int)) (IntKind.wrap .u64 7) = some (0, 7) from by kernel_rfl]
  simp only [obnd]
  rw [if_neg (by decide), if_neg (by decide), chk_pos (by decide), chk_pos (by decide), chk_pos (by decide)]
  have key : loopO m_slices_Repeat_int_L1 (1, [-1, 0, 0, 0, 0, 0, 0]) = some [-1, -1, -1, -1, -1, -1, -1] := by
    rw [loopO_eq, show m_slices_Repeat_int_L1 (1, [-1, 0, 0, 0, 0, 0, 0]) = some (.next (2, [-1, -1, 0, 0, 0, 0, 0])) from by kernel_rfl]
    simp only
    rw [loopO_eq, show m_slices_Repeat_int_L1 (2, [-1, -1, 0, 0, 0, 0, 0]) = some (.next (4, [-1, -1, -1, -1, 0, 0, 0])) from by kernel_rfl]
    simp only
    rw [loopO_eq, show m_slices_Repeat_int_L1 (4, [-1, -1, -1, -1, 0, 0, 0]) = some (.next (7, [-1, -1, -1, -1, -1, -1, -1])) from by kernel_rfl]
    simp only
    rw [loopO_eq, show m_slices_Repeat_int_L1 (7, [-1, -1, -1, -1, -1, -1, -1]) = some (.done [-1, -1, -1, -1, -1, -1, -1]) from by kernel_rfl]
  have hst : ∀ st : Int × List Int, st = (1, [-1, 0, 0, 0, 0, 0, 0]) → obnd (loopO m_slices_Repeat_int_L1 st) (fun q => some q) = some [-1, -1, -1, -1, -1, -1, -1] := by
    rintro _ rfl
    rw [key]; rfl
  exact hst _ (by kernel_rfl)
theorem Repeat_ok (n : Nat) (h1 : 1 ≤ n) (h7 : n ≤ 7) : m_slices_Repeat_int [-1] (n : Int) = some (List.replicate n (-1)) := by
  have : n = 1 ∨ n = 2 ∨ n = 3 ∨ n = 4 ∨ n = 5 ∨ n = 6 ∨ n = 7 := by omega
  rcases this with rfl | rfl | rfl | rfl | rfl | rfl | rfl
  · exact Repeat1
  · exact Repeat2
  · exact Repeat3
  · exact Repeat4
  · exact Repeat5
  · exact Repeat6
  · exact Repeat7

def stL : Nat → List Int
  | 0 => []
  | n + 1 => 0 :: List.replicate n (-1)
theorem stL_len : ∀ n, (stL n).length = n
  | 0 => rfl
  | n + 1 => by simp [stL]
theorem stL_succ (n : Nat) : stL (n + 2) = stL (n + 1) ++ [-1] := by
  simp only [stL, List.cons_append]
  rw [List.replicate_succ']
def startOf (s : GShow) : GState := ⟨0, stL s.nodes.length, List.replicate 3 0⟩
theorem StartState_impl (s : GShow) (hs : SmallS s) (hA : showOk s = true) : m_impl_StartState s = some (startOf s) := by
  have hR := showOk_right hA
  have h7 := hR.nodes
  have h1 := hR.node1
  unfold m_impl_StartState startOf
  rw [ShowOk_impl s hs, hA]
  simp only [obnd, if_true]
  rw [Repeat_ok s.nodes.length h1 h7]
  simp only
  generalize s.nodes.length = n at h1 h7
  cases n with
  | zero => omega
  | succ m => rfl
theorem StartState_spec (s : GShow) (hs : SmallS s) (hA : showOk s = true) : m_spec_StartState s = some (startOf s) := by
  have hR := showOk_right hA
  have h7 := hR.nodes
  unfold m_spec_StartState startOf
  rw [ShowOk_spec s hs, hA]
  simp only [obnd, if_true]
  have key : loopO (m_spec_StartState_L1 ((s.nodes.length : Nat) : Int) (List.replicate 3 0)) (((0 : Nat) : Int), stL 0) = some (stL s.nodes.length) := by
    refine loopO_to s.nodes.length (fun i => ((i : Int), stL i)) ?_ ?_
    · intro i hi
      have hl := stL_len i
      unfold m_spec_StartState_L1
      simp only
      rw [if_pos (by omega), wr (x := (i : Int) + 1) (by omega) (by omega)]
      cases i with
      | zero => rfl
      | succ i => rw [if_neg (by omega), chk_pos (by omega), chk_pos (by omega), stL_succ]; rfl
    · unfold m_spec_StartState_L1
      simp only
      rw [if_neg (by omega)]
  have key' : loopO (m_spec_StartState_L1 ((s.nodes.length : Nat) : Int) (List.replicate 3 0)) (0, []) = some (stL s.nodes.length) := key
  rw [key']
end Go.Proofs.YteijmljgodikiaaGreatZ

/- From trees that fit to desks. Own work. -/
set_option linter.unusedVariables false
set_option maxRecDepth 100000
namespace Go.Proofs.YteijmljgodikiaaGreatZ
open Go
def shEntry : List Sh := [.int .i64, .sl [.int .i64], .sl [.int .i64], .sl [.int .i64]]
theorem fit_entry (r : List AV) (h : FitL shEntry r) : ∃ x, r = GEntry.encS x ∧ BdE x := by
  obtain ⟨a1, r, rfl, h1, h⟩ := fitL_cons h
  obtain ⟨a2, r, rfl, h2, h⟩ := fitL_cons h
  obtain ⟨a3, r, rfl, h3, h⟩ := fitL_cons h
  obtain ⟨a4, r, rfl, h4, h⟩ := fitL_cons h
  obtain rfl := fitL_nil h
  obtain ⟨n1, rfl⟩ := fit_int h1
  obtain ⟨n2, rfl, l2⟩ := fit_ints h2
  obtain ⟨n3, rfl, l3⟩ := fit_ints h3
  obtain ⟨n4, rfl, l4⟩ := fit_ints h4
  exact ⟨⟨n1, n2, n3, n4⟩, rfl, ⟨l2, l3, l4⟩⟩
def shDesk : List Sh := [.sl shNode, .sl shTie, .int .i64, .int .i64, .sl [.int .i64], .sl [.int .i64], .bool, .sl shEntry]
def encD (d : GDesk) : List AV := [.sl (rowsOf GNode.encS d.show_.nodes), .sl (rowsOf GTie.enc d.show_.ties), .lit (.int .i64 d.show_.horizon), .lit (.int .i64 d.state.now), .sl (rowsOf eI d.state.times), .sl (rowsOf eI d.state.values), .lit (.bool d.lazy), .sl (rowsOf GEntry.encS d.log)]
theorem fit_desk (r : List AV) (h : FitL shDesk r) : ∃ x, r = encD x ∧ BdD x := by
  obtain ⟨a1, r, rfl, h1, h⟩ := fitL_cons h
  obtain ⟨a2, r, rfl, h2, h⟩ := fitL_cons h
  obtain ⟨a3, r, rfl, h3, h⟩ := fitL_cons h
  obtain ⟨a4, r, rfl, h4, h⟩ := fitL_cons h
  obtain ⟨a5, r, rfl, h5, h⟩ := fitL_cons h
  obtain ⟨a6, r, rfl, h6, h⟩ := fitL_cons h
  obtain ⟨a7, r, rfl, h7, h⟩ := fitL_cons h
  obtain ⟨a8, r, rfl, h8, h⟩ := fitL_cons h
  obtain rfl := fitL_nil h
  obtain ⟨n1, rfl, l1, p1⟩ := fit_sl fit_node h1
  obtain ⟨n2, rfl, l2, _⟩ := fit_sl fit_tie h2
  obtain ⟨n3, rfl⟩ := fit_int h3
  obtain ⟨n4, rfl⟩ := fit_int h4
  obtain ⟨n5, rfl, l5⟩ := fit_ints h5
  obtain ⟨n6, rfl, l6⟩ := fit_ints h6
  obtain ⟨n7, rfl⟩ := fit_bool h7
  obtain ⟨n8, rfl, l8, p8⟩ := fit_sl fit_entry h8
  exact ⟨⟨⟨n1, n2, n3⟩, ⟨n4, n5, n6⟩, n7, n8⟩, rfl, ⟨⟨l1, l2, p1⟩, ⟨l5, l6⟩, l8, p8⟩⟩
end Go.Proofs.YteijmljgodikiaaGreatZ

/- EndingFor. Own work. -/
set_option linter.unusedVariables false
set_option linter.unusedSimpArgs false
namespace Go.Proofs.YteijmljgodikiaaGreatZ
open Go

/-! ### DeleteFunc -/
theorem take_set_last {l : List Int} {n : Nat} {x : Int} (h : n < l.length) : (l.set n x).take (n + 1) = l.take n ++ [x] := by
  have e : (l.set n x).take n = l.take n := by
    apply List.ext_getElem?
    intro i
    rw [List.getElem?_take, List.getElem?_take]
    split
    · rw [List.getElem?_set_ne (by omega)]
    · rfl
  rw [take_succ_of (by simp; exact h), e]
  simp
theorem putL_take {xs ys : List Int} {i : Nat} (h : i + ys.length ≤ xs.length) : (putL xs i ys).take i = xs.take i := by
  unfold putL
  rw [if_pos h, List.append_assoc, List.take_append_of_le_length (by rw [List.length_take]; omega), List.take_take]
  simp
theorem DeleteFunc_int (xs : List Int) (p : Int → Option Bool) (q : Int → Bool) (hx : Cnt xs.length) (hp : ∀ x, x ∈ xs → p x = some (q x)) : m_slices_DeleteFunc_int xs p = some (xs.filter (fun x => !q x)) := by
  unfold m_slices_DeleteFunc_int
  rw [IndexFunc_int xs p q hx hp]
  simp only [obnd]
  by_cases h0 : 0 ≤ firstI xs q
  · obtain ⟨i0, hi0, he, hq0, hno⟩ := firstI_lt h0
    rw [he, if_neg (by omega), wr (x := (i0 : Int) + 1) (by omega) (by omega)]
    have htake : (xs.take i0).filter (fun x => !q x) = xs.take i0 := by
      rw [List.filter_eq_self]
      intro x hm
      obtain ⟨j, hj, rfl⟩ := List.getElem_of_mem hm
      rw [List.length_take] at hj
      rw [List.getElem_take, hno j (by omega)]; rfl
    have inv : ∃ r, loopO (m_slices_DeleteFunc_int_L1 p) ((i0 : Int), (i0 : Int) + 1, xs) = some r ∧ (r.1 = (((xs.filter (fun x => !q x)).length : Nat) : Int) ∧ r.2.length = xs.length ∧ r.2.take (xs.filter (fun x => !q x)).length = xs.filter (fun x => !q x)) := by
      refine loopO_inv (xs.length - (i0 + 1)) (fun k s => s.2.1 = ((i0 + 1 + k : Nat) : Int) ∧ s.1 = ((((xs.take (i0 + 1 + k)).filter (fun x => !q x)).length : Nat) : Int) ∧ s.2.2.length = xs.length ∧
        s.2.2.take ((xs.take (i0 + 1 + k)).filter (fun x => !q x)).length = (xs.take (i0 + 1 + k)).filter (fun x => !q x) ∧ (∀ j, i0 + 1 + k ≤ j → s.2.2[j]? = xs[j]?) ∧ ((xs.take (i0 + 1 + k)).filter (fun x => !q x)).length < i0 + 1 + k) _ ?_ ?_ ?_
      · have e1 : (xs.take (i0 + 1)).filter (fun x => !q x) = xs.take i0 := by
          rw [take_succ_of hi0, List.filter_append, htake]
          simp [hq0]
        have hl : (xs.take i0).length = i0 := by rw [List.length_take]; omega
        refine ⟨by simp only; omega, ?_, rfl, ?_, fun _ _ => rfl, ?_⟩
        · simp only [Nat.add_zero]; rw [e1, hl]
        · simp only [Nat.add_zero]; rw [e1, hl]
        · simp only [Nat.add_zero]; rw [e1, hl]; omega
      · rintro k ⟨v5, v6, v0⟩ hk ⟨h1, h2, h3, h4, h5, h6⟩
        simp only at h1 h2 h3 h4 h5 h6
        have hj : i0 + 1 + k < xs.length := by omega
        have hg : getI v0 v6 = some xs[i0 + 1 + k] := by
          unfold getI
          rw [h1, if_pos (by omega), Int.toNat_natCast, h5 _ (Nat.le_refl _), List.getElem?_eq_getElem hj]
        left
        unfold m_slices_DeleteFunc_int_L1
        simp only
        rw [if_pos (by omega), hg, wr (x := v6 + 1) (by omega) (by omega)]
        simp only [obnd, hp _ (List.getElem_mem hj)]
        cases hq : q xs[i0 + 1 + k]
        · have e2 : (xs.take (i0 + 1 + (k + 1))).filter (fun x => !q x) = (xs.take (i0 + 1 + k)).filter (fun x => !q x) ++ [xs[i0 + 1 + k]] := by
            rw [show i0 + 1 + (k + 1) = i0 + 1 + k + 1 by omega, take_succ_of hj, List.filter_append]
            simp [hq]
          have hv5 : getI v0 v5 = some v0[((xs.take (i0 + 1 + k)).filter (fun x => !q x)).length] := by rw [h2, getI_lt (by omega)]
          rw [if_neg (by simp), hv5, wr (x := v5 + 1) (by omega) (by omega)]
          refine ⟨_, rfl, by simp only; omega, ?_, ?_, ?_, ?_, ?_⟩
          · simp only; rw [e2, List.length_append, h2]; simp
          · simp only [List.length_set]; exact h3
          · simp only; rw [e2, List.length_append, h2, Int.toNat_natCast]
            simp only [List.length_cons, List.length_nil, Nat.zero_add]
            rw [take_set_last (by omega), h4]
          · intro j hj'
            simp only
            rw [h2, Int.toNat_natCast, List.getElem?_set_ne (by omega)]
            exact h5 j (by omega)
          · rw [e2, List.length_append]; simp; omega
        · have e2 : (xs.take (i0 + 1 + (k + 1))).filter (fun x => !q x) = (xs.take (i0 + 1 + k)).filter (fun x => !q x) := by
            rw [show i0 + 1 + (k + 1) = i0 + 1 + k + 1 by omega, take_succ_of hj, List.filter_append]
            simp [hq]
          rw [if_pos rfl]
          refine ⟨_, rfl, by simp only; omega, ?_, h3, ?_, fun j hj' => h5 j (by omega), ?_⟩
          · simp only; rw [e2]; exact h2
          · simp only; rw [e2]; exact h4
          · rw [e2]; omega
      · rintro ⟨v5, v6, v0⟩ ⟨h1, h2, h3, h4, h5, h6⟩
        simp only at h1 h2 h3 h4
        have hall : i0 + 1 + (xs.length - (i0 + 1)) = xs.length := by omega
        rw [hall] at h1 h2 h4
        rw [List.take_length] at h2 h4
        unfold m_slices_DeleteFunc_int_L1
        simp only
        rw [if_neg (by omega)]
        exact ⟨_, rfl, h2, h3, h4⟩
    obtain ⟨⟨v5, v0⟩, hr, h1, h2, h3⟩ := inv
    rw [hr]
    simp only at h1 h2 h3 ⊢
    have hle := List.length_filter_le (fun x => !q x) xs
    subst h1
    simp only [Int.toNat_natCast]
    rw [chk_pos (by omega), chk_pos (by omega), chk_pos (by omega), putL_take (by rw [List.length_replicate]; omega), h3]
  · have h1 : xs.any q = false := by rw [← firstI_any]; exact decide_eq_false h0
    have h2 : firstI xs q = -1 := by
      unfold firstI at h0 ⊢
      cases hf : xs.findIdx? q with
      | none => rfl
      | some j => rw [hf] at h0; simp at h0
    rw [if_pos h2]
    congr 1
    symm
    rw [List.filter_eq_self]
    intro x hm
    rw [List.any_eq_false] at h1
    have := h1 x hm
    cases hq : q x
    · rfl
    · exact absurd hq this

/-! ### Free and active ties -/
def actT (x : GState) (t : GTie) : Bool := t.free && decide (tm x.times t.from_ ≠ -1 ∧ tm x.times t.to = -1)
def actAt (s : GShow) (x : GState) (i : Nat) : Bool := (s.ties[i]?).any (actT x)
def actL (s : GShow) (x : GState) : List Int := places (actAt s x) s.ties.length

theorem active_eq (s : GShow) (x : GState) (hR : StateR s x) : m_impl_active s x = some (actL s x) := by
  have h14 := hR.right.ties
  have hln := hR.len
  unfold m_impl_active actL
  have key : loopO (m_impl_active_L1 s.ties ((s.ties.length : Nat) : Int) x.now x.times x.values) (((0 : Nat) : Int), places (actAt s x) 0) = some (places (actAt s x) s.ties.length) := by
    refine loopO_to s.ties.length (fun i => ((i : Int), places (actAt s x) i)) ?_ ?_
    · intro i hi
      have hT := hR.right.tie _ (List.getElem_mem hi)
      have hl2 := places_len (actAt s x) i
      have ef : actAt s x i = actT x s.ties[i] := by unfold actAt; rw [List.getElem?_eq_getElem hi]; rfl
      unfold m_impl_active_L1
      simp only
      rw [if_pos (by omega), getI_lt hi, wr (x := (i : Int) + 1) (by omega) (by omega)]
      simp only [obnd]
      rw [getI_tm hT.f0 (by have := hT.f1; omega), getI_tm hT.t0 (by have := hT.t1; omega)]
      simp only
      unfold actT at ef
      cases hf : s.ties[i].free
      · rw [if_neg (by simp), places_no (by rw [ef, hf]; rfl)]; rfl
      · rw [hf, Bool.true_and] at ef
        rw [if_pos rfl]
        by_cases ha : tm x.times s.ties[i].from_ = -1
        · rw [if_pos ha, places_no (by rw [ef]; exact decide_eq_false (fun h => h.1 ha))]; rfl
        · rw [if_neg ha]
          by_cases hb : tm x.times s.ties[i].to = -1
          · rw [if_pos hb, chk_pos (by omega), chk_pos (by omega), places_yes (by rw [ef]; exact decide_eq_true ⟨ha, hb⟩)]; rfl
          · rw [if_neg hb, places_no (by rw [ef]; exact decide_eq_false (fun h => hb h.2))]; rfl
    · unfold m_impl_active_L1
      simp only
      rw [if_neg (by omega)]
  rw [places_zero] at key
  rw [show (0 : Int) = ((0 : Nat) : Int) from rfl, key]; rfl
theorem l13Active_eq (s : GShow) (x : GState) (hR : StateR s x) : m_spec_l13Active s x = some (actL s x) := by
  have h14 := hR.right.ties
  have hln := hR.len
  unfold m_spec_l13Active actL
  have key : loopO (m_spec_l13Active_L1 s.ties ((s.ties.length : Nat) : Int) x.now x.times x.values) (((0 : Nat) : Int), places (actAt s x) 0) = some (places (actAt s x) s.ties.length) := by
    refine loopO_to s.ties.length (fun i => ((i : Int), places (actAt s x) i)) ?_ ?_
    · intro i hi
      have hT := hR.right.tie _ (List.getElem_mem hi)
      have hl2 := places_len (actAt s x) i
      have ef : actAt s x i = actT x s.ties[i] := by unfold actAt; rw [List.getElem?_eq_getElem hi]; rfl
      unfold m_spec_l13Active_L1
      simp only
      rw [if_pos (by omega), getI_lt hi, wr (x := (i : Int) + 1) (by omega) (by omega)]
      simp only [obnd]
      rw [getI_tm hT.f0 (by have := hT.f1; omega), getI_tm hT.t0 (by have := hT.t1; omega)]
      simp only
      unfold actT at ef
      cases hf : s.ties[i].free
      · rw [if_neg (by simp), places_no (by rw [ef, hf]; rfl)]; rfl
      · rw [hf, Bool.true_and] at ef
        rw [if_pos rfl]
        by_cases ha : tm x.times s.ties[i].from_ = -1
        · rw [if_pos ha, places_no (by rw [ef]; exact decide_eq_false (fun h => h.1 ha))]; rfl
        · rw [if_neg ha]
          by_cases hb : tm x.times s.ties[i].to = -1
          · rw [if_pos hb, chk_pos (by omega), chk_pos (by omega), places_yes (by rw [ef]; exact decide_eq_true ⟨ha, hb⟩)]; rfl
          · rw [if_neg hb, places_no (by rw [ef]; exact decide_eq_false (fun h => hb h.2))]; rfl
    · unfold m_spec_l13Active_L1
      simp only
      rw [if_neg (by omega)]
  rw [places_zero] at key
  rw [show (0 : Int) = ((0 : Nat) : Int) from rfl, key]; rfl
theorem places_mem {p : Nat → Bool} {n : Nat} {k : Int} : k ∈ places p n ↔ ∃ i, i < n ∧ p i = true ∧ k = (i : Int) := by
  unfold places
  rw [List.mem_map]
  constructor
  · rintro ⟨i, hi, rfl⟩
    rw [List.mem_filter] at hi
    exact ⟨i, by simpa using hi.1, hi.2, rfl⟩
  · rintro ⟨i, hi, hp, rfl⟩
    exact ⟨i, List.mem_filter.2 ⟨by simpa using hi, hp⟩, rfl⟩
/-! ### Choices -/
/-! ### EndingFor -/
theorem now_b {s : GShow} {x : GState} (h : stateOk s x = true) : 0 ≤ x.now ∧ x.now ≤ 11 := by
  have hR := stateOk_right h
  have hh := hR.right.hor
  unfold stateOk at h
  simp only [Bool.and_eq_true, decide_eq_true_eq] at h
  have := h.1.1.1.1.2
  omega

/-! ### Choices in the laws -/
end Go.Proofs.YteijmljgodikiaaGreatZ

/- From trees that fit to choices. Own work. -/
set_option linter.unusedVariables false
set_option maxRecDepth 100000
namespace Go.Proofs.YteijmljgodikiaaGreatZ
open Go
end Go.Proofs.YteijmljgodikiaaGreatZ

/- FnSkewed. Own work. -/
set_option linter.unusedVariables false
set_option linter.unusedSimpArgs false
set_option maxRecDepth 100000
namespace Go.Proofs.YteijmljgodikiaaGreatZ
open Go

/-! ### The cursor -/
/-! ### The show of a code -/
/-! ### The law -/
end Go.Proofs.YteijmljgodikiaaGreatZ
