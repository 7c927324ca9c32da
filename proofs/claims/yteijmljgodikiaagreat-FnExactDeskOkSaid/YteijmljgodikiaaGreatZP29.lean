/- ReplayLog and DeskOk: the laws. Own work. -/
import Derived.Test.YteijmljgodikiaaGreatZP28
set_option linter.all false
set_option linter.unusedVariables false
set_option linter.unusedSimpArgs false
set_option maxRecDepth 100000
namespace Go.Proofs.YteijmljgodikiaaGreatZ
open Go

theorem replay_state {s : GShow} (log : List GEntry) : ((replayOf s log).2 = true ∧ stateOk s (replayOf s log).1 = true) ∨ replayOf s log = (noState, false) := by
  unfold replayOf
  by_cases h : showOk s = true
  · rw [if_pos h]
    cases h2 : (replayFrom s (startOf s) log).2
    · exact .inr (replay_no _ _ h2)
    · exact .inl ⟨rfl, replay_ok _ _ (start_ok h) h2⟩
  · rw [if_neg h]; exact .inr rfl
theorem replay_fit (s : GShow) (log : List GEntry) : FitX (replayOf s log).1 := by
  rcases replay_state (s := s) log with ⟨_, h⟩ | h
  · obtain ⟨_, h2, h3⟩ := stateOk_val h
    exact ⟨by omega, by omega⟩
  · rw [h]; exact ⟨by simp [noState], by simp [noState]⟩

/-! ### DeskOk -/
noncomputable def deskOk (d : GDesk) : Bool := stateOk d.show_ d.state && decide ((d.log.length : Int) = d.state.now) && (replayOf d.show_ d.log).2 && decide ((replayOf d.show_ d.log).1 = d.state)
theorem DeskOk_impl (d : GDesk) (h : FitD d) : m_impl_DeskOk d = some (deskOk d) := by
  have x1 := h.st.times
  have x2 := h.st.values
  unfold m_impl_DeskOk deskOk
  rw [StateOk_impl _ _ h.sh.small x1 x2]
  simp only [obnd]
  cases stateOk d.show_ d.state
  · rfl
  · rw [if_pos rfl]
    by_cases hn : (d.log.length : Int) = d.state.now
    · rw [if_pos hn, ReplayLog_impl _ _ h.sh h.log h.entry, decide_eq_true hn]
      simp only
      cases hr : (replayOf d.show_ d.log).2
      · rfl
      · rw [if_pos rfl, SameStates_impl _ _ (replay_fit _ _)]; rfl
    · rw [if_neg hn, decide_eq_false hn]; rfl
theorem DeskOk_spec (d : GDesk) (h : FitD d) : m_spec_DeskOk d = some (deskOk d) := by
  have x1 := h.st.times
  have x2 := h.st.values
  unfold m_spec_DeskOk deskOk
  rw [StateOk_spec _ _ h.sh.small x1 x2]
  simp only [obnd]
  cases hst : stateOk d.show_ d.state
  · rfl
  · have hok := (stateOk_val hst).1
    rw [if_pos rfl]
    by_cases hn : (d.log.length : Int) = d.state.now
    · rw [if_pos hn, l22Replay_eq _ _ h.sh h.log h.entry hok, decide_eq_true hn]
      simp only
      cases hr : (replayOf d.show_ d.log).2
      · rfl
      · rw [if_pos rfl, SameStates_spec _ _ (replay_fit _ _)]; rfl
    · rw [if_neg hn, decide_eq_false hn]; rfl
theorem DeskOk_law (d : GDesk) (b1 : BdD d) : m_laws_FnExactDeskOk d = some true := by
  unfold m_laws_FnExactDeskOk
  obtain ⟨r1, e1, h1⟩ := szDesk_ok (l := 1048576) (by omega) (by omega) b1
  rw [e1]; simp only [obnd]
  rcases h1 with h1 | ⟨hf, _, _⟩
  · rw [if_pos h1]
  by_cases h0 : r1 < 0
  · rw [if_pos h0]
  rw [if_neg h0, toDesk_eq d hf]; simp only
  rw [DeskOk_spec d hf]; simp only
  rw [DeskOk_impl d hf]; simp only [if_true]
  rw [eqDesk_self d hf]; simp only [if_true]
end Go.Proofs.YteijmljgodikiaaGreatZ
