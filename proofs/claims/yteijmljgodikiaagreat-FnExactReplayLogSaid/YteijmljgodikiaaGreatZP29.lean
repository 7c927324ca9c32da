/- ReplayLog and DeskOk: the laws. Own work. -/
import Derived.Test.YteijmljgodikiaaGreatZP28
set_option linter.all false
set_option linter.unusedVariables false
set_option linter.unusedSimpArgs false
set_option maxRecDepth 100000
namespace Go.Proofs.YteijmljgodikiaaGreatZ
open Go

theorem replay_state {s : GShow} (log : List GEntry) : ((replayOf s log).2 = true ∧ stateOk s (replayOf s log).1 = true) ∨ replayOf s log = (noState, false) := by
  unfold replayOf
  by_cases h : showOk s = true
  · rw [if_pos h]
    cases h2 : (replayFrom s (startOf s) log).2
    · exact .inr (replay_no _ _ h2)
    · exact .inl ⟨rfl, replay_ok _ _ (start_ok h) h2⟩
  · rw [if_neg h]; exact .inr rfl
theorem replay_fit (s : GShow) (log : List GEntry) : FitX (replayOf s log).1 := by
  rcases replay_state (s := s) log with ⟨_, h⟩ | h
  · obtain ⟨_, h2, h3⟩ := stateOk_val h
    exact ⟨by omega, by omega⟩
  · rw [h]; exact ⟨by simp [noState], by simp [noState]⟩

theorem ReplayLog_spec (s : GShow) (log : List GEntry) (hf : FitS s) (hl : log.length ≤ 1048576) (he : ∀ e, e ∈ log → FitE e) : m_spec_ReplayLog s log = some (replayOf s log) := by
  have hs := hf.small
  unfold m_spec_ReplayLog
  by_cases hok : showOk s = true
  · rw [l22Replay_eq s log hf hl he hok]
    simp only [obnd]
    rcases replay_state (s := s) log with ⟨h2, _⟩ | h
    · rw [if_pos h2]
      generalize replayOf s log = q at h2
      obtain ⟨y, b⟩ := q
      simp only at h2
      subst h2
      rfl
    · rw [h, if_neg (by simp)]; rfl
  · have key : ∃ q, m_spec_l22Replay s log = some q ∧ q.2 = false := by
      unfold m_spec_l22Replay
      have e0 : m_spec_StartState s = some (GState.mk 0 [] []) := by
        unfold m_spec_StartState
        rw [ShowOk_spec s hs]
        simp only [obnd]
        rw [if_neg hok]
      rw [e0]
      simp only [obnd]
      cases log with
      | nil =>
        rw [loopO_eq]
        unfold m_spec_l22Replay_L1
        simp only
        rw [if_neg (by simp)]
        simp only
        rw [ShowOk_spec s hs]
        simp only
        exact ⟨_, rfl, by simpa using hok⟩
      | cons e r =>
        rw [loopO_eq]
        unfold m_spec_l22Replay_L1
        simp only
        rw [if_pos (by simp)]
        have g : getI (e :: r) 0 = some e := rfl
        rw [g]
        simp only [obnd]
        have ha : m_spec_l22Apply s (GState.mk 0 [] []) e = some (GState.mk 0 [] [], false) := by
          unfold m_spec_l22Apply m_spec_AfterEndings m_spec_EndingsOf
          rw [StateOk_spec s _ hs (by simp) (by simp)]
          have : stateOk s (GState.mk 0 [] []) = false := by
            unfold stateOk
            have h0 : showOk s = false := by simpa using hok
            rw [h0]; rfl
          rw [this]
          simp only [obnd]
          rw [if_neg (by simp)]
          simp only
          rw [l14In_eq _ _ (by unfold Cnt; simp) (by simp)]
          simp
        rw [show (GShow.mk s.nodes s.ties s.horizon) = s from rfl, ha]
        simp only
        rw [if_neg (by simp)]
        exact ⟨_, rfl, rfl⟩
    obtain ⟨q, e, h2⟩ := key
    rw [e]
    simp only [obnd]
    rw [if_neg (by rw [h2]; simp)]
    unfold replayOf
    rw [if_neg hok]; rfl

theorem markEntryS_ok (a : List GEntry) (k : Int) (ha : a.length ≤ 1048576) (hn : ∀ n, n ∈ a → FitE n) (h0 : 0 ≤ k) (hk : k ≤ 1125899906842624 * 2) : ∃ k' a', m_laws_markEntryS a k = some (k', a') ∧ k ≤ k' ∧ k' ≤ k + (a.length : Int) * 3145730 := by
  unfold m_laws_markEntryS
  have inv : ∃ q, loopO m_laws_markEntryS_L1 (k, 0, a) = some q ∧ (k ≤ q.1 ∧ q.1 ≤ k + (a.length : Int) * 3145730) := by
    refine loopO_inv a.length (fun i s => s.2.1 = (i : Int) ∧ s.2.2.length = a.length ∧ (∀ j, i ≤ j → s.2.2[j]? = a[j]?) ∧ k ≤ s.1 ∧ s.1 ≤ k + (i : Int) * 3145730) _ ⟨rfl, rfl, fun _ _ => rfl, by simp only; omega, by simp only; omega⟩ ?_ ?_
    · rintro i ⟨k', i', a'⟩ hi ⟨h1, h2, h3, h4, h5⟩
      simp only at h1 h2 h3 h4 h5
      subst h1
      left
      unfold m_laws_markEntryS_L1
      simp only
      have hi' : i < a'.length := by omega
      have e : a'[i] = a[i] := by
        have := h3 i (Nat.le_refl _)
        rw [List.getElem?_eq_getElem hi', List.getElem?_eq_getElem hi] at this
        exact Option.some.inj this
      have hl := hn _ (List.getElem_mem hi)
      have l1 := hl.ties
      have l2 := hl.nodes
      have l3 := hl.values
      rw [if_pos (by omega), getI_lt hi', e]
      simp only [obnd, Int.toNat_natCast]
      have hlen : ∀ z : GEntry, i < (a'.set i z).length := fun z => by simp; omega
      rw [getI_lt (hlen _)]
      simp only [List.getElem_set_self]
      rw [wr (x := k' + 1) (by omega) (by omega), markIntS_eq _ _ l1 (by omega) (by omega)]
      simp only
      rw [chk_pos (by simp [mkI]), getI_lt (by simp; omega)]
      simp only [List.getElem_set_self]
      rw [markIntS_eq _ _ l2 (by omega) (by omega)]
      simp only
      rw [chk_pos (by simp [mkI]), getI_lt (by simp; omega)]
      simp only [List.getElem_set_self]
      rw [markIntS_eq _ _ l3 (by omega) (by omega)]
      simp only
      rw [chk_pos (by simp [mkI]), wr (x := (i : Int) + 1) (by omega) (by omega)]
      refine ⟨_, rfl, by simp only; omega, by simp only [List.length_set]; exact h2, fun j hj => ?_, by simp only; omega, by simp only; omega⟩
      simp only [List.set_set]
      rw [List.getElem?_set_ne (by omega)]
      exact h3 j (by omega)
    · rintro ⟨k', i', a'⟩ ⟨h1, h2, h3, h4, h5⟩
      simp only at h1 h2 h3 h4 h5
      subst h1
      unfold m_laws_markEntryS_L1
      simp only
      rw [if_neg (by omega)]
      exact ⟨_, rfl, h4, h5⟩
  obtain ⟨⟨k', a'⟩, hr, hp⟩ := inv
  rw [hr]
  exact ⟨_, _, rfl, hp⟩

theorem markState_eq (x : GState) (h : FitX x) : m_laws_markState x 1 = some (1 + (x.times.length : Int) + (x.values.length : Int), mkI 1 x.times.length, mkI (1 + (x.times.length : Int)) x.values.length) := by
  have h1 := h.times
  have h2 := h.values
  unfold m_laws_markState
  rw [markIntS_eq _ 1 h.times (by omega) (by omega)]
  simp only [obnd]
  rw [markIntS_eq _ _ h.values (by omega) (by omega)]
theorem heldState_eq (n : Int) (a b : Nat) (h1 : a ≤ 1048576) (h2 : b ≤ 1048576) : m_laws_heldState ⟨n, mkI 1 a, mkI (1 + (a : Int)) b⟩ 1 = some (1 + (a : Int) + (b : Int)) := by
  unfold m_laws_heldState
  rw [heldIntS_eq 1 a h1 (by omega) (by omega)]
  simp only [obnd]
  rw [if_neg (by omega), heldIntS_eq _ b h2 (by omega) (by omega)]
  simp only
  rw [if_neg (by omega)]
theorem mkI_len (k : Int) (n : Nat) : (mkI k n).length = n := by simp [mkI]

theorem ReplayLog_law (s : GShow) (log : List GEntry) (b1 : BdS s) (hl : log.length ≤ maxLen) (hb : ∀ n, n ∈ log → BdE n) : m_laws_FnExactReplayLog s log = some true := by
  unfold m_laws_FnExactReplayLog
  obtain ⟨r1, e1, h1⟩ := szShow_gen (l := 1048576) (by omega) (by omega) b1
  rw [e1]; simp only [obnd]
  rcases h1 with h1 | ⟨hf, h1, h1'⟩
  · rw [if_pos h1]
  rw [if_neg (by omega)]
  obtain ⟨r2, e2, h2⟩ := szEntryS_ok (l := r1) h1' h1 hl hb
  rw [e2]; simp only
  rcases h2 with h2 | ⟨h2, h2', hl2, he⟩
  · rw [if_pos h2]
  rw [if_neg (by omega), toShow_eq s hf]; simp only
  rw [toEntryS_eq log hl2 he]; simp only
  rw [ReplayLog_spec s log hf hl2 he]; simp only
  rw [ReplayLog_impl s log hf hl2 he]; simp only
  have hx := replay_fit s log
  have x1 := hx.times
  have x2 := hx.values
  rw [eqState_self _ hx]; simp only [if_true]
  rw [eqShow_self s hf]; simp only [if_true]
  rw [eqEntryS_self log hl2 he]; simp only [if_true]
  obtain ⟨m1, e3, m2, m3⟩ := markShow_b s 1 hf (by omega) (by omega)
  rw [e3]; simp only
  obtain ⟨m4, m5, e4, m6, m7⟩ := markEntryS_ok log m1.1 hl2 he (by omega) (by omega)
  rw [e4]; simp only
  rw [if_neg (by omega), markState_eq _ hx]
  simp only [mkI_len]
  rw [chk_pos (Nat.le_refl _), chk_pos (Nat.le_refl _)]
  rw [List.take_of_length_le (by rw [mkI_len]; exact Nat.le_refl _), List.take_of_length_le (by rw [mkI_len]; exact Nat.le_refl _), heldState_eq _ _ _ x1 x2]
  simp only
  rw [if_neg (by omega)]
  simp only [if_true]
  rw [if_neg (by omega)]

/-! ### DeskOk -/
end Go.Proofs.YteijmljgodikiaaGreatZ
