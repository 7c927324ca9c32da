/- NewDesk. Own work. -/
import Derived.Test.YtgmiaokdnpaglaaXP15
import Derived.Test.YtgmiaokdnpaglaaXP16
import Derived.Test.YtgmiaokdnpaglaaXP18
import Derived.KernelRfl
set_option linter.all false
set_option linter.unusedVariables false
set_option linter.unusedSimpArgs false
namespace Go.Proofs.YtgmiaokdnpaglaaX
open Go

theorem Repeat1 : m_slices_Repeat_int [-1] 1 = some [-1] := by
  unfold m_slices_Repeat_int
  rw [if_neg (by decide), show m_bits_Mul (IntKind.wrap .u64 ((([-1] : List Int).length : Nat) : Int)) (IntKind.wrap .u64 1) = some (0, 1) from by kernel_rfl]
  simp only [obnd]
  rw [if_neg (by decide), if_neg (by decide), chk_pos (by decide), chk_pos (by decide), chk_pos (by decide)]
  have key : loopO m_slices_Repeat_int_L1 (1, [-1]) = some [-1] := by
    rw [loopO_eq, show m_slices_Repeat_int_L1 (1, [-1]) = some (.done [-1]) from by kernel_rfl]
  have hst : ∀ st : Int × List Int, st = (1, [-1]) → obnd (loopO m_slices_Repeat_int_L1 st) (fun q => some q) = some [-1] := by
    rintro _ rfl
    rw [key]; rfl
  exact hst _ (by kernel_rfl)
theorem Repeat2 : m_slices_Repeat_int [-1] 2 = some [-1, -1] := by
  unfold m_slices_Repeat_int
  rw [if_neg (by decide), show m_bits_Mul (IntKind.wrap .u64 ((([-1] : List Int).length : Nat) : Int)) (IntKind.wrap .u64 2) = some (0, 2) from by kernel_rfl]
  simp only [obnd]
  rw [if_neg (by decide), if_neg (by decide), chk_pos (by decide), chk_pos (by decide), chk_pos (by decide)]
  have key : loopO m_slices_Repeat_int_L1 (1, [-1, 0]) = some [-1, -1] := by
    rw [loopO_eq, show m_slices_Repeat_int_L1 (1, [-1, 0]) = some (.next (2, [-1, -1])) from by kernel_rfl]
    simp only
    rw [loopO_eq, show m_slices_Repeat_int_L1 (2, [-1, -1]) = some (.done [-1, -1]) from by kernel_rfl]
  have hst : ∀ st : Int × List Int, st = (1, [-1, 0]) → obnd (loopO m_slices_Repeat_int_L1 st) (fun q => some q) = some [-1, -1] := by
    rintro _ rfl
    rw [key]; rfl
  exact hst _ (by kernel_rfl)
theorem Repeat3 : m_slices_Repeat_int [-1] 3 = some [-1, -1, -1] := by
  unfold m_slices_Repeat_int
  rw [if_neg (by decide), show m_bits_Mul (IntKind.wrap .u64 ((([-1] : List Int).length : Nat) : Int)) (IntKind.wrap .u64 3) = some (0, 3) from by kernel_rfl]
  simp only [obnd]
  rw [if_neg (by decide), if_neg (by decide), chk_pos (by decide), chk_pos (by decide), chk_pos (by decide)]
  have key : loopO m_slices_Repeat_int_L1 (1, [-1, 0, 0]) = some [-1, -1, -1] := by
    rw [loopO_eq, show m_slices_Repeat_int_L1 (1, [-1, 0, 0]) = some (.next (2, [-1, -1, 0])) from by kernel_rfl]
    simp only
    rw [loopO_eq, show m_slices_Repeat_int_L1 (2, [-1, -1, 0]) = some (.next (3, [-1, -1, -1])) from by kernel_rfl]
    simp only
    rw [loopO_eq, show m_slices_Repeat_int_L1 (3, [-1, -1, -1]) = some (.done [-1, -1, -1]) from by kernel_rfl]
  have hst : ∀ st : Int × List Int, st = (1, [-1, 0, 0]) → obnd (loopO m_slices_Repeat_int_L1 st) (fun q => some q) = some [-1, -1, -1] := by
    rintro _ rfl
    rw [key]; rfl
  exact hst _ (by kernel_rfl)
theorem Repeat4 : m_slices_Repeat_int [-1] 4 = some [-1, -1, -1, -1] := by
  unfold m_slices_Repeat_int
  rw [if_neg (by decide), show m_bits_Mul (IntKind.wrap .u64 ((([-1] : List Int).length : Nat) : Int)) (IntKind.wrap .u64 4) = some (0, 4) from by kernel_rfl]
  simp only [obnd]
  rw [if_neg (by decide), if_neg (by decide), chk_pos (by decide), chk_pos (by decide), chk_pos (by decide)]
  have key : loopO m_slices_Repeat_int_L1 (1, [-1, 0, 0, 0]) = some [-1, -1, -1, -1] := by
    rw [loopO_eq, show m_slices_Repeat_int_L1 (1, [-1, 0, 0, 0]) = some (.next (2, [-1, -1, 0, 0])) from by kernel_rfl]
    simp only
    rw [loopO_eq, show m_slices_Repeat_int_L1 (2, [-1, -1, 0, 0]) = some (.next (4, [-1, -1, -1, -1])) from by kernel_rfl]
    simp only
    rw [loopO_eq, show m_slices_Repeat_int_L1 (4, [-1, -1, -1, -1]) = some (.done [-1, -1, -1, -1]) from by kernel_rfl]
  have hst : ∀ st : Int × List Int, st = (1, [-1, 0, 0, 0]) → obnd (loopO m_slices_Repeat_int_L1 st) (fun q => some q) = some [-1, -1, -1, -1] := by
    rintro _ rfl
    rw [key]; rfl
  exact hst _ (by kernel_rfl)
theorem Repeat5 : m_slices_Repeat_int [-1] 5 = some [-1, -1, -1, -1, -1] := by
  unfold m_slices_Repeat_int
  rw [if_neg (by decide), show m_bits_Mul (IntKind.wrap .u64 ((([-1] : List Int).length : Nat) : Int)) (IntKind.wrap .u64 5) = some (0, 5) from by kernel_rfl]
  simp only [obnd]
  rw [if_neg (by decide), if_neg (by decide), chk_pos (by decide), chk_pos (by decide), chk_pos (by decide)]
  have key : loopO m_slices_Repeat_int_L1 (1, [-1, 0, 0, 0, 0]) = some [-1, -1, -1, -1, -1] := by
    rw [loopO_eq, show m_slices_Repeat_int_L1 (1, [-1, 0, 0, 0, 0]) = some (.next (2, [-1, -1, 0, 0, 0])) from by kernel_rfl]
    simp only
    rw [loopO_eq, show m_slices_Repeat_int_L1 (2, [-1, -1, 0, 0, 0]) = some (.next (4, [-1, -1, -1, -1, 0])) from by kernel_rfl]
    simp only
    rw [loopO_eq, show m_slices_Repeat_int_L1 (4, [-1, -1, -1, -1, 0]) = some (.next (5, [-1, -1, -1, -1, -1])) from by kernel_rfl]
    simp only
    rw [loopO_eq, show m_slices_Repeat_int_L1 (5, [-1, -1, -1, -1, -1]) = some (.done [-1, -1, -1, -1, -1]) from by kernel_rfl]
  have hst : ∀ st : Int × List Int, st = (1, [-1, 0, 0, 0, 0]) → obnd (loopO m_slices_Repeat_int_L1 st) (fun q => some q) = some [-1, -1, -1, -1, -1] := by
    rintro _ rfl
    rw [key]; rfl
  exact hst _ (by kernel_rfl)
theorem Repeat6 : m_slices_Repeat_int [-1] 6 = some [-1, -1, -1, -1, -1, -1] := by
  unfold m_slices_Repeat_int
  rw [if_neg (by decide), show m_bits_Mul (IntKind.wrap .u64 ((([-1] : List Int).length : Nat) : Int)) (IntKind.wrap .u64 6) = some (0, 6) from by kernel_rfl]
  simp only [obnd]
  rw [if_neg (by decide), if_neg (by decide), chk_pos (by decide), chk_pos (by decide), chk_pos (by decide)]
  have key : loopO m_slices_Repeat_int_L1 (1, [-1, 0, 0, 0, 0, 0]) = some [-1, -1, -1, -1, -1, -1] := by
    rw [loopO_eq, show m_slices_Repeat_int_L1 (1, [-1, 0, 0, 0, 0, 0]) = some (.next (2, [-1, -1, 0, 0, 0, 0])) from by kernel_rfl]
    simp only
    rw [loopO_eq, show m_slices_Repeat_int_L1 (2, [-1, -1, 0, 0, 0, 0]) = some (.next (4, [-1, -1, -1, -1, 0, 0])) from by kernel_rfl]
    simp only
    rw [loopO_eq, show m_slices_Repeat_int_L1 (4, [-1, -1, -1, -1, 0, 0]) = some (.next (6, [-1, -1, -1, -1, -1, -1])) from by kernel_rfl]
    simp only
    rw [loopO_eq, show m_slices_Repeat_int_L1 (6, [-1, -1, -1, -1, -1, -1]) = some (.done [-1, -1, -1, -1, -1, -1]) from by kernel_rfl]
  have hst : ∀ st : Int × List Int, st = (1, [-1, 0, 0, 0, 0, 0]) → obnd (loopO m_slices_Repeat_int_L1 st) (fun q => some q) = some [-1, -1, -1, -1, -1, -1] := by
    rintro _ rfl
    rw [key]; rfl
  exact hst _ (by kernel_rfl)
theorem Repeat7 : m_slices_Repeat_int [-1] 7 = some [-1, -1, -1, -1, -1, -1, -1] := by
  unfold m_slices_Repeat_int
  rw [if_neg (by decide), show m_bits_Mul (IntKind.wrap .u64 ((([-1] : List Int).length : Nat) : Int)) (IntKind.wrap .u64 7) = some (0, 7) from by kernel_rfl]
  simp only [obnd]
  rw [if_neg (by decide), if_neg (by decide), chk_pos (by decide), chk_pos (by decide), chk_pos (by decide)]
  have key : loopO m_slices_Repeat_int_L1 (1, [-1, 0, 0, 0, 0, 0, 0]) = some [-1, -1, -1, -1, -1, -1, -1] := by
    rw [loopO_eq, show m_slices_Repeat_int_L1 (1, [-1, 0, 0, 0, 0, 0, 0]) = some (.next (2, [-1, -1, 0, 0, 0, 0, 0])) from by kernel_rfl]
    simp only
    rw [loopO_eq, show m_slices_Repeat_int_L1 (2, [-1, -1, 0, 0, 0, 0, 0]) = some (.next (4, [-1, -1, -1, -1, 0, 0, 0])) from by kernel_rfl]
    simp only
    rw [loopO_eq, show m_slices_Repeat_int_L1 (4, [-1, -1, -1, -1, 0, 0, 0]) = some (.next (7, [-1, -1, -1, -1, -1, -1, -1])) from by kernel_rfl]
    simp only
    rw [loopO_eq, show m_slices_Repeat_int_L1 (7, [-1, -1, -1, -1, -1, -1, -1]) = some (.done [-1, -1, -1, -1, -1, -1, -1]) from by kernel_rfl]
  have hst : ∀ st : Int × List Int, st = (1, [-1, 0, 0, 0, 0, 0, 0]) → obnd (loopO m_slices_Repeat_int_L1 st) (fun q => some q) = some [-1, -1, -1, -1, -1, -1, -1] := by
    rintro _ rfl
    rw [key]; rfl
  exact hst _ (by kernel_rfl)
theorem Repeat_ok (n : Nat) (h1 : 1 ≤ n) (h7 : n ≤ 7) : m_slices_Repeat_int [-1] (n : Int) = some (List.replicate n (-1)) := by
  have : n = 1 ∨ n = 2 ∨ n = 3 ∨ n = 4 ∨ n = 5 ∨ n = 6 ∨ n = 7 := by omega
  rcases this with rfl | rfl | rfl | rfl | rfl | rfl | rfl
  · exact Repeat1
  · exact Repeat2
  · exact Repeat3
  · exact Repeat4
  · exact Repeat5
  · exact Repeat6
  · exact Repeat7

def stL : Nat → List Int
  | 0 => []
  | n + 1 => 0 :: List.replicate n (-1)
theorem stL_len : ∀ n, (stL n).length = n
  | 0 => rfl
  | n + 1 => by simp [stL]
theorem stL_succ (n : Nat) : stL (n + 2) = stL (n + 1) ++ [-1] := by
  simp only [stL, List.cons_append]
  rw [List.replicate_succ']
def startOf (s : GShow) : GState := ⟨0, stL s.nodes.length, List.replicate 3 0⟩
theorem StartState_impl (s : GShow) (hs : SmallS s) (hA : showOk s = true) : m_impl_StartState s = some (startOf s) := by
  have hR := showOk_right hA
  have h7 := hR.nodes
  have h1 := hR.node1
  unfold m_impl_StartState startOf
  rw [ShowOk_impl s hs, hA]
  simp only [obnd, if_true]
  rw [Repeat_ok s.nodes.length h1 h7]
  simp only
  generalize s.nodes.length = n at h1 h7
  cases n with
  | zero => omega
  | succ m => rfl
theorem StartState_spec (s : GShow) (hs : SmallS s) (hA : showOk s = true) : m_spec_StartState s = some (startOf s) := by
  have hR := showOk_right hA
  have h7 := hR.nodes
  unfold m_spec_StartState startOf
  rw [ShowOk_spec s hs, hA]
  simp only [obnd, if_true]
  have key : loopO (m_spec_StartState_L1 ((s.nodes.length : Nat) : Int) (List.replicate 3 0)) (((0 : Nat) : Int), stL 0) = some (stL s.nodes.length) := by
    refine loopO_to s.nodes.length (fun i => ((i : Int), stL i)) ?_ ?_
    · intro i hi
      have hl := stL_len i
      unfold m_spec_StartState_L1
      simp only
      rw [if_pos (by omega), wr (x := (i : Int) + 1) (by omega) (by omega)]
      cases i with
      | zero => rfl
      | succ i => rw [if_neg (by omega), chk_pos (by omega), chk_pos (by omega), stL_succ]; rfl
    · unfold m_spec_StartState_L1
      simp only
      rw [if_neg (by omega)]
  have key' : loopO (m_spec_StartState_L1 ((s.nodes.length : Nat) : Int) (List.replicate 3 0)) (0, []) = some (stL s.nodes.length) := key
  rw [key']
def noDesk : GDesk := ⟨⟨[], [], 0⟩, ⟨0, [], []⟩, false, []⟩
def newOf (s : GShow) (z : Bool) : GDesk × Bool := if showOk s = true then (⟨s, startOf s, z, []⟩, true) else (noDesk, false)
theorem NewDesk_impl (s : GShow) (z : Bool) (h : FitS s) : m_impl_NewDesk s z = some (newOf s z) := by
  unfold m_impl_NewDesk newOf
  rw [ShowOk_impl s h.small]
  simp only [obnd]
  cases hA : showOk s
  · rfl
  · rw [if_pos rfl, if_pos rfl, copyShow_eq s h, StartState_impl s h.small hA]
theorem NewDesk_spec (s : GShow) (z : Bool) (h : FitS s) : m_spec_NewDesk s z = some (newOf s z) := by
  unfold m_spec_NewDesk newOf
  rw [ShowOk_spec s h.small]
  simp only [obnd]
  cases hA : showOk s
  · rfl
  · rw [if_pos rfl, if_pos rfl, l08Copy_eq s h, StartState_spec s h.small hA]
theorem newOf_fit (s : GShow) (z : Bool) (h : FitS s) : FitD (newOf s z).1 := by
  unfold newOf
  split
  · rename_i hA
    have h7 := (showOk_right hA).nodes
    exact ⟨h, ⟨by show (stL _).length ≤ _; rw [stL_len]; omega, by show (List.replicate 3 (0 : Int)).length ≤ _; simp⟩, by show ([] : List GEntry).length ≤ _; simp, by intro e he; simp at he⟩
  · exact ⟨noShow_fit, ⟨by simp [noDesk], by simp [noDesk]⟩, by simp [noDesk], by simp [noDesk]⟩
theorem newOf_log (s : GShow) (z : Bool) : (newOf s z).1.log = [] := by
  unfold newOf
  split <;> rfl
/-- A desk with no log is marked, and what is marked is held. -/
theorem markDesk_held (d : GDesk) (h : FitD d) (hl : d.log = []) : ∃ q, m_laws_markDesk d 1 = some q ∧ 0 ≤ q.1 ∧ q.2.1.length = d.show_.nodes.length ∧ q.2.2.1.length = d.show_.ties.length ∧ q.2.2.2.1.length = d.state.times.length ∧
    q.2.2.2.2.1.length = d.state.values.length ∧ q.2.2.2.2.2 = [] ∧ m_laws_heldDesk ⟨⟨q.2.1, q.2.2.1, d.show_.horizon⟩, ⟨d.state.now, q.2.2.2.1, q.2.2.2.2.1⟩, d.lazy, []⟩ 1 = some q.1 := by
  obtain ⟨q', m1, m2, m3, m4, m5, m6⟩ := markShow_held d.show_ 1 h.sh (by omega) (by omega)
  have h1 := h.st.times
  have h2 := h.st.values
  unfold m_laws_markDesk m_laws_markState
  rw [m1]
  simp only [obnd]
  rw [markIntS_eq d.state.times q'.1 h1 m2 (by omega)]
  simp only
  rw [markIntS_eq d.state.values _ h2 (by omega) (by omega)]
  simp only
  rw [hl, markEntryS_nil]
  refine ⟨_, rfl, by simp only; omega, m4, m5, mkI_length _ _, mkI_length _ _, rfl, ?_⟩
  unfold m_laws_heldDesk m_laws_heldState
  simp only [m6, obnd]
  rw [if_neg (by omega), heldIntS_eq _ _ h1 m2 (by omega)]
  simp only
  rw [if_neg (by omega), heldIntS_eq _ _ h2 (by omega) (by omega)]
  simp only
  rw [if_neg (by omega)]
  simp only
  rw [if_neg (by omega), heldEntryS_nil]
  simp only
  rw [if_neg (by omega)]
theorem NewDesk_law (s : GShow) (z : Bool) (hb : BdS s) : m_laws_FnExactNewDesk s z = some true := by
  unfold m_laws_FnExactNewDesk
  obtain ⟨r, hr, hp⟩ := szShow_ok hb
  rw [hr]
  simp only [obnd]
  by_cases h3 : r < 0
  · rw [if_pos h3]
  · rw [if_neg h3]
    have hf : FitS s := by
      rcases hp with hp | hp
      · exact absurd hp h3
      · exact hp
    have hg := newOf_fit s z hf
    have hlog := newOf_log s z
    simp only [toShow_eq s hf, NewDesk_impl s z hf, NewDesk_spec s z hf]
    generalize newOf s z = p at hg hlog ⊢
    obtain ⟨g, b⟩ := p
    simp only at hg hlog ⊢
    obtain ⟨q, hq, hq1, hq2⟩ := markShow_ok s 1 hf (by omega) (by omega)
    obtain ⟨q', m1, m2, m3, m4, m5, m6, m7, m8⟩ := markDesk_held g hg hlog
    simp only [eqShow_self s hf, eqDesk_self g hg, hq, if_true]
    rw [if_neg (by omega), m1]
    simp only
    rw [m7, hlog, chk_pos (by omega), chk_pos (by omega), chk_pos (by omega), chk_pos (by omega), chk_pos (by simp), List.take_of_length_le (by omega), List.take_of_length_le (by omega), List.take_of_length_le (by omega), List.take_of_length_le (by omega), List.take_nil, m8]
    simp only
    rw [if_neg (by omega)]
    simp
    omega
end Go.Proofs.YtgmiaokdnpaglaaX
