/- TimeLine. Own work. -/
import Derived.Test.YtgmiaokdnpaglaaP12
set_option linter.all false
set_option linter.unusedVariables false
set_option linter.unusedSimpArgs false
namespace Go.Proofs.YtgmiaokdnpaglaaV
open Go

theorem strOf_snoc (l : List Int) (n : Int) : strOf (l ++ [n]) = (strOf l).push (UInt8.ofNat n.toNat) := by
  unfold strOf
  rw [List.foldl_append]; rfl
theorem strOf_size (l : List Int) : (strOf l).size = l.length := by
  have key : ∀ (l : List Int) (b : ByteArray), (l.foldl (fun r n => r.push (UInt8.ofNat n.toNat)) b).size = b.size + l.length := by
    intro l
    induction l with
    | nil => intro b; rfl
    | cons x l ih => intro b; rw [List.foldl_cons, ih, ByteArray.size_push, List.length_cons]; omega
  unfold strOf
  rw [key]
  show 0 + l.length = l.length
  omega
theorem append_one (b : ByteArray) (c : UInt8) : b ++ ByteArray.mk #[c] = b.push c := by
  apply ByteArray.ext
  rw [ByteArray.data_append]
  simp [ByteArray.push]

def lineT (ts : List Int) (k n : Int) (t : GTie) : Bool := t.free && decide (t.from_ = k ∧ tm ts k ≠ -1 ∧ tm ts k < n ∧ (tm ts t.to = -1 ∨ n < tm ts t.to))
def lineC (s : GShow) (ts : List Int) (k n : Int) : Int := if n = tm ts k then 42 else if s.ties.any (lineT ts k n) = true then 61 else 46
def lineL (s : GShow) (ts : List Int) (k : Int) (m : Nat) : List Int := (List.range m).map (fun (i : Nat) => lineC s ts k (i : Int))
theorem lineL_succ (s : GShow) (ts : List Int) (k : Int) (m : Nat) : lineL s ts k (m + 1) = lineL s ts k m ++ [lineC s ts k m] := by
  unfold lineL
  rw [List.range_succ, List.map_append]; rfl
theorem lineL_len (s : GShow) (ts : List Int) (k : Int) (m : Nat) : (lineL s ts k m).length = m := by simp [lineL]

theorem any_take {α : Type} {l : List α} {p : α → Bool} {i : Nat} (h : i < l.length) : (l.take (i + 1)).any p = ((l.take i).any p || p l[i]) := by
  rw [take_succ_of h, List.any_append]; simp

theorem inner_impl (s : GShow) (ts : List Int) (k n : Int) (hR : Right s) (hl : ts.length = s.nodes.length) (hk : 0 ≤ k ∧ k < s.nodes.length) (out : List Int) :
    loopO (m_impl_TimeLine_L3 ts k n s.ties ((s.ties.length : Nat) : Int) s.nodes s.horizon out) (46, 0) = some (if s.ties.any (lineT ts k n) = true then 61 else 46) := by
  have h14 := hR.ties
  have key : loopO (m_impl_TimeLine_L3 ts k n s.ties ((s.ties.length : Nat) : Int) s.nodes s.horizon out) ((if (s.ties.take 0).any (lineT ts k n) = true then 61 else 46), ((0 : Nat) : Int)) = some (if s.ties.any (lineT ts k n) = true then 61 else 46) := by
    refine loopO_to s.ties.length (fun i => ((if (s.ties.take i).any (lineT ts k n) = true then 61 else 46), (i : Int))) ?_ ?_
    · intro i hi
      have hT := hR.tie _ (List.getElem_mem hi)
      have e : ∀ v, (if ((s.ties.take i).any (lineT ts k n) || lineT ts k n s.ties[i]) = true then (61 : Int) else 46) = v → some (Step.next ((if ((s.ties.take i).any (lineT ts k n) || lineT ts k n s.ties[i]) = true then (61 : Int) else 46), ((i + 1 : Nat) : Int))) = (some (Step.next (v, (i : Int) + 1)) : Option (Step (Int × Int) Int)) := by
        intro v hv; rw [hv]; rfl
      rw [any_take hi]
      unfold m_impl_TimeLine_L3
      simp only
      rw [if_pos (by omega), getI_lt hi, wr (x := (i : Int) + 1) (by omega) (by omega), getI_tm hk.1 (by omega)]
      simp only [obnd]
      rw [getI_tm hT.t0 (by have := hT.t1; omega)]
      revert e
      generalize (s.ties.take i).any (lineT ts k n) = a
      unfold lineT
      cases s.ties[i].free
      · intro e; rw [e]; rw [if_neg (by simp)]; simp
      · intro e
        rw [if_pos rfl]
        by_cases h1 : s.ties[i].from_ = k
        · rw [if_pos h1]
          by_cases h2 : tm ts k = -1
          · rw [if_pos h2, e]; simp [h2]
          · rw [if_neg h2]
            by_cases h3 : tm ts k < n
            · rw [if_pos h3]
              simp only
              by_cases h4 : tm ts s.ties[i].to = -1
              · rw [if_pos h4, e]; simp [h1, h2, h3, h4]
              · rw [if_neg h4]
                by_cases h5 : n < tm ts s.ties[i].to
                · rw [if_pos h5, e]; simp [h1, h2, h3, h5]
                · rw [if_neg h5, e]; simp [h4, h5]
            · rw [if_neg h3, e]; simp [h3]
        · rw [if_neg h1, e]; simp [h1]
    · unfold m_impl_TimeLine_L3
      simp only
      rw [if_neg (by omega), List.take_length]
  exact key

theorem inner_spec (s : GShow) (ts : List Int) (k n : Int) (hR : Right s) (hl : ts.length = s.nodes.length) (hk : 0 ≤ k ∧ k < s.nodes.length) (out : ByteArray) :
    loopO (m_spec_TimeLine_L2 ts k out n s.ties ((s.ties.length : Nat) : Int) s.nodes s.horizon) ((ByteArray.mk #[46]), 0) = some (if s.ties.any (lineT ts k n) = true then ByteArray.mk #[61] else ByteArray.mk #[46]) := by
  have h14 := hR.ties
  generalize ByteArray.mk #[46] = B
  have key : loopO (m_spec_TimeLine_L2 ts k out n s.ties ((s.ties.length : Nat) : Int) s.nodes s.horizon) ((if (s.ties.take 0).any (lineT ts k n) = true then ByteArray.mk #[61] else B), ((0 : Nat) : Int)) = some (if s.ties.any (lineT ts k n) = true then ByteArray.mk #[61] else B) := by
    refine loopO_to s.ties.length (fun i => ((if (s.ties.take i).any (lineT ts k n) = true then ByteArray.mk #[61] else B), (i : Int))) ?_ ?_
    · intro i hi
      have hT := hR.tie _ (List.getElem_mem hi)
      rw [any_take hi]
      unfold m_spec_TimeLine_L2
      simp only
      generalize ByteArray.mk #[61] = A
      have e : ∀ v, (if ((s.ties.take i).any (lineT ts k n) || lineT ts k n s.ties[i]) = true then A else B) = v → some (Step.next ((if ((s.ties.take i).any (lineT ts k n) || lineT ts k n s.ties[i]) = true then A else B), ((i + 1 : Nat) : Int))) = (some (Step.next (v, (i : Int) + 1)) : Option (Step (ByteArray × Int) ByteArray)) := by
        intro v hv; rw [hv]; rfl
      rw [if_pos (by omega), getI_lt hi, wr (x := (i : Int) + 1) (by omega) (by omega), getI_tm hk.1 (by omega)]
      simp only [obnd]
      rw [getI_tm hT.t0 (by have := hT.t1; omega)]
      revert e
      generalize (s.ties.take i).any (lineT ts k n) = a
      unfold lineT
      cases s.ties[i].free
      · intro e; rw [e]; rw [if_neg (by simp)]; simp
      · intro e
        rw [if_pos rfl]
        by_cases h1 : s.ties[i].from_ = k
        · rw [if_pos h1]
          by_cases h2 : tm ts k = -1
          · rw [if_pos h2, e]; simp [h2]
          · rw [if_neg h2]
            by_cases h3 : tm ts k < n
            · rw [if_pos h3]
              simp only
              by_cases h4 : tm ts s.ties[i].to = -1
              · rw [if_pos h4, e]; simp [h1, h2, h3, h4]
              · rw [if_neg h4]
                by_cases h5 : n < tm ts s.ties[i].to
                · rw [if_pos h5, e]; simp [h1, h2, h3, h5]
                · rw [if_neg h5, e]; simp [h4, h5]
            · rw [if_neg h3, e]; simp [h3]
        · rw [if_neg h1, e]; simp [h1]
    · unfold m_spec_TimeLine_L2
      simp only
      rw [if_neg (by omega), List.take_length]
  exact key

def lineOf (s : GShow) (ts : List Int) (k : Int) : ByteArray := if showOk s = true ∧ ts.length = s.nodes.length ∧ 0 ≤ k ∧ k < s.nodes.length then strOf (lineL s ts k (s.horizon.toNat + 1)) else ByteArray.mk #[]

theorem TimeLine_impl (s : GShow) (ts : List Int) (k : Int) (hs : SmallS s) : m_impl_TimeLine s ts k = some (lineOf s ts k) := by
  unfold m_impl_TimeLine lineOf
  rw [ShowOk_impl s hs]
  simp only [obnd]
  cases hA : showOk s
  · rw [if_neg (by simp), if_neg (by simp)]
  · have hR := showOk_right hA
    rw [if_pos rfl]
    by_cases hl : ts.length = s.nodes.length
    · rw [if_pos (by omega), isNode_eq]
      simp only
      by_cases hk : 0 ≤ k ∧ k < (s.nodes.length : Int)
      · rw [if_pos (decide_eq_true hk), if_pos ⟨trivial, hl, hk⟩]
        have hh := hR.hor
        have key : loopO (m_impl_TimeLine_L4 ts k s.nodes s.ties s.horizon) (((0 : Nat) : Int), lineL s ts k 0) = some (lineL s ts k (s.horizon.toNat + 1)) := by
          refine loopO_to (s.horizon.toNat + 1) (fun i => ((i : Int), lineL s ts k i)) ?_ ?_
          · intro i hi
            have hln := lineL_len s ts k i
            unfold m_impl_TimeLine_L4
            simp only
            rw [if_pos (by omega), inner_impl s ts k _ hR hl hk, getI_tm hk.1 (by omega), wr (x := (i : Int) + 1) (by omega) (by omega)]
            simp only [obnd]
            rw [chk_pos (by omega), chk_pos (by omega), chk_pos (by omega), chk_pos (by omega), lineL_succ]
            by_cases h1 : (i : Int) = tm ts k
            · rw [if_pos h1, lineC, if_pos h1]; rfl
            · rw [if_neg h1, lineC, if_neg h1]; rfl
          · unfold m_impl_TimeLine_L4
            simp only
            rw [if_neg (by omega)]
        rw [show lineL s ts k 0 = [] from rfl] at key
        rw [show (0 : Int) = ((0 : Nat) : Int) from rfl, key]
      · rw [if_neg (by rw [decide_eq_false hk]; simp), if_neg (fun h => hk h.2.2)]
    · rw [if_neg (by omega), if_neg (fun h => hl h.2.1)]

theorem TimeLine_spec (s : GShow) (ts : List Int) (k : Int) (hs : SmallS s) : m_spec_TimeLine s ts k = some (lineOf s ts k) := by
  have h7 := hs.nodes
  unfold m_spec_TimeLine lineOf
  rw [ShowOk_spec s hs]
  simp only [obnd]
  cases hA : showOk s
  · rw [if_neg (by simp), if_neg (by simp)]
  · have hR := showOk_right hA
    rw [if_pos rfl]
    by_cases hl : ts.length = s.nodes.length
    · rw [if_pos (by omega), l01In_eq, wr (x := (s.nodes.length : Int) - 1) (by omega) (by omega)]
      simp only
      by_cases hk : 0 ≤ k ∧ k ≤ (s.nodes.length : Int) - 1
      · have hk' : 0 ≤ k ∧ k < (s.nodes.length : Int) := by omega
        rw [if_pos (decide_eq_true hk), if_pos ⟨trivial, hl, hk'⟩]
        have hh := hR.hor
        have key : loopO (m_spec_TimeLine_L3 ts k s.nodes s.ties s.horizon) (strOf (lineL s ts k 0), ((0 : Nat) : Int)) = some (strOf (lineL s ts k (s.horizon.toNat + 1))) := by
          refine loopO_to (s.horizon.toNat + 1) (fun i => (strOf (lineL s ts k i), (i : Int))) ?_ ?_
          · intro i hi
            have hln := lineL_len s ts k i
            have hsz := strOf_size (lineL s ts k i)
            unfold m_spec_TimeLine_L3
            simp only
            rw [if_pos (by omega), inner_spec s ts k _ hR hl hk', getI_tm hk.1 (by omega), wr (x := (i : Int) + 1) (by omega) (by omega)]
            simp only [obnd]
            have hq : (if s.ties.any (lineT ts k (i : Int)) = true then ByteArray.mk #[61] else ByteArray.mk #[46]).size = 1 := by split <;> rfl
            rw [chk_pos (by omega), chk_pos (by omega), lineL_succ, strOf_snoc]
            by_cases h1 : (i : Int) = tm ts k
            · rw [if_pos h1, lineC, if_pos h1, append_one]; rfl
            · rw [if_neg h1, lineC, if_neg h1]
              split <;> (rw [append_one]; rfl)
          · unfold m_spec_TimeLine_L3
            simp only
            rw [if_neg (by omega)]
        rw [show strOf (lineL s ts k 0) = ByteArray.mk #[] from rfl] at key
        rw [show (0 : Int) = ((0 : Nat) : Int) from rfl, key]
      · rw [if_neg (by rw [decide_eq_false hk]; simp), if_neg (fun h => hk (by have := h.2.2; omega))]
    · rw [if_neg (by omega), if_neg (fun h => hl h.2.1)]

theorem TimeLine_law (s : GShow) (ts : List Int) (k : Int) (hb : BdS s) : m_laws_FnExactTimeLine s ts k = some true := by
  unfold m_laws_FnExactTimeLine
  by_cases h1 : ts.length ≤ 1048576
  · rw [if_neg (by omega)]
    obtain ⟨r, hr, hp⟩ := szShow_ok hb
    rw [hr]
    simp only [obnd]
    by_cases h3 : r < 0
    · rw [if_pos h3]
    · rw [if_neg h3]
      have hf : FitS s := by
        rcases hp with hp | hp
        · exact absurd hp h3
        · exact hp
      have hc : Cnt ts.length := by unfold Cnt; omega
      simp only [toShow_eq s hf, toIntS_eq _ h1, TimeLine_impl s ts k hf.small, TimeLine_spec s ts k hf.small]
      have e2 : m_laws_eqIntS ts ts = some true := by rw [eqIntS_eq _ _ hc]; simp
      simp only [e2, eqShow_self s hf, if_true]
  · rw [if_pos (by omega)]
end Go.Proofs.YtgmiaokdnpaglaaV
