/- Endings and what they leave behind. Own work. -/
import Derived.Test.YteijmljgodikiaaGreatZP25
set_option linter.all false
set_option linter.unusedVariables false
set_option linter.unusedSimpArgs false
set_option maxRecDepth 100000
namespace Go.Proofs.YteijmljgodikiaaGreatZ
open Go

/-! ### Free ties of a show that is right -/
structure FreeT (s : GShow) (i : Nat) (t : GTie) : Prop where
  low : 1 ≤ t.low
  t0 : t.to ≠ 0
  watch : ∀ b, s.nodes[t.to.toNat]? = some b → b.watch = 0
  one : ∀ j (hj : j < s.ties.length), j < i → s.ties[j].free = true → s.ties[j].to ≠ t.to
theorem showOk_free {s : GShow} (h : showOk s = true) {i : Nat} (hi : i < s.ties.length) (hf : s.ties[i].free = true) : FreeT s i s.ties[i] := by
  have hR := showOk_right h
  have hT := hR.tie _ (List.getElem_mem hi)
  unfold showOk at h
  simp only [Bool.and_eq_true, decide_eq_true_eq] at h
  have hp := h.1.1.1.2 i hi
  rw [tieP_lt hi, Bool.and_eq_true] at hp
  have hF := hp.2
  unfold tieFree at hF
  rw [hf] at hF
  simp only [Bool.not_true, Bool.false_or, Bool.and_eq_true, decide_eq_true_eq] at hF
  obtain ⟨⟨⟨h1, h2⟩, h3⟩, h4⟩ := hF
  have a1 := hT.t1
  have a2 := hT.f1
  have b1 : s.nodes[s.ties[i].to.toNat]? = some (s.nodes[s.ties[i].to.toNat]'(by have := hT.t0; omega)) := List.getElem?_eq_getElem _
  have b2 : s.nodes[s.ties[i].from_.toNat]? = some (s.nodes[s.ties[i].from_.toNat]'(by have := hT.f0; omega)) := List.getElem?_eq_getElem _
  rw [b1, b2] at h3
  simp only [decide_eq_true_eq] at h3
  refine ⟨h1, h2, ?_, ?_⟩
  · intro b hb
    rw [b1] at hb
    cases hb
    exact h3.1
  · intro j hj hji hfj he
    rw [Bool.not_eq_true', List.any_eq_false] at h4
    refine h4 s.ties[j] ?_ (by rw [hfj, decide_eq_true he]; rfl)
    exact List.mem_take_iff_getElem.2 ⟨j, by omega, rfl⟩

theorem places_asc (p : Nat → Bool) : ∀ n, Asc (places p n)
  | 0 => List.Pairwise.nil
  | n + 1 => by
    cases hp : p n
    · rw [places_no hp]; exact places_asc p n
    · rw [places_yes hp]
      refine asc_snoc (places_asc p n) ?_
      intro y hy
      obtain ⟨i, hi, _, rfl⟩ := places_mem.1 hy
      omega
theorem actL_asc (s : GShow) (x : GState) : Asc (actL s x) := places_asc _ _
theorem act_at {s : GShow} {x : GState} {k : Int} (h : k ∈ actL s x) : ∃ i, ∃ hi : i < s.ties.length, k = (i : Int) ∧ s.ties[i].free = true ∧ tm x.times s.ties[i].from_ ≠ -1 ∧ tm x.times s.ties[i].to = -1 := by
  obtain ⟨i, hi, hp, rfl⟩ := places_mem.1 h
  unfold actAt at hp
  rw [List.getElem?_eq_getElem hi] at hp
  simp only [Option.any_some] at hp
  unfold actT at hp
  simp only [Bool.and_eq_true, decide_eq_true_eq] at hp
  exact ⟨i, hi, rfl, hp.1, hp.2.1, hp.2.2⟩

theorem free_inj {s : GShow} (h : showOk s = true) {i j : Nat} (hi : i < s.ties.length) (hj : j < s.ties.length) (hf : s.ties[i].free = true) (hg : s.ties[j].free = true) (he : s.ties[i].to = s.ties[j].to) : i = j := by
  rcases Nat.lt_trichotomy i j with hlt | he' | hlt
  · exact absurd he ((showOk_free h hj hg).one i hi hlt hf)
  · exact he'
  · exact absurd he.symm ((showOk_free h hi hf).one j hj hlt hg)

theorem act_six {s : GShow} (h : showOk s = true) (x : GState) : (actL s x).length ≤ 6 := by
  have hR := showOk_right h
  have hn := hR.nodes
  have hnd : ((actL s x).map (fun k => (tieAt s k).to)).Nodup := by
    unfold List.Nodup
    rw [List.pairwise_map]
    refine List.Pairwise.imp_of_mem ?_ (actL_asc s x)
    intro a b ha hb hab he
    obtain ⟨i, hi, rfl, hf, _, _⟩ := act_at ha
    obtain ⟨j, hj, rfl, hg, _, _⟩ := act_at hb
    rw [tieAt_lt hi, tieAt_lt hj] at he
    have := free_inj h hi hj hf hg he
    omega
  have := nodup_len (r := [1, 2, 3, 4, 5, 6]) hnd (fun y hy => by
    rw [List.mem_map] at hy
    obtain ⟨k, hk, rfl⟩ := hy
    obtain ⟨i, hi, rfl, hf, _, _⟩ := act_at hk
    rw [tieAt_lt hi]
    have hT := hR.tie _ (List.getElem_mem hi)
    have h0 := (showOk_free h hi hf).t0
    have h1 := hT.t0
    have h2 := hT.t1
    simp only [List.mem_cons, List.not_mem_nil, or_false]
    omega)
  simpa using this

/-! ### Endings -/
def mustT (s : GShow) (x : GState) (k : Int) : Bool := decide ((tieAt s k).high ≤ x.now - tm x.times (tieAt s k).from_)
def mayT (s : GShow) (x : GState) (k : Int) : Bool := !mustT s x k && decide ((tieAt s k).low ≤ x.now - tm x.times (tieAt s k).from_)
def mustL (s : GShow) (x : GState) : List Int := (actL s x).filter (mustT s x)
def mayL (s : GShow) (x : GState) : List Int := (actL s x).filter (mayT s x)
noncomputable def endAt (s : GShow) (x : GState) (n : Nat) : List Int := mrg (mustL s x) (sel (bitOn (n : Int)) (mayL s x) (mayL s x).length)
noncomputable def endsL (s : GShow) (x : GState) : List (List Int) := if s.horizon < x.now then [] else (List.range (2 ^ (mayL s x).length)).map (endAt s x)

theorem filter_two {α : Type} (p q : α → Bool) (h : ∀ x, p x = true → q x = false) : ∀ l : List α, (l.filter p).length + (l.filter q).length ≤ l.length
  | [] => by simp
  | x :: l => by
    have ih := filter_two p q h l
    have hx := h x
    cases hp : p x
    · cases hq : q x <;> simp [List.filter_cons, hp, hq] <;> omega
    · rw [hp] at hx
      have := hx rfl
      simp [List.filter_cons, hp, this]; omega
theorem must_may (s : GShow) (x : GState) : (mustL s x).length + (mayL s x).length ≤ (actL s x).length := filter_two _ _ (fun k h => by unfold mayT; rw [h]; rfl) _
theorem mustL_asc (s : GShow) (x : GState) : Asc (mustL s x) := (actL_asc s x).filter _
theorem mayL_asc (s : GShow) (x : GState) : Asc (mayL s x) := (actL_asc s x).filter _
theorem must_may_d (s : GShow) (x : GState) (k : Int) (h1 : k ∈ mustL s x) (h2 : k ∈ mayL s x) : False := by
  have a := (List.mem_filter.1 h1).2
  have b := (List.mem_filter.1 h2).2
  unfold mayT at b
  rw [a] at b
  simp at b

theorem endAt_facts {s : GShow} (h : showOk s = true) (x : GState) (n : Nat) :
    m_slices_Sort_int (mustL s x ++ sel (bitOn (n : Int)) (mayL s x) (mayL s x).length) = some (endAt s x n) ∧ m_spec_l14Merge (mustL s x) (sel (bitOn (n : Int)) (mayL s x) (mayL s x).length) = some (endAt s x n) ∧
    Asc (endAt s x n) ∧ (∀ k, k ∈ endAt s x n → k ∈ actL s x) ∧ (endAt s x n).length = (mustL s x).length + (sel (bitOn (n : Int)) (mayL s x) (mayL s x).length).length ∧ (endAt s x n).length ≤ 6 := by
  have h6 := act_six h x
  have hmm := must_may s x
  have hsl := sel_len (bitOn (n : Int)) (mayL s x) (mayL s x).length
  have hasc := sel_asc (p := bitOn (n : Int)) (mayL_asc s x) (mayL s x).length (Nat.le_refl _)
  have hdis : ∀ k, k ∈ mustL s x → k ∈ sel (bitOn (n : Int)) (mayL s x) (mayL s x).length → False := fun k h1 h2 => must_may_d s x k h1 (sel_in h2)
  obtain ⟨m1, m2, m3, m4⟩ := mrg_facts (mustL_asc s x) hasc hdis (by omega)
  refine ⟨m1, l14Merge_eq (mustL_asc s x) hasc hdis (by omega), m2, ?_, m4, by unfold endAt; omega⟩
  intro k hk
  rcases (m3 k).1 hk with h1 | h1
  · exact (List.mem_filter.1 h1).1
  · exact (List.mem_filter.1 (sel_in h1)).1

theorem filter_succ {α : Type} (p : α → Bool) {l : List α} {i : Nat} (hi : i < l.length) : (l.take (i + 1)).filter p = (l.take i).filter p ++ (if p l[i] = true then [l[i]] else []) := by
  rw [List.take_succ_eq_append_getElem hi, List.filter_append]
  cases hp : p l[i] <;> simp [hp]
theorem map_range_succ {α : Type} (f : Nat → α) (n : Nat) : (List.range (n + 1)).map f = (List.range n).map f ++ [f n] := by
  rw [List.range_succ, List.map_append]; rfl

theorem pow_b {m : Nat} (h : m ≤ 7) : 2 ^ m ≤ 128 := by
  have : ∀ m : Nat, m < 8 → 2 ^ m ≤ 128 := by decide
  exact this m (by omega)
theorem shl_eq {m : Nat} (h : m ≤ 7) : IntKind.wrap .i64 (1 * 2 ^ (min m 64)) = ((2 ^ m : Nat) : Int) := by
  have hb := pow_b h
  rw [Nat.min_eq_left (by omega), Int.one_mul]
  have : (2 : Int) ^ m = ((2 ^ m : Nat) : Int) := by simp
  rw [this]
  generalize 2 ^ m = q at *
  exact wr (by omega) (by omega)

theorem act_step {s : GShow} {x : GState} (hx : stateOk s x = true) {i : Nat} (hi : i < (actL s x).length) :
    getI s.ties (actL s x)[i] = some (tieAt s (actL s x)[i]) ∧ getI x.times (tieAt s (actL s x)[i]).from_ = some (tm x.times (tieAt s (actL s x)[i]).from_) ∧
    IntKind.wrap .i64 (x.now - tm x.times (tieAt s (actL s x)[i]).from_) = x.now - tm x.times (tieAt s (actL s x)[i]).from_ := by
  have hR := stateOk_right hx
  have hnow := now_b hx
  have hlen := hR.len
  obtain ⟨j, hj, e, hf, _, _⟩ := act_at (List.getElem_mem hi)
  rw [e, tieAt_lt hj]
  have hT := hR.right.tie _ (List.getElem_mem hj)
  have hb := hR.all _ hT.f0 hT.f1
  refine ⟨getI_lt hj, getI_tm hT.f0 (by have := hT.f1; omega), wr (by omega) (by omega)⟩

theorem endings_eq {s : GShow} {x : GState} (hx : stateOk s x = true) : m_impl_endings s x = some (endsL s x) := by
  have hR := stateOk_right hx
  have hok : showOk s = true := by unfold stateOk at hx; simp only [Bool.and_eq_true] at hx; exact hx.1.1.1.1.1
  have h6 := act_six hok x
  have hmm := must_may s x
  unfold m_impl_endings endsL
  by_cases hh : s.horizon < x.now
  · rw [if_pos hh, if_pos hh]
  rw [if_neg hh, if_neg hh, active_eq s x hR]
  simp only [obnd]
  have k1 : loopO (m_impl_endings_L1 (((actL s x).length : Nat) : Int) s.nodes s.ties s.horizon x.now x.times x.values (actL s x)) (((0 : Nat) : Int), ((actL s x).take 0).filter (mustT s x), ((actL s x).take 0).filter (mayT s x)) = some (mustL s x, mayL s x) := by
    refine loopO_to (actL s x).length (fun i => ((i : Int), ((actL s x).take i).filter (mustT s x), ((actL s x).take i).filter (mayT s x))) ?_ ?_
    · intro i hi
      obtain ⟨e1, e2, e3⟩ := act_step hx hi
      have l1 := List.length_filter_le (mustT s x) ((actL s x).take i)
      have l2 := List.length_filter_le (mayT s x) ((actL s x).take i)
      rw [List.length_take] at l1 l2
      unfold m_impl_endings_L1
      simp only
      rw [if_pos (by omega), getI_lt hi]
      simp only [obnd]
      rw [e1]
      simp only
      rw [e2]
      simp only
      rw [e3, chk_pos (by omega), chk_pos (by omega), chk_pos (by omega), chk_pos (by omega), wr (x := (i : Int) + 1) (by omega) (by omega), filter_succ (mustT s x) hi, filter_succ (mayT s x) hi]
      by_cases hm : (tieAt s (actL s x)[i]).high ≤ x.now - tm x.times (tieAt s (actL s x)[i]).from_
      · have a1 : mustT s x (actL s x)[i] = true := decide_eq_true hm
        have a2 : mayT s x (actL s x)[i] = false := by unfold mayT; rw [a1]; rfl
        rw [if_pos hm, a1, a2]; simp
      · have a1 : mustT s x (actL s x)[i] = false := decide_eq_false hm
        rw [if_neg hm, a1]
        by_cases hl : (tieAt s (actL s x)[i]).low ≤ x.now - tm x.times (tieAt s (actL s x)[i]).from_
        · have a2 : mayT s x (actL s x)[i] = true := by unfold mayT; rw [a1, decide_eq_true hl]; rfl
          rw [if_pos hl, a2]; simp
        · have a2 : mayT s x (actL s x)[i] = false := by unfold mayT; rw [a1, decide_eq_false hl]; rfl
          rw [if_neg hl, a2]; simp
    · unfold m_impl_endings_L1
      simp only
      rw [if_neg (by omega), List.take_length]; rfl
  simp only [List.take_zero, List.filter_nil, Int.natCast_zero] at k1
  rw [k1]
  simp only
  have hpow := pow_b (m := (mayL s x).length) (by omega)
  have k2 : loopO (m_impl_endings_L2 (mustL s x) (mayL s x)) (((0 : Nat) : Int), (List.range 0).map (endAt s x)) = some ((List.range (2 ^ (mayL s x).length)).map (endAt s x)) := by
    refine loopO_to (2 ^ (mayL s x).length) (fun i => ((i : Int), (List.range i).map (endAt s x))) ?_ ?_
    · intro i hi
      obtain ⟨f1, f2, f3, f4, f5, f6⟩ := endAt_facts hok x i
      have hsl := sel_len (bitOn (i : Int)) (mayL s x) (mayL s x).length
      unfold m_impl_endings_L2
      simp only
      rw [chk_pos (by omega), shl_eq (by omega), if_pos (by omega), members_eq _ _ (by omega)]
      simp only [obnd]
      rw [Concat_ok _ (by simp) (by simp; omega)]
      simp only
      rw [show [mustL s x, sel (bitOn (i : Int)) (mayL s x) (mayL s x).length].flatten = mustL s x ++ sel (bitOn (i : Int)) (mayL s x) (mayL s x).length by simp, f1]
      simp only
      rw [chk_pos (by rw [f5, List.length_append]), chk_pos (by simp; omega), chk_pos (by simp; omega), wr (x := (i : Int) + 1) (by omega) (by omega), map_range_succ]; rfl
    · unfold m_impl_endings_L2
      simp only
      rw [chk_pos (by omega), shl_eq (by omega), if_neg (by omega)]
  simp only [List.range_zero, List.map_nil, Int.natCast_zero] at k2
  rw [k2]

theorem l14Endings_eq {s : GShow} {x : GState} (hx : stateOk s x = true) : m_spec_l14Endings s x = some (mustL s x, mayL s x) := by
  have hR := stateOk_right hx
  have hok : showOk s = true := by unfold stateOk at hx; simp only [Bool.and_eq_true] at hx; exact hx.1.1.1.1.1
  have h6 := act_six hok x
  unfold m_spec_l14Endings
  rw [l13Active_eq s x hR]
  simp only [obnd]
  have k1 : loopO (m_spec_l14Endings_L1 (((actL s x).length : Nat) : Int) s.nodes s.ties s.horizon x.now x.times x.values (actL s x)) (((0 : Nat) : Int), ((actL s x).take 0).filter (mustT s x), ((actL s x).take 0).filter (mayT s x)) = some (mustL s x, mayL s x) := by
    refine loopO_to (actL s x).length (fun i => ((i : Int), ((actL s x).take i).filter (mustT s x), ((actL s x).take i).filter (mayT s x))) ?_ ?_
    · intro i hi
      obtain ⟨e1, e2, e3⟩ := act_step hx hi
      have l1 := List.length_filter_le (mustT s x) ((actL s x).take i)
      have l2 := List.length_filter_le (mayT s x) ((actL s x).take i)
      rw [List.length_take] at l1 l2
      unfold m_spec_l14Endings_L1
      simp only
      rw [if_pos (by omega), getI_lt hi]
      simp only [obnd]
      rw [e1]
      simp only
      rw [e2]
      simp only
      rw [e3, chk_pos (by omega), chk_pos (by omega), chk_pos (by omega), chk_pos (by omega), wr (x := (i : Int) + 1) (by omega) (by omega), filter_succ (mustT s x) hi, filter_succ (mayT s x) hi]
      by_cases hm : (tieAt s (actL s x)[i]).high ≤ x.now - tm x.times (tieAt s (actL s x)[i]).from_
      · have a1 : mustT s x (actL s x)[i] = true := decide_eq_true hm
        have a2 : mayT s x (actL s x)[i] = false := by unfold mayT; rw [a1]; rfl
        rw [if_pos hm, a1, a2]; simp
      · have a1 : mustT s x (actL s x)[i] = false := decide_eq_false hm
        rw [if_neg hm, a1]
        by_cases hl : (tieAt s (actL s x)[i]).low ≤ x.now - tm x.times (tieAt s (actL s x)[i]).from_
        · have a2 : mayT s x (actL s x)[i] = true := by unfold mayT; rw [a1, decide_eq_true hl]; rfl
          rw [if_pos hl, a2]; simp
        · have a2 : mayT s x (actL s x)[i] = false := by unfold mayT; rw [a1, decide_eq_false hl]; rfl
          rw [if_neg hl, a2]; simp
    · unfold m_spec_l14Endings_L1
      simp only
      rw [if_neg (by omega), List.take_length]; rfl
  simp only [List.take_zero, List.filter_nil, Int.natCast_zero] at k1
  rw [k1]

theorem EndingsOf_eq {s : GShow} {x : GState} (hs : SmallS s) (hx : stateOk s x = true) (h1 : x.times.length ≤ 1048576) (h2 : x.values.length ≤ 1048576) : m_spec_EndingsOf s x = some (endsL s x) := by
  have hR := stateOk_right hx
  have hok : showOk s = true := by unfold stateOk at hx; simp only [Bool.and_eq_true] at hx; exact hx.1.1.1.1.1
  have h6 := act_six hok x
  have hmm := must_may s x
  unfold m_spec_EndingsOf endsL
  rw [StateOk_spec s x hs h1 h2, hx]
  simp only [obnd, if_true]
  by_cases hh : s.horizon < x.now
  · rw [if_pos hh, if_pos hh]
  rw [if_neg hh, if_neg hh, l14Endings_eq hx]
  simp only
  have hpow := pow_b (m := (mayL s x).length) (by omega)
  have k2 : loopO (m_spec_EndingsOf_L1 (mustL s x) (mayL s x)) (((0 : Nat) : Int), (List.range 0).map (endAt s x)) = some ((List.range (2 ^ (mayL s x).length)).map (endAt s x)) := by
    refine loopO_to (2 ^ (mayL s x).length) (fun i => ((i : Int), (List.range i).map (endAt s x))) ?_ ?_
    · intro i hi
      obtain ⟨f1, f2, f3, f4, f5, f6⟩ := endAt_facts hok x i
      unfold m_spec_EndingsOf_L1
      simp only
      rw [wru (by omega), chk_pos (by omega), Int.toNat_natCast, shl_eq (by omega), if_pos (by omega), l14Some_eq _ _ (by omega)]
      simp only [obnd]
      rw [f2]
      simp only
      rw [chk_pos (by simp; omega), chk_pos (by simp; omega), wr (x := (i : Int) + 1) (by omega) (by omega), map_range_succ]; rfl
    · unfold m_spec_EndingsOf_L1
      simp only
      rw [wru (by omega), chk_pos (by omega), Int.toNat_natCast, shl_eq (by omega), if_neg (by omega)]
  simp only [List.range_zero, List.map_nil, Int.natCast_zero] at k2
  rw [k2]

theorem ends_act {s : GShow} {x : GState} (hok : showOk s = true) {ties : List Int} (h : ties ∈ endsL s x) : x.now ≤ s.horizon ∧ ties.length ≤ 6 ∧ (∀ k, k ∈ ties → k ∈ actL s x) := by
  unfold endsL at h
  by_cases hh : s.horizon < x.now
  · rw [if_pos hh] at h; simp at h
  rw [if_neg hh, List.mem_map] at h
  obtain ⟨n, _, rfl⟩ := h
  obtain ⟨f1, f2, f3, f4, f5, f6⟩ := endAt_facts hok x n
  exact ⟨by omega, f6, f4⟩
theorem endsL_len {s : GShow} {x : GState} (hok : showOk s = true) : (endsL s x).length ≤ 128 := by
  unfold endsL
  have h6 := act_six hok x
  have hmm := must_may s x
  have hpow := pow_b (m := (mayL s x).length) (by omega)
  split
  · simp
  · simpa using hpow

/-! ### One of some lists -/
theorem IndexFunc_ints (xs : List (List Int)) (p : List Int → Option Bool) (q : List Int → Bool) (hx : Cnt xs.length) (hp : ∀ x, x ∈ xs → p x = some (q x)) : m_slices_IndexFunc_intS xs p = some (firstI xs q) := by
  unfold m_slices_IndexFunc_intS firstI
  have key := loopO_idx (body := m_slices_IndexFunc_intS_L1 xs p ((xs.length : Nat) : Int)) xs q (fun i => (i : Int)) (rT := .inl ()) (fun i => .inr (i : Int)) ?_ ?_ ?_
  · rw [show (0 : Int) = ((0 : Nat) : Int) from rfl, key]
    simp only [obnd]
    cases xs.findIdx? q <;> rfl
  · intro i hi hq
    unfold m_slices_IndexFunc_intS_L1
    unfold Cnt at hx
    rw [if_pos (by omega), getI_lt hi, wr (x := (i : Int) + 1) (by omega) (by omega)]
    simp only [obnd]
    rw [hp _ (List.getElem_mem hi), hq]; rfl
  · intro i hi hq
    unfold m_slices_IndexFunc_intS_L1
    rw [if_pos (by omega), getI_lt hi]
    simp only [obnd]
    rw [hp _ (List.getElem_mem hi), hq]; rfl
  · unfold m_slices_IndexFunc_intS_L1
    rw [if_neg (by omega)]
theorem has_impl (xs : List (List Int)) (l : List Int) (hx : Cnt xs.length) (hl : Cnt l.length) : m_impl_has xs l = some (decide (l ∈ xs)) := by
  unfold m_impl_has m_slices_ContainsFunc_intS
  rw [IndexFunc_ints xs _ (fun y => decide (l = y)) hx (fun y _ => by unfold m_impl_has_c1; rw [Equal_int l y hl]; rfl)]
  simp only [obnd]
  rw [firstI_any]
  congr 1
  rw [Bool.eq_iff_iff, List.any_eq_true, decide_eq_true_eq]
  simp
theorem l14In_eq (xs : List (List Int)) (l : List Int) (hx : Cnt xs.length) (hx2 : ∀ x, x ∈ xs → Cnt x.length) : m_spec_l14In xs l = some (decide (l ∈ xs)) := by
  unfold m_spec_l14In
  have key : loopO (m_spec_l14In_L1 l xs ((xs.length : Nat) : Int)) ((0 : Nat) : Int) = some (if xs.all (fun x => !decide (x = l)) = true then .inl () else .inr true) := by
    unfold Cnt at hx
    refine loopO_allL xs (fun x => !decide (x = l)) (fun i => (i : Int)) ?_ ?_ ?_
    · intro i hi hq
      rw [Bool.not_eq_true', decide_eq_false_iff_not] at hq
      unfold m_spec_l14In_L1
      rw [if_pos (by omega), getI_lt hi, wr (x := (i : Int) + 1) (by omega) (by omega)]
      simp only [obnd]
      rw [l08Same_eq _ _ (hx2 _ (List.getElem_mem hi))]
      simp only
      rw [if_neg (by rw [decide_eq_false hq]; simp)]; rfl
    · intro i hi hq
      rw [Bool.not_eq_false', decide_eq_true_eq] at hq
      unfold m_spec_l14In_L1
      rw [if_pos (by omega), getI_lt hi]
      simp only [obnd]
      rw [l08Same_eq _ _ (hx2 _ (List.getElem_mem hi))]
      simp only
      rw [if_pos (decide_eq_true hq)]
    · unfold m_spec_l14In_L1
      rw [if_neg (by omega)]
  rw [show (0 : Int) = ((0 : Nat) : Int) from rfl, key]
  have e : decide (l ∈ xs) = !xs.all (fun x => !decide (x = l)) := by
    rw [Bool.eq_iff_iff, decide_eq_true_eq, Bool.not_eq_true', List.all_eq_false]
    simp
  rw [e]
  cases xs.all (fun x => !decide (x = l)) <;> rfl

/-! ### A list with some places set -/
def setAll (f : Int → Int) (v : Int) (ks : List Int) (t : List Int) : List Int := ks.foldl (fun t k => t.set (f k).toNat v) t
theorem setAll_snoc (f : Int → Int) (v : Int) (ks : List Int) (k : Int) (t : List Int) : setAll f v (ks ++ [k]) t = (setAll f v ks t).set (f k).toNat v := by
  unfold setAll; rw [List.foldl_append]; rfl
theorem setAll_len (f : Int → Int) (v : Int) : ∀ (ks t : List Int), (setAll f v ks t).length = t.length
  | [], t => rfl
  | k :: ks, t => by
    show (setAll f v ks (t.set (f k).toNat v)).length = _
    rw [setAll_len f v ks, List.length_set]
theorem tm_set (t : List Int) (j i : Int) (v : Int) (hj : 0 ≤ j) (hj2 : j < t.length) (hi : 0 ≤ i) : tm (t.set j.toNat v) i = if i = j then v else tm t i := by
  unfold tm
  rw [List.getElem?_set]
  by_cases h : i = j
  · subst h
    rw [if_pos rfl, if_pos (by omega), if_pos rfl]; rfl
  · rw [if_neg (by omega), if_neg h]
theorem tm_setAll (f : Int → Int) (v : Int) : ∀ (ks t : List Int) (i : Int), 0 ≤ i → (∀ k, k ∈ ks → 0 ≤ f k ∧ f k < t.length) → tm (setAll f v ks t) i = if i ∈ ks.map f then v else tm t i
  | [], t, i, _, _ => by simp [setAll]
  | k :: ks, t, i, h0, h => by
    have hk := h k (by simp)
    show tm (setAll f v ks (t.set (f k).toNat v)) i = _
    rw [tm_setAll f v ks _ i h0 (fun k' hk' => by rw [List.length_set]; exact h k' (by simp [hk'])), tm_set _ _ _ _ hk.1 hk.2 h0]
    by_cases h1 : i ∈ ks.map f
    · rw [if_pos h1, if_pos (by simp only [List.map_cons, List.mem_cons]; exact .inr h1)]
    · rw [if_neg h1]
      by_cases h2 : i = f k
      · rw [if_pos h2, if_pos (by simp [h2])]
      · rw [if_neg h2, if_neg (by simp only [List.map_cons, List.mem_cons]; rintro (h3 | h3); exact h2 h3; exact h1 h3)]

theorem copyState_eq (x : GState) (h1 : x.times.length ≤ 1048576) (h2 : x.values.length ≤ 1048576) : m_impl_copyState x = some x := by
  unfold m_impl_copyState
  rw [Clone_int_eq _ h1, Clone_int_eq _ h2]; rfl
theorem l13Copy_eq (x : GState) (h1 : x.times.length ≤ 1048576) (h2 : x.values.length ≤ 1048576) : m_spec_l13Copy x = some x := by
  unfold m_spec_l13Copy
  rw [chk_pos (by omega), chk_pos (by omega), chk_pos (by omega), chk_pos (by omega)]

/-! ### Behind endings -/
def endX (s : GShow) (x : GState) (ties : List Int) : GState := ⟨x.now, setAll (fun k => (tieAt s k).to) x.now ties x.times, x.values⟩
theorem ended_step {s : GShow} {x : GState} (hx : stateOk s x = true) {ties : List Int} (ht : ∀ k, k ∈ ties → k ∈ actL s x) {i : Nat} (hi : i < ties.length) :
    getI s.ties ties[i] = some (tieAt s ties[i]) ∧ 0 ≤ (tieAt s ties[i]).to ∧ (tieAt s ties[i]).to < x.times.length := by
  have hR := stateOk_right hx
  have hlen := hR.len
  obtain ⟨j, hj, e, _, _, _⟩ := act_at (ht _ (List.getElem_mem hi))
  rw [e, tieAt_lt hj]
  have hT := hR.right.tie _ (List.getElem_mem hj)
  exact ⟨getI_lt hj, hT.t0, by have := hT.t1; omega⟩
theorem ended_eq {s : GShow} {x : GState} (hx : stateOk s x = true) (h2 : x.values.length ≤ 1048576) {ties : List Int} (hl : ties.length ≤ 1000) (ht : ∀ k, k ∈ ties → k ∈ actL s x) : m_impl_ended s x ties = some (endX s x ties) := by
  have hR := stateOk_right hx
  have hlen := hR.len
  have hn := hR.right.nodes
  unfold m_impl_ended
  rw [copyState_eq x (by omega) h2]
  simp only [obnd]
  have key : loopO (m_impl_ended_L1 ties ((ties.length : Nat) : Int) s.nodes s.ties s.horizon x.now x.times x.values x.now x.values) (((0 : Nat) : Int), setAll (fun k => (tieAt s k).to) x.now (ties.take 0) x.times) = some (setAll (fun k => (tieAt s k).to) x.now ties x.times) := by
    refine loopO_to ties.length (fun i => ((i : Int), setAll (fun k => (tieAt s k).to) x.now (ties.take i) x.times)) ?_ ?_
    · intro i hi
      obtain ⟨e1, e2, e3⟩ := ended_step hx ht hi
      unfold m_impl_ended_L1
      simp only
      rw [if_pos (by omega), getI_lt hi]
      simp only [obnd]
      rw [e1]
      simp only
      rw [getI_tm e2 (by rw [setAll_len]; exact e3)]
      simp only
      rw [wr (x := (i : Int) + 1) (by omega) (by omega), List.take_succ_eq_append_getElem hi, setAll_snoc]; rfl
    · unfold m_impl_ended_L1
      simp only
      rw [if_neg (by omega), List.take_length]
  rw [List.take_zero] at key
  change obnd (loopO _ (((0 : Nat) : Int), setAll (fun k => (tieAt s k).to) x.now [] x.times)) _ = _
  rw [key]; rfl
theorem l14End_eq {s : GShow} {x : GState} (hx : stateOk s x = true) (h2 : x.values.length ≤ 1048576) {ties : List Int} (hl : ties.length ≤ 1000) (ht : ∀ k, k ∈ ties → k ∈ actL s x) : m_spec_l14End s x ties = some (endX s x ties) := by
  have hR := stateOk_right hx
  have hlen := hR.len
  have hn := hR.right.nodes
  unfold m_spec_l14End
  rw [l13Copy_eq x (by omega) h2]
  simp only [obnd]
  have key : loopO (m_spec_l14End_L1 ties ((ties.length : Nat) : Int) s.nodes s.ties s.horizon x.now x.times x.values x.now x.values) (((0 : Nat) : Int), setAll (fun k => (tieAt s k).to) x.now (ties.take 0) x.times) = some (setAll (fun k => (tieAt s k).to) x.now ties x.times) := by
    refine loopO_to ties.length (fun i => ((i : Int), setAll (fun k => (tieAt s k).to) x.now (ties.take i) x.times)) ?_ ?_
    · intro i hi
      obtain ⟨e1, e2, e3⟩ := ended_step hx ht hi
      unfold m_spec_l14End_L1
      simp only
      rw [if_pos (by omega), getI_lt hi]
      simp only [obnd]
      rw [e1]
      simp only
      rw [getI_tm e2 (by rw [setAll_len]; exact e3)]
      simp only
      rw [wr (x := (i : Int) + 1) (by omega) (by omega), List.take_succ_eq_append_getElem hi, setAll_snoc]; rfl
    · unfold m_spec_l14End_L1
      simp only
      rw [if_neg (by omega), List.take_length]
  rw [List.take_zero] at key
  change obnd (loopO _ (((0 : Nat) : Int), setAll (fun k => (tieAt s k).to) x.now [] x.times)) _ = _
  rw [key]; rfl

/-- A state within a tick: it would be right at the next. -/
def nextX (x : GState) : GState := ⟨x.now + 1, x.times, x.values⟩
def momOk (s : GShow) (x : GState) : Bool := decide (0 ≤ x.now ∧ x.now ≤ s.horizon) && stateOk s (nextX x)

theorem endX_tm {s : GShow} {x : GState} (hx : stateOk s x = true) {ties : List Int} (ht : ∀ k, k ∈ ties → k ∈ actL s x) {i : Int} (hi : 0 ≤ i) :
    tm (endX s x ties).times i = if i ∈ ties.map (fun k => (tieAt s k).to) then x.now else tm x.times i := by
  unfold endX
  refine tm_setAll _ _ _ _ _ hi ?_
  intro k hk
  obtain ⟨j, hj, rfl⟩ := List.getElem_of_mem hk
  exact (ended_step hx ht hj).2
theorem watch_zero {s : GShow} {x : GState} (hok : showOk s = true) {ties : List Int} (ht : ∀ k, k ∈ ties → k ∈ actL s x) {i : Int} (h : i ∈ ties.map (fun k => (tieAt s k).to)) : i ≠ 0 ∧ ∀ b, s.nodes[i.toNat]? = some b → b.watch = 0 := by
  rw [List.mem_map] at h
  obtain ⟨k, hk, rfl⟩ := h
  obtain ⟨j, hj, rfl, hf, _, _⟩ := act_at (ht _ hk)
  rw [tieAt_lt hj]
  have := showOk_free hok hj hf
  exact ⟨this.t0, this.watch⟩

theorem endX_mom {s : GShow} {x : GState} (hx : stateOk s x = true) (hh : x.now ≤ s.horizon) {ties : List Int} (ht : ∀ k, k ∈ ties → k ∈ actL s x) : momOk s (endX s x ties) = true := by
  have hnow := now_b hx
  have hx0 := hx
  have hl : (endX s x ties).times.length = x.times.length := setAll_len _ _ _ _
  unfold stateOk at hx
  simp only [Bool.and_eq_true, decide_eq_true_eq] at hx
  obtain ⟨⟨⟨⟨⟨h1, h2⟩, h3⟩, h4⟩, h5⟩, h6⟩ := hx
  unfold momOk stateOk
  simp only [Bool.and_eq_true, decide_eq_true_eq]
  refine ⟨⟨h2.1, hh⟩, ⟨⟨⟨⟨h1, ?_⟩, ?_⟩, h4⟩, ?_⟩, ?_⟩
  · show 0 ≤ x.now + 1 ∧ x.now + 1 ≤ s.horizon + 1
    omega
  · exact hl.trans h3
  · intro i hi
    have hi' : i < x.times.length := by rw [← hl]; exact hi
    have h5i := h5 i hi'
    unfold timeP at h5i ⊢
    have e := endX_tm hx0 ht (i := (i : Int)) (by omega)
    show (if i = 0 then decide (tm (endX s x ties).times 0 = 0) else decide (-1 ≤ tm (endX s x ties).times i ∧ tm (endX s x ties).times i ≤ x.now + 1 - 1)) = true
    by_cases hi0 : i = 0
    · rw [if_pos hi0] at h5i ⊢
      subst hi0
      rw [show ((0 : Nat) : Int) = 0 from rfl] at e
      rw [e, if_neg (fun h => (watch_zero h1 ht h).1 rfl)]
      exact h5i
    · rw [if_neg hi0] at h5i ⊢
      rw [decide_eq_true_eq] at h5i ⊢
      rw [e]
      split
      · omega
      · omega
  · intro i hi
    have h6i := h6 i hi
    unfold watchP at h6i ⊢
    show (decide (tm x.values i ≠ 0) == (decide (0 ≤ firstI s.nodes (fun n => decide (n.watch = (i : Int) + 1))) && decide (tm (endX s x ties).times (firstI s.nodes (fun n => decide (n.watch = (i : Int) + 1))) ≠ -1))) = true
    by_cases hw : 0 ≤ firstI s.nodes (fun n => decide (n.watch = (i : Int) + 1))
    · obtain ⟨j, hj, e, hq, _⟩ := firstI_lt hw
      rw [endX_tm hx0 ht hw, if_neg ?_]
      · exact h6i
      · intro hm
        have := (watch_zero h1 ht hm).2 s.nodes[j] (by rw [e, Int.toNat_natCast, List.getElem?_eq_getElem hj])
        rw [decide_eq_true_eq] at hq
        omega
    · rw [decide_eq_false hw] at h6i ⊢
      simpa using h6i
end Go.Proofs.YteijmljgodikiaaGreatZ
