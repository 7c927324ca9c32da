/- FnSkewed. Own work. -/
import Derived.Test.YtgmiaokdnpaglaaYP16
set_option linter.all false
set_option linter.unusedVariables false
set_option linter.unusedSimpArgs false
set_option maxRecDepth 100000
namespace Go.Proofs.YtgmiaokdnpaglaaY
open Go

/-! ### The cursor -/
structure Cur (c : GL01Cur) : Prop where
  i0 : 0 ≤ c.i
  i1 : c.i ≤ (c.b.length : Int)
  b : c.b.length ≤ 1048576

theorem and255 (x : BitVec (IntKind.bits .i64)) : 0 ≤ (((x &&& BitVec.ofInt (IntKind.bits .i64) 255).toNat : Nat) : Int) ∧ (((x &&& BitVec.ofInt (IntKind.bits .i64) 255).toNat : Nat) : Int) ≤ 255 := by
  have h : (x &&& BitVec.ofInt (IntKind.bits .i64) 255).toNat ≤ (BitVec.ofInt (IntKind.bits .i64) 255).toNat := by
    rw [BitVec.toNat_and]; exact Nat.and_le_right
  have e : (BitVec.ofInt (IntKind.bits .i64) 255).toNat = 255 := by decide
  omega

theorem l01Byte_ok {c : GL01Cur} (h : Cur c) : ∃ r, m_spec_l01Byte c = some r ∧ 0 ≤ r.1 ∧ r.1 ≤ 255 ∧ Cur r.2 := by
  have h0 := h.i0
  have h1 := h.i1
  have h2 := h.b
  unfold m_spec_l01Byte
  by_cases hl : c.i < ((c.b.length : Nat) : Int)
  · rw [if_pos hl]
    have e : getI c.b c.i = some (c.b[c.i.toNat]'(by omega)) := by unfold getI; rw [if_pos h0, List.getElem?_eq_getElem (by omega)]
    rw [e]
    simp only [obnd]
    refine ⟨_, rfl, ?_⟩
    simp only
    generalize (BitVec.ofInt (IntKind.bits .i64) (IntKind.wrap .i64 _)) = x
    have hx := and255 x
    rw [wr (x := (((x &&& BitVec.ofInt (IntKind.bits .i64) 255).toNat : Nat) : Int)) (by omega) (by omega)]
    refine ⟨hx.1, hx.2, ?_, ?_, ?_⟩
    · simp only; rw [wr (x := c.i + 1) (by omega) (by omega)]; omega
    · simp only; rw [wr (x := c.i + 1) (by omega) (by omega)]; omega
    · exact h2
  · rw [if_neg hl]
    refine ⟨_, rfl, ?_⟩
    simp only
    generalize (BitVec.ofInt (IntKind.bits .i64) (IntKind.wrap .i64 _)) = x
    have hx := and255 x
    rw [wr (x := (((x &&& BitVec.ofInt (IntKind.bits .i64) 255).toNat : Nat) : Int)) (by omega) (by omega)]
    exact ⟨hx.1, hx.2, h0, h1, h2⟩

theorem l01Below_ok {c : GL01Cur} (h : Cur c) (n : Int) (hn : n ≤ 256) : ∃ r, m_spec_l01Below c n = some r ∧ 0 ≤ r.1 ∧ (0 < n → r.1 < n) ∧ Cur r.2 := by
  unfold m_spec_l01Below
  by_cases h0 : n ≤ 0
  · rw [if_pos h0]
    exact ⟨_, rfl, Int.le_refl _, fun h => by omega, h⟩
  · rw [if_neg h0, if_pos hn]
    obtain ⟨r, e, a, b, hc⟩ := l01Byte_ok h
    rw [e]
    simp only [obnd]
    rw [chk_pos (by omega)]
    refine ⟨_, rfl, ?_, ?_, hc⟩
    · exact Int.tmod_nonneg _ a
    · intro _; exact Int.tmod_lt_of_pos _ (by omega)

theorem l01Once_ok {c : GL01Cur} (h : Cur c) (n : Int) (hn : n ≤ 256) : ∃ r, m_spec_l01Once c n = some r ∧ Cur r.2 := by
  unfold m_spec_l01Once
  obtain ⟨r, e, _, _, hc⟩ := l01Below_ok h n hn
  rw [e]
  exact ⟨_, rfl, hc⟩

theorem l01New_ok (code : List Int) (h : code.length ≤ 1048576) : ∃ r, m_spec_l01New code = some r ∧ Cur r := by
  unfold m_spec_l01New
  have key : ∃ r, loopO (m_spec_l01New_L1 code) (IntKind.wrap .i64 (1974 + ((code.length : Nat) : Int)), 0) = some r ∧ True := by
    refine loopO_inv code.length (fun i s => s.2 = (i : Int)) (fun _ => True) rfl ?_ ?_
    · rintro i ⟨v, j⟩ hi rfl
      unfold m_spec_l01New_L1
      simp only
      rw [if_pos (by omega)]
      by_cases h4 : (i : Int) < 4000
      · rw [if_pos h4, getI_lt hi]
        refine .inl ⟨_, rfl, ?_⟩
        simp only
        rw [wr (by omega) (by omega)]; omega
      · rw [if_neg h4]
        exact .inr ⟨_, rfl, trivial⟩
    · rintro ⟨v, j⟩ rfl
      unfold m_spec_l01New_L1
      simp only
      rw [if_neg (by omega)]
      exact ⟨_, rfl, trivial⟩
  obtain ⟨r, e, _⟩ := key
  rw [e]
  exact ⟨_, rfl, Int.le_refl _, by simp, h⟩

theorem l29New_ok (code : List Int) (n : Int) (h : code.length ≤ 1048576) (h0 : 0 ≤ n) (h1 : n ≤ 1000000) : ∃ r, m_spec_l29New code n = some r ∧ Cur r := by
  unfold m_spec_l29New
  obtain ⟨c, e, hc⟩ := l01New_ok code h
  rw [e]
  simp only [obnd]
  have key : ∃ r, loopO (m_spec_l29New_L1 n) (0, c.b, c.i, c.h) = some r ∧ Cur ⟨r.1, r.2.1, r.2.2⟩ := by
    refine loopO_inv n.toNat (fun i s => s.1 = (i : Int) ∧ Cur ⟨s.2.1, s.2.2.1, s.2.2.2⟩) _ ⟨rfl, hc⟩ ?_ ?_
    · rintro i ⟨j, b, k, d⟩ hi ⟨rfl, hI⟩
      unfold m_spec_l29New_L1
      simp only at hI ⊢
      rw [if_pos (by omega)]
      obtain ⟨r, e, _, _, hr⟩ := l01Byte_ok hI
      rw [e]
      refine .inl ⟨_, rfl, ?_, hr⟩
      simp only
      rw [wr (by omega) (by omega)]; omega
    · rintro ⟨j, b, k, d⟩ ⟨rfl, hI⟩
      unfold m_spec_l29New_L1
      simp only at hI ⊢
      rw [if_neg (by omega)]
      exact ⟨_, rfl, hI⟩
  obtain ⟨r, e, hr⟩ := key
  rw [e]
  exact ⟨_, rfl, hr⟩

theorem MakeNum_ok (code : List Int) (n : Int) (h : code.length ≤ 1048576) (h0 : 0 ≤ n) (h1 : n ≤ 1000000) : ∃ r, m_spec_MakeNum code n = some r := by
  unfold m_spec_MakeNum
  obtain ⟨c, e, hc⟩ := l29New_ok code n h h0 h1
  rw [e]
  simp only [obnd]
  obtain ⟨r, e, _, _, hr⟩ := l01Byte_ok hc
  rw [e]
  simp only
  obtain ⟨r, e, _, _, hr⟩ := l01Byte_ok hr
  rw [e]
  exact ⟨_, rfl⟩

theorem MakeTimes_ok (code : List Int) (a : Int) (n : Nat) (h : code.length ≤ 1048576) (h0 : 0 ≤ a) (h1 : a ≤ 1000000) (hn : 1 ≤ n) (hn2 : n ≤ 1000) :
    ∃ t, m_spec_MakeTimes code a (n : Int) = some t ∧ t.length = n ∧ ∀ x, x ∈ t → 0 ≤ x ∧ x ≤ 5 := by
  unfold m_spec_MakeTimes
  obtain ⟨c, e, hc⟩ := l29New_ok code a h h0 h1
  rw [e]
  simp only [obnd]
  have key : ∃ t, loopO (m_spec_MakeTimes_L1 (n : Int)) (c.b, c.i, c.h, [0]) = some t ∧ t.length = n ∧ ∀ x, x ∈ t → 0 ≤ x ∧ x ≤ 5 := by
    refine loopO_inv (n - 1) (fun i s => Cur ⟨s.1, s.2.1, s.2.2.1⟩ ∧ s.2.2.2.length = i + 1 ∧ ∀ x, x ∈ s.2.2.2 → 0 ≤ x ∧ x ≤ 5) _ ⟨hc, rfl, ?_⟩ ?_ ?_
    · intro x hx
      rw [List.mem_singleton.1 hx]; omega
    · rintro i ⟨b, k, d, t⟩ hi ⟨hI, hl, ha⟩
      unfold m_spec_MakeTimes_L1
      simp only at hI hl ha ⊢
      rw [if_pos (by omega)]
      obtain ⟨r, e, r0, r1, hr⟩ := l01Below_ok hI 6 (by omega)
      rw [e]
      simp only [obnd]
      rw [chk_pos (by omega), chk_pos (by omega)]
      refine .inl ⟨_, rfl, hr, ?_, ?_⟩
      · simp only [List.length_append, List.length_cons, List.length_nil]; omega
      · intro x hx
        simp only [List.mem_append, List.mem_singleton] at hx
        rcases hx with hx | rfl
        · exact ha x hx
        · have := r1 (by omega); omega
    · rintro ⟨b, k, d, t⟩ ⟨hI, hl, ha⟩
      unfold m_spec_MakeTimes_L1
      simp only at hI hl ha ⊢
      rw [if_neg (by omega)]
      exact ⟨_, rfl, by omega, ha⟩
  obtain ⟨t, e, hr⟩ := key
  rw [e]
  exact ⟨_, rfl, hr⟩

/-! ### The show of a code -/
def names8 : List ByteArray := [(ByteArray.mk #[103, 111]), (ByteArray.mk #[97]), (ByteArray.mk #[98]), (ByteArray.mk #[99]), (ByteArray.mk #[100]), (ByteArray.mk #[101]), (ByteArray.mk #[102]), (ByteArray.mk #[103])]
def plN (k : Nat) : GNode := ⟨names8.getD k (ByteArray.mk #[]), [], 0⟩
theorem l08Name_ok (k : Nat) (h : k < 8) : m_spec_l08Name (k : Int) = some (plN k).name := by
  unfold m_spec_l08Name
  show obnd (getI names8 (k : Int)) _ = _
  have h' : k < names8.length := h
  rw [getI_lt h']
  show some names8[k] = some (names8.getD k (ByteArray.mk #[]))
  rw [List.getD_eq_getElem?_getD, List.getElem?_eq_getElem h']; rfl

structure TieG (n : Nat) (t : GTie) : Prop where
  f0 : 0 ≤ t.from_
  f1 : t.from_ < n
  t0 : 0 ≤ t.to
  t1 : t.to < n
  ne : t.from_ ≠ t.to
  lo : -20 ≤ t.low
  hi : t.high ≤ 20
  lh : t.low ≤ t.high
  fr : t.free = true → 1 ≤ t.low ∧ t.to ≠ 0
theorem TieG.mono {n m : Nat} {t : GTie} (h : TieG n t) (hm : n ≤ m) : TieG m t := ⟨h.f0, by have := h.f1; omega, h.t0, by have := h.t1; omega, h.ne, h.lo, h.hi, h.lh, h.fr⟩
def Apart (l : List GTie) : Prop := l.Pairwise (fun u t => u.free = true → t.free = true → u.to ≠ t.to)
theorem Apart.snoc {l : List GTie} {t : GTie} (h : Apart l) (ht : ∀ u, u ∈ l → u.free = true → t.free = true → u.to ≠ t.to) : Apart (l ++ [t]) := by
  unfold Apart
  rw [List.pairwise_append]
  refine ⟨h, List.pairwise_singleton _ _, ?_⟩
  intro a ha b hb
  rw [List.mem_singleton.1 hb]
  exact ht a ha

structure PlI (ns : List GNode) (ts : List GTie) : Prop where
  nd : ns = (List.range ns.length).map plN
  tie : ∀ t, t ∈ ts → TieG ns.length t
  ap : Apart ts
theorem PlI.node {ns : List GNode} {ts : List GTie} (h : PlI ns ts) : PlI (ns ++ [plN ns.length]) ts := by
  refine ⟨?_, ?_, h.ap⟩
  · rw [List.length_append, List.length_singleton, List.range_succ, List.map_append, ← h.nd]; rfl
  · intro t ht
    exact (h.tie t ht).mono (by simp)
theorem PlI.snoc {ns : List GNode} {ts : List GTie} {t : GTie} (h : PlI ns ts) (hg : TieG ns.length t) (ht : ∀ u, u ∈ ts → u.free = true → t.free = true → u.to ≠ t.to) : PlI ns (ts ++ [t]) := by
  refine ⟨h.nd, ?_, h.ap.snoc ht⟩
  intro u hu
  rw [List.mem_append, List.mem_singleton] at hu
  rcases hu with hu | rfl
  · exact h.tie u hu
  · exact hg

theorem nodesA_pl : ∀ n : Nat, n < 8 → 1 ≤ n → nodesA ⟨(List.range n).map plN, [], 0⟩ = true := by decide +kernel

theorem PlI.ok {ns : List GNode} {ts : List GTie} (h : PlI ns ts) (h1 : 1 ≤ ns.length) (h7 : ns.length ≤ 7) (h14 : ts.length ≤ 14) {z : Int} (hz : 1 ≤ z ∧ z ≤ 10) : showOk ⟨ns, ts, z⟩ = true := by
  have hlab : ∀ n, n ∈ ns → n.label = [] ∧ n.watch = 0 := by
    intro n hn
    rw [h.nd, List.mem_map] at hn
    obtain ⟨k, _, rfl⟩ := hn
    exact ⟨rfl, rfl⟩
  have hA : nodesA ⟨ns, ts, z⟩ = true := by
    have := nodesA_pl ns.length (by omega) h1
    rw [← h.nd] at this
    exact this
  unfold showOk
  simp only [Bool.and_eq_true, decide_eq_true_eq]
  refine ⟨⟨⟨⟨hA, ?_⟩, h14⟩, hz⟩, ?_⟩
  · intro i hi
    rw [tieP_lt hi]
    have hi' : i < ts.length := hi
    have hg := h.tie _ (List.getElem_mem hi')
    rw [Bool.and_eq_true]
    constructor
    · unfold tieB
      rw [decide_eq_true_eq]
      exact ⟨⟨hg.f0, hg.f1⟩, ⟨hg.t0, hg.t1⟩, hg.ne, hg.lo, hg.hi, hg.lh⟩
    · unfold tieFree
      show (!(ts[i]).free || (decide (1 ≤ (ts[i]).low ∧ (ts[i]).to ≠ 0) && (match ns[(ts[i]).to.toNat]?, ns[(ts[i]).from_.toNat]? with | some b, some a => decide (b.watch = 0 ∧ b.label = a.label) | _, _ => false) && !(ts.take i).any (fun u => u.free && decide (u.to = (ts[i]).to)))) = true
      cases hf : (ts[i]).free
      · rfl
      · have hb : ns[(ts[i]).to.toNat]? = some (ns[(ts[i]).to.toNat]'(by have := hg.t0; have := hg.t1; omega)) := List.getElem?_eq_getElem _
        have ha : ns[(ts[i]).from_.toNat]? = some (ns[(ts[i]).from_.toNat]'(by have := hg.f0; have := hg.f1; omega)) := List.getElem?_eq_getElem _
        rw [hb, ha]
        have l1 := hlab _ (List.getElem_mem (l := ns) (n := (ts[i]).to.toNat) (by have := hg.t0; have := hg.t1; omega))
        have l2 := hlab _ (List.getElem_mem (l := ns) (n := (ts[i]).from_.toNat) (by have := hg.f0; have := hg.f1; omega))
        simp only [l1.1, l1.2, l2.1, Bool.not_true, Bool.false_or, Bool.and_eq_true, decide_eq_true_eq]
        refine ⟨⟨hg.fr hf, by simp⟩, ?_⟩
        rw [Bool.not_eq_true', List.any_eq_false]
        intro u hu hc
        simp only [Bool.and_eq_true, decide_eq_true_eq] at hc
        obtain ⟨j, hj, rfl⟩ := List.getElem_of_mem hu
        rw [List.length_take] at hj
        rw [List.getElem_take] at hc
        have := (List.pairwise_iff_getElem.1 h.ap) j i (by omega) hi' (by omega) hc.1 hf
        exact this hc.2
  · unfold allWatched
    rw [List.all_eq_true]
    intro n hn
    rw [(hlab n hn).1]; rfl
theorem PlI.fit {ns : List GNode} {ts : List GTie} (h : PlI ns ts) (h7 : ns.length ≤ 7) (h14 : ts.length ≤ 14) (z : Int) : FitS ⟨ns, ts, z⟩ := by
  refine ⟨by show ns.length ≤ _; omega, by show ts.length ≤ _; omega, ?_⟩
  intro n hn
  have hn' : n ∈ ns := hn
  rw [h.nd, List.mem_map] at hn'
  obtain ⟨k, hk, rfl⟩ := hn'
  rw [List.mem_range] at hk
  have hs : ∀ k : Nat, k < 8 → (plN k).name.size ≤ 1048576 := by decide +kernel
  exact ⟨hs k (by omega), by simp [plN]⟩

theorem tmod_one {v m : Int} (h0 : 0 ≤ v) (h1 : v < 2 * m) : Int.tmod v m = if v < m then v else v - m := by
  by_cases h : v < m
  · rw [if_pos h, Int.tmod_eq_of_lt h0 h]
  · rw [if_neg h, Int.tmod_eq_emod_of_nonneg h0]
    have : v % m = (v - m) % m := by rw [Int.sub_emod_right]
    rw [this, Int.emod_eq_of_lt (by omega) (by omega)]

theorem l08More_ok {c : GL01Cur} (hc : Cur c) {s : GShow} (h : PlI s.nodes s.ties) (h2 : 2 ≤ s.nodes.length) (h7 : s.nodes.length ≤ 7) (h12 : s.ties.length ≤ 12) :
    ∃ r, m_spec_l08More c s = some r ∧ r.1.nodes = s.nodes ∧ r.1.horizon = s.horizon ∧ PlI s.nodes r.1.ties ∧ r.1.ties.length ≤ 14 ∧ r.2.2 = s.nodes := by
  unfold m_spec_l08More
  obtain ⟨r1, e, a0, a1, hr1⟩ := l01Below_ok hc 3 (by omega)
  have a1 := a1 (by omega)
  rw [e]
  simp only [obnd]
  have key : ∃ q, loopO (m_spec_l08More_L1 ((s.nodes.length : Nat) : Int) s.horizon s.nodes) (r1.1, r1.2.b, r1.2.i, r1.2.h, s.ties) = some q ∧ PlI s.nodes q.2.2.2 ∧ q.2.2.2.length ≤ 14 := by
    refine loopO_inv r1.1.toNat (fun i st => st.1 = r1.1 - i ∧ Cur ⟨st.2.1, st.2.2.1, st.2.2.2.1⟩ ∧ PlI s.nodes st.2.2.2.2 ∧ st.2.2.2.2.length ≤ 12 + i) _ ⟨by simp, hr1, h, by simpa using h12⟩ ?_ ?_
    · rintro i ⟨k, b, j, d, ts⟩ hi ⟨hk, hcu, hp, hl⟩
      simp only at hk hcu hp hl
      subst hk
      unfold m_spec_l08More_L1
      simp only
      rw [if_pos (by omega)]
      obtain ⟨r10, e, b0, b1, hcu⟩ := l01Below_ok hcu ((s.nodes.length : Nat) : Int) (by omega)
      have b1 := b1 (by omega)
      rw [e]; simp only [obnd]
      obtain ⟨r11, e, d0, d1, hcu⟩ := l01Below_ok hcu 6 (by omega)
      have d1 := d1 (by omega)
      rw [e]; simp only
      rw [wr (x := ((s.nodes.length : Nat) : Int) - 1) (by omega) (by omega)]
      obtain ⟨r12, e, f0, f1, hcu⟩ := l01Below_ok hcu (((s.nodes.length : Nat) : Int) - 1) (by omega)
      have f1 := f1 (by omega)
      rw [e]; simp only
      rw [chk_pos (by omega)]
      obtain ⟨r13, e, g0, g1, hcu⟩ := l01Below_ok hcu 6 (by omega)
      have g1 := g1 (by omega)
      rw [e]; simp only
      rw [chk_pos (by omega), chk_pos (by omega)]
      rw [wr (x := r1.1 - i - 1) (by omega) (by omega), wr (x := r10.1 + 1) (by omega) (by omega), wr (x := r10.1 + 1 + r12.1) (by omega) (by omega), wr (x := r11.1 - 3) (by omega) (by omega), wr (x := r11.1 - 3 + 1) (by omega) (by omega), wr (x := r11.1 - 3 + 1 + r13.1) (by omega) (by omega), tmod_one (by omega) (by omega)]
      refine .inl ⟨_, rfl, ?_, hcu, ?_, ?_⟩
      · simp only; omega
      · refine hp.snoc ?_ ?_
        · refine ⟨b0, b1, ?_, ?_, ?_, ?_, ?_, ?_, fun hx => by cases hx⟩
          · simp only; split <;> omega
          · simp only; split <;> omega
          · simp only; split <;> omega
          · simp only; omega
          · simp only; omega
          · simp only; omega
        · intro u _ _ hx
          cases hx
      · simp only [List.length_append, List.length_singleton]; omega
    · rintro ⟨k, b, j, d, ts⟩ ⟨hk, hcu, hp, hl⟩
      simp only at hk hcu hp hl
      subst hk
      unfold m_spec_l08More_L1
      simp only
      rw [if_neg (by omega)]
      exact ⟨_, rfl, hp, by simp only; omega⟩
  obtain ⟨q, e, hp, hl⟩ := key
  rw [e]
  exact ⟨_, rfl, rfl, rfl, hp, hl, rfl⟩

theorem MakePlain_ok (code : List Int) (h : code.length ≤ 1048576) : ∃ s, m_spec_MakePlain code = some s ∧ showOk s = true ∧ FitS s := by
  unfold m_spec_MakePlain m_spec_l08Plain
  obtain ⟨c, e, hc⟩ := l01New_ok code h
  rw [e]; simp only [obnd]
  obtain ⟨r1, e, a0, a1, hc⟩ := l01Below_ok hc 4 (by omega)
  have a1 := a1 (by omega)
  rw [e]; simp only
  obtain ⟨r2, e, b0, b1, hc⟩ := l01Below_ok hc 3 (by omega)
  have b1 := b1 (by omega)
  rw [e]; simp only
  rw [wr (x := 1 + r2.1) (by omega) (by omega), wr (x := 4 + r1.1) (by omega) (by omega)]
  have key : ∃ q, loopO (m_spec_l08Plain_L1 (4 + r1.1)) (1 + r2.1, [(GNode.mk (ByteArray.mk #[103, 111]) ([]) 0)], r2.2.b, r2.2.i, r2.2.h, []) = some q ∧
      PlI q.1 q.2.2.2.2 ∧ 2 ≤ q.1.length ∧ q.1.length ≤ 7 ∧ q.2.2.2.2.length ≤ 12 ∧ Cur ⟨q.2.1, q.2.2.1, q.2.2.2.1⟩ := by
    refine loopO_inv (1 + r2.1).toNat (fun i st => st.1 = 1 + r2.1 - i ∧ PlI st.2.1 st.2.2.2.2.2 ∧ (st.2.1.length : Int) + 2 * st.1 ≤ 7 ∧ 1 + i ≤ st.2.1.length ∧ st.2.2.2.2.2.length ≤ 2 * i ∧ Cur ⟨st.2.2.1, st.2.2.2.1, st.2.2.2.2.1⟩) _ ?_ ?_ ?_
    · refine ⟨by simp, ⟨rfl, (fun t ht => by cases ht), List.Pairwise.nil⟩, ?_, Nat.le_refl _, Nat.le_refl _, hc⟩
      simp only [List.length_singleton]; omega
    · rintro i ⟨n, ns, b, j, d, ts⟩ hi ⟨hn, hp, h7, hl, ht, hcu⟩
      simp only at hn hp h7 hl ht hcu
      subst hn
      unfold m_spec_l08Plain_L1
      simp only
      rw [if_pos (by omega)]
      obtain ⟨r19, e, d0, d1, hcu⟩ := l01Below_ok hcu 3 (by omega)
      have d1 := d1 (by omega)
      rw [e]; simp only [obnd]
      rw [l08Name_ok ns.length (by omega)]; simp only
      rw [chk_pos (by omega), chk_pos (by omega)]
      obtain ⟨r21, e, f0, f1, hcu⟩ := l01Below_ok hcu ((ns.length : Nat) : Int) (by omega)
      have f1 := f1 (by omega)
      rw [e]; simp only
      obtain ⟨r22, e, g0, g1, hcu⟩ := l01Below_ok hcu 3 (by omega)
      have g1 := g1 (by omega)
      rw [e]; simp only
      rw [chk_pos (by omega), chk_pos (by omega)]
      obtain ⟨r23, e, hcu⟩ := l01Once_ok hcu 2 (by omega)
      rw [e]; simp only
      rw [wr (x := r19.1 + r22.1) (by omega) (by omega), wr (x := 1 + r2.1 - i - 1) (by omega) (by omega), wr (x := ((ns.length : Nat) : Int) + 1) (by omega) (by omega)]
      have hp1 : PlI (ns ++ [plN ns.length]) (ts ++ [GTie.mk r21.1 ((ns.length : Nat) : Int) r19.1 (r19.1 + r22.1) false]) := by
        refine hp.node.snoc ?_ ?_
        · have hL : (ns ++ [plN ns.length]).length = ns.length + 1 := by simp
          refine ⟨f0, ?_, ?_, ?_, ?_, ?_, ?_, ?_, fun hx => by cases hx⟩
          · simp only [hL]; omega
          · simp only; omega
          · simp only [hL]; omega
          · simp only; omega
          · simp only; omega
          · simp only; omega
          · simp only; omega
        · intro u _ _ hx
          cases hx
      have hone : (∃ s', (some (Step.next (1 + r2.1 - (i : Int) - 1, ns ++ ([(GNode.mk (plN ns.length).name ([]) 0)]), r23.2.b, r23.2.i, r23.2.h, ts ++ ([(GTie.mk r21.1 ((ns.length : Nat) : Int) r19.1 (r19.1 + r22.1) false)]))) : Option (Step (Int × (List GNode) × (List Int) × Int × Int × (List GTie)) ((List GNode) × (List Int) × Int × Int × (List GTie)))) = some (.next s') ∧ s'.1 = 1 + r2.1 - ((i + 1 : Nat) : Int) ∧ PlI s'.2.1 s'.2.2.2.2.2 ∧ (s'.2.1.length : Int) + 2 * s'.1 ≤ 7 ∧ 1 + (i + 1) ≤ s'.2.1.length ∧ s'.2.2.2.2.2.length ≤ 2 * (i + 1) ∧ Cur ⟨s'.2.2.1, s'.2.2.2.1, s'.2.2.2.2.1⟩) := by
        refine ⟨_, rfl, ?_, hp1, ?_, ?_, ?_, hcu⟩
        · simp only; omega
        · simp only [List.length_append, List.length_singleton]; omega
        · simp only [List.length_append, List.length_singleton]; omega
        · simp only [List.length_append, List.length_singleton]; omega
      by_cases h23 : r23.1 = true
      · rw [if_pos h23]
        by_cases h5 : ((ns.length : Nat) : Int) + 1 < 5
        · rw [if_pos h5]
          obtain ⟨r24, e, k0, k1, hcu⟩ := l01Below_ok hcu 2 (by omega)
          have k1 := k1 (by omega)
          rw [e]; simp only
          rw [show ((ns.length : Nat) : Int) + 1 = ((ns.length + 1 : Nat) : Int) by omega, l08Name_ok (ns.length + 1) (by omega)]
          simp only
          rw [chk_pos (by simp only [List.length_append, List.length_singleton]; omega), chk_pos (by simp only [List.length_append, List.length_singleton]; omega)]
          obtain ⟨r26, e, m0, m1, hcu⟩ := l01Below_ok hcu 3 (by omega)
          have m1 := m1 (by omega)
          rw [e]; simp only
          rw [chk_pos (by simp only [List.length_append, List.length_singleton]; omega), chk_pos (by simp only [List.length_append, List.length_singleton]; omega)]
          rw [wr (x := 1 + r24.1) (by omega) (by omega), wr (x := 1 + r24.1 + r26.1) (by omega) (by omega)]
          have hL : (ns ++ [plN ns.length]).length = ns.length + 1 := by simp
          have hL2 : ((ns ++ [plN ns.length]) ++ [plN (ns ++ [plN ns.length]).length]).length = ns.length + 2 := by simp
          have hp2 : PlI ((ns ++ [plN ns.length]) ++ [plN (ns ++ [plN ns.length]).length]) ((ts ++ [GTie.mk r21.1 ((ns.length : Nat) : Int) r19.1 (r19.1 + r22.1) false]) ++ [GTie.mk ((ns.length : Nat) : Int) ((ns.length + 1 : Nat) : Int) (1 + r24.1) (1 + r24.1 + r26.1) true]) := by
            refine hp1.node.snoc ?_ ?_
            · refine ⟨?_, ?_, ?_, ?_, ?_, ?_, ?_, ?_, fun _ => ⟨?_, ?_⟩⟩
              · simp only; omega
              · simp only [hL2]; omega
              · simp only; omega
              · simp only [hL2]; omega
              · simp only; omega
              · simp only; omega
              · simp only; omega
              · simp only; omega
              · simp only; omega
              · simp only; omega
            · intro u hu _ _
              have := (hp1.tie u hu).t1
              rw [hL] at this
              simp only; omega
          rw [hL] at hp2
          refine .inl ⟨_, rfl, ?_, hp2, ?_, ?_, ?_, hcu⟩
          · simp only; omega
          · simp only [List.length_append, List.length_singleton]; omega
          · simp only [List.length_append, List.length_singleton]; omega
          · simp only [List.length_append, List.length_singleton]; omega
        · rw [if_neg h5]
          exact .inl hone
      · rw [if_neg h23]
        exact .inl hone
    · rintro ⟨n, ns, b, j, d, ts⟩ ⟨hn, hp, h7, hl, ht, hcu⟩
      simp only at hn hp h7 hl ht hcu
      subst hn
      unfold m_spec_l08Plain_L1
      simp only
      rw [if_neg (by omega)]
      refine ⟨_, rfl, hp, ?_, ?_, ?_, hcu⟩
      · simp only; omega
      · simp only; omega
      · simp only; omega
  obtain ⟨q, e, hp, h2, h7, h12, hcu⟩ := key
  rw [e]; simp only
  obtain ⟨r28, e, n1, z1, p1, l1, x1⟩ := l08More_ok (s := GShow.mk q.1 q.2.2.2.2 (4 + r1.1)) hcu hp h2 h7 h12
  rw [e]; simp only
  simp only at n1 z1 p1 x1
  refine ⟨_, rfl, ?_⟩
  rw [x1, z1]
  exact ⟨p1.ok (by omega) h7 l1 (by omega), p1.fit h7 l1 _⟩

/-! ### The law -/
theorem has_eq (l : List Int) (n : Int) (hl : l.length ≤ 1048576) : m_laws_has l n = some (decide (n ∈ l)) := by
  unfold m_laws_has
  have key : loopO (m_laws_has_L1 n l ((l.length : Nat) : Int)) ((0 : Nat) : Int) = some (if l.all (fun x => !decide (x = n)) = true then .inl () else .inr true) := by
    refine loopO_allL l (fun x => !decide (x = n)) (fun i => (i : Int)) ?_ ?_ ?_
    · intro i hi hq
      rw [Bool.not_eq_true', decide_eq_false_iff_not] at hq
      unfold m_laws_has_L1
      rw [if_pos (by omega), getI_lt hi, wr (x := (i : Int) + 1) (by omega) (by omega)]
      simp only [obnd]
      rw [if_neg hq]; rfl
    · intro i hi hq
      rw [Bool.not_eq_false', decide_eq_true_eq] at hq
      unfold m_laws_has_L1
      rw [if_pos (by omega), getI_lt hi]
      simp only [obnd]
      rw [if_pos hq]
    · unfold m_laws_has_L1
      rw [if_neg (by omega)]
  rw [show (0 : Int) = ((0 : Nat) : Int) from rfl, key]
  have e : decide (n ∈ l) = !l.all (fun x => !decide (x = n)) := by
    rw [Bool.eq_iff_iff, decide_eq_true_eq, Bool.not_eq_true', List.all_eq_false]
    simp
  rw [e]
  cases l.all (fun x => !decide (x = n)) <;> rfl

theorem FreeTie_eq (s : GShow) (k : Int) (hf : FitS s) (h : showOk s = true) : m_impl_FreeTie s k = some (firstI s.ties (fun t => t.free && decide (t.to = k))) := by
  unfold m_impl_FreeTie m_impl_freeTie
  rw [ShowOk_impl s hf.small, h]
  simp only [obnd, if_true]
  rw [IndexFunc_Tie _ _ (fun t => t.free && decide (t.to = k)) hf.small.ties]
  intro t _
  unfold m_impl_freeTie_c1
  cases t.free <;> rfl

theorem Skewed_L1 (code : List Int) (s : GShow) (hc : code.length ≤ 1048576) (hf : FitS s) (h : showOk s = true) : ∃ l, loopO (m_laws_FnSkewed_L1 code s.horizon s.nodes s.ties) (1, []) = some l ∧ l.length ≤ 7 := by
  have hR := showOk_right h
  have n1 := hR.node1
  have n7 := hR.nodes
  refine loopO_inv (s.nodes.length - 1) (fun i st => st.1 = (i : Int) + 1 ∧ st.2.length ≤ i) _ ⟨rfl, Nat.le_refl _⟩ ?_ ?_
  · rintro i ⟨j, l⟩ hi ⟨hj, hl⟩
    simp only at hj hl
    subst hj
    unfold m_laws_FnSkewed_L1
    simp only
    rw [if_pos (by omega), show (GShow.mk s.nodes s.ties s.horizon) = s from rfl, FreeTie_eq s _ hf h]
    simp only [obnd]
    rw [wr (x := (i : Int) + 1 + 1) (by omega) (by omega), wr (x := 40 + ((i : Int) + 1)) (by omega) (by omega), chk_pos (by omega), chk_pos (by omega)]
    have nxt : ∀ x : List Int, x.length ≤ i + 1 → (∃ s' : Int × List Int, (some (Step.next ((i : Int) + 1 + 1, x)) : Option (Step (Int × (List Int)) (List Int))) = some (.next s') ∧ s'.1 = ((i + 1 : Nat) : Int) + 1 ∧ s'.2.length ≤ i + 1) := fun x hx => ⟨_, rfl, by simp only; omega, hx⟩
    have hl1 : (l ++ [(i : Int) + 1]).length ≤ i + 1 := by simp; omega
    generalize hq : (fun t : GTie => t.free && decide (t.to = (i : Int) + 1)) = q
    obtain ⟨m, em⟩ := MakeNum_ok code (40 + ((i : Int) + 1)) hc (by omega) (by omega)
    rw [em]
    simp only
    by_cases h0 : 0 ≤ firstI s.ties q
    · rw [if_pos h0]
      obtain ⟨a, ha, e, _⟩ := firstI_lt h0
      rw [e, getI_lt ha]
      simp only
      rw [has_eq _ _ (by omega)]
      simp only
      by_cases hm : s.ties[a].from_ ∈ l
      · rw [if_pos (decide_eq_true hm)]
        exact .inl (nxt _ hl1)
      · rw [if_neg (by rw [decide_eq_false hm]; simp), if_neg (by omega)]
        exact .inl (nxt _ (by omega))
    · rw [if_neg h0, if_pos (by omega)]
      by_cases h2 : Int.tmod m 2 = 0
      · rw [if_pos h2]
        exact .inl (nxt _ hl1)
      · rw [if_neg h2]
        exact .inl (nxt _ (by omega))
  · rintro ⟨j, l⟩ ⟨hj, hl⟩
    simp only at hj hl
    subst hj
    unfold m_laws_FnSkewed_L1
    simp only
    rw [if_neg (by omega)]
    exact ⟨_, rfl, by omega⟩

theorem shift_tm (l t : List Int) (h : ∀ x, x ∈ t → 0 ≤ x ∧ x ≤ 5) (i : Int) (h0 : 0 ≤ i) (h1 : i < t.length) : tm (shiftL l 1 t) i = tm t i + (if i ∈ l then 1 else 0) := by
  have hb := h _ (tm_mem h0 h1)
  unfold tm at hb ⊢
  unfold shiftL
  rw [List.getElem?_mapIdx, List.getElem?_eq_getElem (by omega)] at *
  simp only [Option.map_some, Option.getD_some] at hb ⊢
  unfold shF
  rw [show ((i.toNat : Nat) : Int) = i by omega]
  by_cases hm : i ∈ l
  · rw [if_pos ⟨by omega, hm⟩, if_pos hm, wr (by omega) (by omega)]
  · rw [if_neg (fun hh => hm hh.2), if_neg hm]; omega
theorem shift_len (l t : List Int) (d : Int) : (shiftL l d t).length = t.length := by simp [shiftL]

theorem places_mono {p q : Nat → Bool} (n : Nat) (h : ∀ i, i < n → p i = true → q i = true) : (places p n).length ≤ (places q n).length := by
  induction n with
  | zero => exact Nat.le_refl _
  | succ n ih =>
    have ih := ih (fun i hi => h i (by omega))
    cases hp : p n
    · rw [places_no hp]
      cases hq : q n
      · rw [places_no hq]; exact ih
      · rw [places_yes hq, List.length_append]; omega
    · rw [places_yes hp, places_yes (h n (by omega) hp), List.length_append, List.length_append]
      simpa using ih
theorem places_nil {p : Nat → Bool} {n : Nat} : (places p n = []) ↔ ∀ i, i < n → p i = false := by
  induction n with
  | zero => exact ⟨fun _ i hi => by omega, fun _ => rfl⟩
  | succ n ih =>
    constructor
    · intro hp i hi
      cases hq : p n
      · rw [places_no hq] at hp
        by_cases h : i = n
        · rw [h]; exact hq
        · exact ih.1 hp i (by omega)
      · rw [places_yes hq] at hp
        simp at hp
    · intro hp
      rw [places_no (hp n (by omega))]
      exact ih.2 (fun i hi => hp i (by omega))

theorem timesOk_of {s : GShow} {t : List Int} (h : showOk s = true) (hl : t.length = s.nodes.length) (ha : ∀ x, x ∈ t → 0 ≤ x ∧ x ≤ 6) : timesOk s t = true := by
  unfold timesOk
  rw [h, decide_eq_true hl, Bool.true_and, Bool.true_and, List.all_eq_true]
  intro x hx
  have := ha x hx
  exact decide_eq_true (by omega)

theorem sk_get (s : GShow) (l : List Int) (i : Nat) (hi : i < s.ties.length) : (skewed s l 1).ties[i]? = some (skF l 1 s.ties[i] i) := by
  unfold skewed
  simp only
  rw [half2_all, List.getElem?_mapIdx, List.getElem?_eq_getElem hi]; rfl
theorem sk_len (s : GShow) (l : List Int) : (skewed s l 1).ties.length = s.ties.length := half2_length _ _ _ (Nat.le_refl _)

theorem skF_eq {t : GTie} {l : List Int} {i : Nat} (h : -20 ≤ t.low ∧ t.low ≤ t.high ∧ t.high ≤ 20) : skF l 1 t i = ⟨t.from_, t.to, t.low + (if apartT l t = true then 1 else 0), t.high - (if apartT l t = true then 1 else 0), t.free⟩ := by
  unfold skF
  by_cases ha : apartT l t = true
  · rw [if_pos ha, if_pos ha, wr (by omega) (by omega), wr (by omega) (by omega)]
  · rw [if_neg ha, if_neg ha, Int.add_zero, Int.sub_zero]

theorem Skewed_law (code : List Int) : m_laws_FnSkewed code = some true := by
  unfold m_laws_FnSkewed
  by_cases hc : 1048576 < ((code.length : Nat) : Int)
  · rw [if_pos hc]
  rw [if_neg hc]
  have hc : code.length ≤ 1048576 := by omega
  obtain ⟨s, e, hok, hf⟩ := MakePlain_ok code hc
  rw [e]; simp only [obnd]
  have hR := showOk_right hok
  have n1 := hR.node1
  have n7 := hR.nodes
  have t14 := hR.ties
  obtain ⟨l, e, hl⟩ := Skewed_L1 code s hc hf hok
  rw [e]; simp only
  rw [SkewShow_impl s l 1 hf (by omega)]; simp only
  obtain ⟨t, e, ht, ha⟩ := MakeTimes_ok code 50 s.nodes.length hc (by omega) (by omega) n1 (by omega)
  rw [e]; simp only
  have hsh := ShiftTimes_impl s t l 1 (by omega) (by omega)
  rw [if_pos ht] at hsh
  have hcnt : Cnt t.length := by unfold Cnt; omega
  rw [hsh, ShowOk_impl s hf.small, hok]
  simp only [if_true, shift_len, decide_true]
  by_cases hx : (skewOf s l 1).2 = true
  · rw [if_pos hx]
    have hxe : skewOf s l 1 = (skewed s l 1, true) ∧ showOk (skewed s l 1) = true := by
      unfold skewOf at hx ⊢
      by_cases h1 : showOk s = true ∧ (0 ≤ (1 : Int) ∧ (1 : Int) ≤ 20) ∧ secOk s l = true
      · rw [if_pos h1] at hx ⊢
        by_cases h2 : s.ties.any (fun t => apartT l t && t.free) = true
        · rw [if_pos h2] at hx; cases hx
        · rw [if_neg h2] at hx ⊢
          by_cases h3 : showOk (skewed s l 1) = true
          · rw [if_pos h3]; exact ⟨rfl, h3⟩
          · rw [if_neg h3] at hx; cases hx
      · rw [if_neg h1] at hx; cases hx
    rw [hxe.1]
    simp only
    have hfx := skewed_fit s l 1 hf
    have tx : timesOk (skewed s l 1) t = true := timesOk_of hxe.2 ht (fun x hx => by have := ha x hx; omega)
    have ts : timesOk s t = true := timesOk_of hok ht (fun x hx => by have := ha x hx; omega)
    rw [BrokenTies_impl _ t hfx.small hcnt, BrokenTies_impl s t hf.small hcnt]
    simp only
    have bx : broken (skewed s l 1) t = places (brokenAt (skewed s l 1) t) s.ties.length := by
      unfold broken; rw [if_pos tx, sk_len]
    have bs : broken s t = places (brokenAt s t) s.ties.length := by
      unfold broken; rw [if_pos ts]
    by_cases hb : 0 < (((broken (skewed s l 1) t).length : Nat) : Int)
    · rw [if_pos hb]
      have : (broken s t).length ≤ (broken (skewed s l 1) t).length := by
        rw [bx, bs]
        refine places_mono _ ?_
        intro i hi hp
        have hT := hR.tie _ (List.getElem_mem hi)
        unfold brokenAt at hp ⊢
        rw [List.getElem?_eq_getElem hi] at hp
        rw [sk_get s l i hi, skF_eq ⟨hT.lo, hT.lh, hT.hi⟩]
        simp only [Option.any_some] at hp ⊢
        unfold brokenT at hp ⊢
        rw [decide_eq_true_eq] at hp ⊢
        simp only
        split <;> omega
      rw [decide_eq_true (by omega)]
    · rw [if_neg hb]
      have hn : ∀ i, i < s.ties.length → brokenAt (skewed s l 1) t i = false := by
        have : broken (skewed s l 1) t = [] := List.eq_nil_of_length_eq_zero (by omega)
        rw [bx] at this
        exact places_nil.1 this
      have fact : ∀ i (hi : i < s.ties.length), s.ties[i].low + (if apartT l s.ties[i] = true then 1 else 0) ≤ tm t s.ties[i].to - tm t s.ties[i].from_ ∧ tm t s.ties[i].to - tm t s.ties[i].from_ ≤ s.ties[i].high - (if apartT l s.ties[i] = true then 1 else 0) := by
        intro i hi
        have hT := hR.tie _ (List.getElem_mem hi)
        have := hn i hi
        unfold brokenAt at this
        rw [sk_get s l i hi, skF_eq ⟨hT.lo, hT.lh, hT.hi⟩] at this
        simp only [Option.any_some] at this
        unfold brokenT at this
        rw [decide_eq_false_iff_not] at this
        simp only at this
        have b1 := ha _ (tm_mem hT.f0 (by have := hT.f1; omega))
        have b2 := ha _ (tm_mem hT.t0 (by have := hT.t1; omega))
        omega
      have key : loopO (m_laws_FnSkewed_L2 ((s.ties.length : Nat) : Int) s.horizon s.nodes s.ties l t (shiftL l 1 t)) ((0 : Nat) : Int) = some (.inl ()) := by
        refine loopO_to s.ties.length (fun i => (i : Int)) ?_ ?_
        · intro i hi
          have hT := hR.tie _ (List.getElem_mem hi)
          have b1 := ha _ (tm_mem hT.f0 (by have := hT.f1; omega))
          have b2 := ha _ (tm_mem hT.t0 (by have := hT.t1; omega))
          have fa := fact i hi
          unfold m_laws_FnSkewed_L2
          rw [if_pos (by omega), show (GShow.mk s.nodes s.ties s.horizon) = s from rfl, MarginOf_impl s t _ hf.small hcnt, wr (x := (i : Int) + 1) (by omega) (by omega)]
          simp only [obnd]
          have em : margin s t (i : Int) = marginT t s.ties[i] := by
            unfold margin
            rw [if_pos ⟨ts, by omega⟩, Int.toNat_natCast, List.getElem?_eq_getElem hi]; rfl
          rw [em]
          have m1 : (if apartT l s.ties[i] = true then 1 else 0) ≤ marginT t s.ties[i] := by
            by_cases hap : apartT l s.ties[i] = true
            · rw [if_pos hap] at fa ⊢
              unfold marginT
              rw [if_neg (by omega), if_pos (by omega)]
              split <;> omega
            · rw [if_neg hap] at fa ⊢
              unfold marginT
              rw [if_neg (by omega), if_pos (by omega)]
              split <;> omega
          rw [if_neg (by split at m1 <;> omega)]
          by_cases h1 : marginT t s.ties[i] < 1
          · rw [if_pos h1, getI_lt hi]
            simp only
            have hap : ¬ apartT l s.ties[i] = true := by
              intro hap
              rw [if_pos hap] at m1
              omega
            by_cases hfr : s.ties[i].free = true
            · rw [if_pos hfr]; rfl
            · rw [if_neg hfr, has_eq _ _ (by omega), has_eq _ _ (by omega)]
              simp only
              have he : decide (s.ties[i].from_ ∈ l) = decide (s.ties[i].to ∈ l) := by
                unfold apartT at hap; simpa using hap
              rw [if_pos he]; rfl
          · rw [if_neg h1]; rfl
        · unfold m_laws_FnSkewed_L2
          rw [if_neg (by omega)]
      rw [show (0 : Int) = ((0 : Nat) : Int) from rfl, key]
      simp only
      rw [BrokenTies_impl s _ hf.small (by rw [shift_len]; exact hcnt)]
      simp only
      have bl : broken s (shiftL l 1 t) = [] := by
        unfold broken
        split
        · refine places_nil.2 ?_
          intro i hi
          have hT := hR.tie _ (List.getElem_mem hi)
          have fa := fact i hi
          unfold brokenAt
          rw [List.getElem?_eq_getElem hi]
          simp only [Option.any_some]
          unfold brokenT
          rw [decide_eq_false_iff_not, shift_tm l t ha _ hT.f0 (by have := hT.f1; omega), shift_tm l t ha _ hT.t0 (by have := hT.t1; omega)]
          unfold apartT at fa
          revert fa
          by_cases p1 : s.ties[i].from_ ∈ l <;> by_cases p2 : s.ties[i].to ∈ l <;> simp only [p1, p2, decide_true, decide_false] <;> intro fa <;> simp at fa ⊢ <;> omega
        · rfl
      rw [bl]
      simp
  · rw [if_neg hx]
end Go.Proofs.YtgmiaokdnpaglaaY
