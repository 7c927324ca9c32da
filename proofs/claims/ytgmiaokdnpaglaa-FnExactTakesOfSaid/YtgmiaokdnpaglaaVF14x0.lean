/- Functions. -/
import Derived.Test.YtgmiaokdnpaglaaVFK1
set_option linter.all false
set_option linter.unusedVariables false
set_option linter.unusedSimpArgs false
set_option maxRecDepth 100000
set_option maxHeartbeats 400000
namespace Go.Proofs.YtgmiaokdnpaglaaV
open Go
/- 63 loop.example/g00827/laws.szState -/
def hi63 : Hint where
  acts := fun _ => []
  draws := fun
    | _ => ⟨[], [], []⟩
theorem hi63a (i : Nat) : hi63.acts i = [] := rfl
theorem hi63v (i : Nat) : hi63.views i = none := rfl
attribute [go_sem] hi63a hi63v Go.Proofs.Try.ntmps63 Go.Proofs.Try.results63
theorem c_laws_szState {a : GState} {left : Int} {res : Int} (h : m_laws_szState a left = some res) : CallOk Go.Proofs.Try.prog 63 [.agg [.lit (.int .i64 a.now), .sl (rowsOf eI a.times), .sl (rowsOf eI a.values)], .lit (.int .i64 left)] [] (.lit (.int .i64 res)) [] := by
  refine callOk_of (ra := []) (md := mdT) hT (hi := hi63) Go.Proofs.Try.func63 rfl rfl (by decide +kernel) (by simp) ?_
  unfold m_laws_szState at h
  obtain ⟨r1001, g1, h⟩ := obnd_some h
  simp -implicitDefEqProofs -dsimp only [go_sem, ↓reduceIte, ↓dreduceIte, reduceCtorEq, Nat.reduceMul, Nat.reduceAdd, Nat.reduceSub, Nat.reduceDiv, Nat.reduceLT, Nat.reduceLeDiff, Nat.reduceEqDiff, Nat.reduceBEq, Int.reduceNeg, Int.reduceLT, Int.reduceLE, Int.reduceEq, Int.reduceToNat]
  refine callW_of (c_laws_szIntS g1) ?_
  rcases ite_some h with ⟨h2, h⟩ | ⟨h2, h⟩
  · cases h
    simp -implicitDefEqProofs -dsimp only [go_sem, ↓reduceIte, ↓dreduceIte, reduceCtorEq, Nat.reduceMul, Nat.reduceAdd, Nat.reduceSub, Nat.reduceDiv, Nat.reduceLT, Nat.reduceLeDiff, Nat.reduceEqDiff, Nat.reduceBEq, Int.reduceNeg, Int.reduceLT, Int.reduceLE, Int.reduceEq, Int.reduceToNat, (eq_true h2)]
  · obtain ⟨r1002, g3, h⟩ := obnd_some h
    simp -implicitDefEqProofs -dsimp only [go_sem, ↓reduceIte, ↓dreduceIte, reduceCtorEq, Nat.reduceMul, Nat.reduceAdd, Nat.reduceSub, Nat.reduceDiv, Nat.reduceLT, Nat.reduceLeDiff, Nat.reduceEqDiff, Nat.reduceBEq, Int.reduceNeg, Int.reduceLT, Int.reduceLE, Int.reduceEq, Int.reduceToNat, (eq_false h2)]
    refine callW_of (c_laws_szIntS g3) ?_
    rcases ite_some h with ⟨h4, h⟩ | ⟨h4, h⟩
    · cases h
      simp -implicitDefEqProofs -dsimp only [go_sem, ↓reduceIte, ↓dreduceIte, reduceCtorEq, Nat.reduceMul, Nat.reduceAdd, Nat.reduceSub, Nat.reduceDiv, Nat.reduceLT, Nat.reduceLeDiff, Nat.reduceEqDiff, Nat.reduceBEq, Int.reduceNeg, Int.reduceLT, Int.reduceLE, Int.reduceEq, Int.reduceToNat, (eq_false h2), (eq_true h4)]
    · cases h
      simp -implicitDefEqProofs -dsimp only [go_sem, ↓reduceIte, ↓dreduceIte, reduceCtorEq, Nat.reduceMul, Nat.reduceAdd, Nat.reduceSub, Nat.reduceDiv, Nat.reduceLT, Nat.reduceLeDiff, Nat.reduceEqDiff, Nat.reduceBEq, Int.reduceNeg, Int.reduceLT, Int.reduceLE, Int.reduceEq, Int.reduceToNat, (eq_false h2), (eq_false h4)]
/- 65 loop.example/g00827/laws.toState -/
def hi65 : Hint where
  acts := fun _ => []
  draws := fun
    | _ => ⟨[], [], []⟩
theorem hi65a (i : Nat) : hi65.acts i = [] := rfl
theorem hi65v (i : Nat) : hi65.views i = none := rfl
attribute [go_sem] hi65a hi65v Go.Proofs.Try.ntmps65 Go.Proofs.Try.results65
theorem c_laws_toState {a : GState} {res : GState} (h : m_laws_toState a = some res) : CallOk Go.Proofs.Try.prog 65 [.agg [.lit (.int .i64 a.now), .sl (rowsOf eI a.times), .sl (rowsOf eI a.values)]] [] (.agg [.lit (.int .i64 res.now), .ref 20000 1 0 res.times.length, .ref 20001 1 0 res.values.length]) [(20000, 1, .row true (rowsOf eI res.times)), (20001, 1, .row true (rowsOf eI res.values))] := by
  refine callOk_of (ra := [.homeCell 128 1, .homeCell 128 2]) (md := mdT) hT (hi := hi65) Go.Proofs.Try.func65 rfl rfl (by decide +kernel) (by simp) ?_
  unfold m_laws_toState at h
  obtain ⟨r1001, g1, h⟩ := obnd_some h
  simp -implicitDefEqProofs -dsimp only [go_sem, ↓reduceIte, ↓dreduceIte, reduceCtorEq, Nat.reduceMul, Nat.reduceAdd, Nat.reduceSub, Nat.reduceDiv, Nat.reduceLT, Nat.reduceLeDiff, Nat.reduceEqDiff, Nat.reduceBEq, Int.reduceNeg, Int.reduceLT, Int.reduceLE, Int.reduceEq, Int.reduceToNat]
  refine callW_of (c_laws_toIntS g1) ?_
  obtain ⟨r1002, g2, h⟩ := obnd_some h
  simp -implicitDefEqProofs -dsimp only [go_sem, ↓reduceIte, ↓dreduceIte, reduceCtorEq, Nat.reduceMul, Nat.reduceAdd, Nat.reduceSub, Nat.reduceDiv, Nat.reduceLT, Nat.reduceLeDiff, Nat.reduceEqDiff, Nat.reduceBEq, Int.reduceNeg, Int.reduceLT, Int.reduceLE, Int.reduceEq, Int.reduceToNat]
  refine callW_of (c_laws_toIntS g2) ?_
  cases h
  simp -implicitDefEqProofs -dsimp only [go_sem, ↓reduceIte, ↓dreduceIte, reduceCtorEq, Nat.reduceMul, Nat.reduceAdd, Nat.reduceSub, Nat.reduceDiv, Nat.reduceLT, Nat.reduceLeDiff, Nat.reduceEqDiff, Nat.reduceBEq, Int.reduceNeg, Int.reduceLT, Int.reduceLE, Int.reduceEq, Int.reduceToNat]
/- 187 loop.example/g00827/spec.ValuesOk -/
def m_spec_ValuesOk_L1_St (v : List Int) (v6 : Int) (v7 : Int) : St := ⟨[(0, .sl (rowsOf eI v)), (5, .sl (rowsOf eI v)), (6, .lit (.int .i64 v6)), (7, .lit (.int .i64 v7))], [], 2⟩
attribute [go_sem] m_spec_ValuesOk_L1_St
def hi187 : Hint where
  acts := fun _ => []
  draws := fun
    | _ => ⟨[], [], []⟩
theorem hi187a (i : Nat) : hi187.acts i = [] := rfl
theorem hi187v (i : Nat) : hi187.views i = none := rfl
attribute [go_sem] hi187a hi187v Go.Proofs.Try.ntmps187 Go.Proofs.Try.results187
theorem c_spec_ValuesOk {v : List Int} {res : Bool} (h : m_spec_ValuesOk v = some res) : CallOk Go.Proofs.Try.prog 187 [.sl (rowsOf eI v)] [] (.lit (.bool res)) [] := by
  refine callOk_of (ra := []) (md := mdT) hT (hi := hi187) Go.Proofs.Try.func187 rfl rfl (by decide +kernel) (by simp) ?_
  unfold m_spec_ValuesOk at h
  obtain ⟨q1003, l1, h⟩ := obnd_some h
  simp -implicitDefEqProofs -dsimp only [go_sem, ↓reduceIte, ↓dreduceIte, reduceCtorEq, Nat.reduceMul, Nat.reduceAdd, Nat.reduceSub, Nat.reduceDiv, Nat.reduceLT, Nat.reduceLeDiff, Nat.reduceEqDiff, Nat.reduceBEq, Int.reduceNeg, Int.reduceLT, Int.reduceLE, Int.reduceEq, Int.reduceToNat]
  refine loopW_loopO (m1 := .mk) (m2 := .mk) [.nf [0, 5, 6, 7] []] (m_spec_ValuesOk_L1_St v ((v.length : Nat) : Int)) l1 ?_ ?_
  · simp -implicitDefEqProofs -dsimp only [go_sem, ↓reduceIte, ↓dreduceIte, reduceCtorEq, Nat.reduceMul, Nat.reduceAdd, Nat.reduceSub, Nat.reduceDiv, Nat.reduceLT, Nat.reduceLeDiff, Nat.reduceEqDiff, Nat.reduceBEq, Int.reduceNeg, Int.reduceLT, Int.reduceLE, Int.reduceEq, Int.reduceToNat]
  · intro nb2 sb2 bb2 b2 gb2
    obtain ⟨v7_1, eb2⟩ : ∃ v, v = sb2 := ⟨_, rfl⟩; subst eb2
    unfold m_spec_ValuesOk_L1 at b2
    try dsimp only at b2
    rcases ite_some b2 with ⟨h3, b2⟩ | ⟨h3, b2⟩
    · obtain ⟨x1001, g4, b2⟩ := obnd_some b2
      obtain ⟨h5, h6, h7⟩ := getI_some g4
      obtain ⟨r1002, g8, b2⟩ := obnd_some b2
      simp -implicitDefEqProofs -dsimp only [go_sem, ↓reduceIte, ↓dreduceIte, reduceCtorEq, Nat.reduceMul, Nat.reduceAdd, Nat.reduceSub, Nat.reduceDiv, Nat.reduceLT, Nat.reduceLeDiff, Nat.reduceEqDiff, Nat.reduceBEq, Int.reduceNeg, Int.reduceLT, Int.reduceLE, Int.reduceEq, Int.reduceToNat, (eq_true h3), h5, h6, h7]
      refine callW_of (c_spec_l01In g8) ?_
      rcases ite_some b2 with ⟨h9, b2⟩ | ⟨h9, b2⟩
      · cases b2
        simp -implicitDefEqProofs -dsimp only [go_sem, ↓reduceIte, ↓dreduceIte, reduceCtorEq, Nat.reduceMul, Nat.reduceAdd, Nat.reduceSub, Nat.reduceDiv, Nat.reduceLT, Nat.reduceLeDiff, Nat.reduceEqDiff, Nat.reduceBEq, Int.reduceNeg, Int.reduceLT, Int.reduceLE, Int.reduceEq, Int.reduceToNat, (eq_true h3), h5, h6, h7, (eq_true h9), (condZ_t h9)]
        refine next_of gb2 ?_
        simp -implicitDefEqProofs -dsimp only [go_sem, ↓reduceIte, ↓dreduceIte, reduceCtorEq, Nat.reduceMul, Nat.reduceAdd, Nat.reduceSub, Nat.reduceDiv, Nat.reduceLT, Nat.reduceLeDiff, Nat.reduceEqDiff, Nat.reduceBEq, Int.reduceNeg, Int.reduceLT, Int.reduceLE, Int.reduceEq, Int.reduceToNat, (eq_true h3), h5, h6, h7, (eq_true h9), (condZ_t h9)]
      · cases b2
        have e10 := done_of gb2
        subst e10
        try dsimp only at h
        cases h
        simp -implicitDefEqProofs -dsimp only [go_sem, ↓reduceIte, ↓dreduceIte, reduceCtorEq, Nat.reduceMul, Nat.reduceAdd, Nat.reduceSub, Nat.reduceDiv, Nat.reduceLT, Nat.reduceLeDiff, Nat.reduceEqDiff, Nat.reduceBEq, Int.reduceNeg, Int.reduceLT, Int.reduceLE, Int.reduceEq, Int.reduceToNat, (eq_true h3), h5, h6, h7, (eq_false h9), (condZ_f h9)]
    · cases b2
      have e11 := done_of gb2
      subst e11
      try dsimp only at h
      cases h
      simp -implicitDefEqProofs -dsimp only [go_sem, ↓reduceIte, ↓dreduceIte, reduceCtorEq, Nat.reduceMul, Nat.reduceAdd, Nat.reduceSub, Nat.reduceDiv, Nat.reduceLT, Nat.reduceLeDiff, Nat.reduceEqDiff, Nat.reduceBEq, Int.reduceNeg, Int.reduceLT, Int.reduceLE, Int.reduceEq, Int.reduceToNat, (eq_false h3)]
/- 136 loop.example/g00827/spec.StateOk -/
def m_spec_StateOk_L1_St (v44 : List Int) (v45 : Int) (s_0 : List GNode) (s_1 : List GTie) (s_2 : Int) (v3_0 : Int) (v3_2 : List Int) (v46 : Int) : St := ⟨[(2, .ptr 128 1 0 0), (3, .ptr 192 1 0 0), (44, .sl (rowsOf eI v44)), (45, .lit (.int .i64 v45)), (46, .lit (.int .i64 v46))], [(128, 1, .var [.sl (rowsOf GNode.encS s_0), .sl (rowsOf GTie.enc s_1), .lit (.int .i64 s_2)]), (192, 1, .var [.lit (.int .i64 v3_0), .sl (rowsOf eI v44), .sl (rowsOf eI v3_2)])], 2⟩
attribute [go_sem] m_spec_StateOk_L1_St
def m_spec_StateOk_L2_St (s_0 : List GNode) (s_1 : List GTie) (s_2 : Int) (v3_0 : Int) (v3_1 : List Int) (v3_2 : List Int) (p : Int) : St := ⟨[(2, .ptr 128 1 0 0), (3, .ptr 192 1 0 0), (7, .lit (.int .i64 p))], [(128, 1, .var [.sl (rowsOf GNode.encS s_0), .sl (rowsOf GTie.enc s_1), .lit (.int .i64 s_2)]), (192, 1, .var [.lit (.int .i64 v3_0), .sl (rowsOf eI v3_1), .sl (rowsOf eI v3_2)])], 2⟩
attribute [go_sem] m_spec_StateOk_L2_St
def hi136 : Hint where
  acts := fun _ => []
  draws := fun
    | 13 => ⟨[⟨0, false, []⟩, ⟨1, false, []⟩, ⟨2, false, []⟩, ⟨3, false, []⟩, ⟨4, false, []⟩, ⟨5, false, []⟩, ⟨6, false, []⟩, ⟨7, false, []⟩, ⟨8, false, []⟩, ⟨9, false, []⟩, ⟨10, false, []⟩, ⟨11, false, []⟩, ⟨12, false, []⟩, ⟨13, false, []⟩, ⟨14, false, []⟩, ⟨15, false, []⟩, ⟨16, false, []⟩, ⟨17, false, []⟩], [[], [0], [], [2], [0, 1, 2, 3], [0, 1, 2, 3, 4], [0, 1, 2, 3, 4, 5], [], [7], [7, 8], [7, 8, 9], [7, 8, 9, 10], [7, 8, 9], [7, 8, 9, 10, 11, 12], [7, 8, 9, 10, 11, 12, 13], [7, 8, 9, 10, 11, 12, 13, 14], [7, 8, 9, 10, 11, 12, 13, 14, 15], [0, 1, 2, 3, 4, 5, 6, 7, 8, 9, 10, 11, 12, 13, 14, 15, 16]], [0, 1, 2, 3, 4, 5, 6, 7, 8, 9, 10, 11, 12, 13, 14, 15, 16, 17]⟩
    | _ => ⟨[], [], []⟩
theorem hi136a (i : Nat) : hi136.acts i = [] := rfl
theorem hi136v (i : Nat) : hi136.views i = none := rfl
attribute [go_sem] hi136a hi136v Go.Proofs.Try.ntmps136 Go.Proofs.Try.results136
@[go_sem] theorem hi136d13 : (hi136.draws 13).order = [⟨0, false, []⟩, ⟨1, false, []⟩, ⟨2, false, []⟩, ⟨3, false, []⟩, ⟨4, false, []⟩, ⟨5, false, []⟩, ⟨6, false, []⟩, ⟨7, false, []⟩, ⟨8, false, []⟩, ⟨9, false, []⟩, ⟨10, false, []⟩, ⟨11, false, []⟩, ⟨12, false, []⟩, ⟨13, false, []⟩, ⟨14, false, []⟩, ⟨15, false, []⟩, ⟨16, false, []⟩, ⟨17, false, []⟩] := rfl
theorem c_spec_StateOk {s : GShow} {v1 : GState} {res : Bool} (h : m_spec_StateOk s v1 = some res) : CallOk Go.Proofs.Try.prog 136 [.agg [.sl (rowsOf GNode.encS s.nodes), .sl (rowsOf GTie.enc s.ties), .lit (.int .i64 s.horizon)], .agg [.lit (.int .i64 v1.now), .sl (rowsOf eI v1.times), .sl (rowsOf eI v1.values)]] [] (.lit (.bool res)) [] := by
  refine callOk_of (ra := []) (md := mdT) hT (hi := hi136) Go.Proofs.Try.func136 rfl rfl (by decide +kernel) (by simp) ?_
  unfold m_spec_StateOk at h
  obtain ⟨r1001, g1, h⟩ := obnd_some h
  simp -implicitDefEqProofs -dsimp only [go_sem, ↓reduceIte, ↓dreduceIte, reduceCtorEq, Nat.reduceMul, Nat.reduceAdd, Nat.reduceSub, Nat.reduceDiv, Nat.reduceLT, Nat.reduceLeDiff, Nat.reduceEqDiff, Nat.reduceBEq, Int.reduceNeg, Int.reduceLT, Int.reduceLE, Int.reduceEq, Int.reduceToNat]
  refine callW_of (c_spec_ShowOk g1) ?_
  rcases ite_some h with ⟨h2, h⟩ | ⟨h2, h⟩
  · obtain ⟨r1002, g3, h⟩ := obnd_some h
    simp -implicitDefEqProofs -dsimp only [go_sem, ↓reduceIte, ↓dreduceIte, reduceCtorEq, Nat.reduceMul, Nat.reduceAdd, Nat.reduceSub, Nat.reduceDiv, Nat.reduceLT, Nat.reduceLeDiff, Nat.reduceEqDiff, Nat.reduceBEq, Int.reduceNeg, Int.reduceLT, Int.reduceLE, Int.reduceEq, Int.reduceToNat, (eq_true h2), (condZ_t h2)]
    refine callW_of (c_spec_l01In g3) ?_
    rcases ite_some h with ⟨h4, h⟩ | ⟨h4, h⟩
    · rcases ite_some h with ⟨h5, h⟩ | ⟨h5, h⟩
      · obtain ⟨x1003, g6, h⟩ := obnd_some h
        obtain ⟨h8, h9⟩ := getI_nat (k := 0) g6
        rcases ite_some h with ⟨h10, h⟩ | ⟨h10, h⟩
        · obtain ⟨r1004, g11, h⟩ := obnd_some h
          simp -implicitDefEqProofs -dsimp only [go_sem, ↓reduceIte, ↓dreduceIte, reduceCtorEq, Nat.reduceMul, Nat.reduceAdd, Nat.reduceSub, Nat.reduceDiv, Nat.reduceLT, Nat.reduceLeDiff, Nat.reduceEqDiff, Nat.reduceBEq, Int.reduceNeg, Int.reduceLT, Int.reduceLE, Int.reduceEq, Int.reduceToNat, (eq_true h2), (condZ_t h2), (eq_true h4), (condZ_t h4), (eq_true h5), h8, h9, (eq_true h10)]
          refine callW_of (c_spec_ValuesOk g11) ?_
          rcases ite_some h with ⟨h12, h⟩ | ⟨h12, h⟩
          · obtain ⟨q1011, l13, h⟩ := obnd_some h
            simp -implicitDefEqProofs -dsimp only [go_sem, ↓reduceIte, ↓dreduceIte, reduceCtorEq, Nat.reduceMul, Nat.reduceAdd, Nat.reduceSub, Nat.reduceDiv, Nat.reduceLT, Nat.reduceLeDiff, Nat.reduceEqDiff, Nat.reduceBEq, Int.reduceNeg, Int.reduceLT, Int.reduceLE, Int.reduceEq, Int.reduceToNat, (eq_true h2), (condZ_t h2), (eq_true h4), (condZ_t h4), (eq_true h5), h8, h9, (eq_true h10), (eq_true h12), (condZ_t h12)]
            refine loopW_loopO (m1 := .mk) (m2 := .mk) [.nf [2, 3, 44, 45, 46] [128, 192]] (m_spec_StateOk_L1_St v1.times ((v1.times.length : Nat) : Int) s.nodes s.ties s.horizon v1.now v1.values) l13 ?_ ?_
            · simp -implicitDefEqProofs -dsimp only [go_sem, ↓reduceIte, ↓dreduceIte, reduceCtorEq, Nat.reduceMul, Nat.reduceAdd, Nat.reduceSub, Nat.reduceDiv, Nat.reduceLT, Nat.reduceLeDiff, Nat.reduceEqDiff, Nat.reduceBEq, Int.reduceNeg, Int.reduceLT, Int.reduceLE, Int.reduceEq, Int.reduceToNat, (eq_true h2), (condZ_t h2), (eq_true h4), (condZ_t h4), (eq_true h5), h8, h9, (eq_true h10), (eq_true h12), (condZ_t h12)]
            · intro nb14 sb14 bb14 b14 gb14
              obtain ⟨v46_1, eb14⟩ : ∃ v, v = sb14 := ⟨_, rfl⟩; subst eb14
              unfold m_spec_StateOk_L1 at b14
              try dsimp only at b14
              rcases ite_some b14 with ⟨h15, b14⟩ | ⟨h15, b14⟩
              · obtain ⟨x1005, g16, b14⟩ := obnd_some b14
                obtain ⟨h17, h18, h19⟩ := getI_some g16
                rcases ite_some b14 with ⟨h20, b14⟩ | ⟨h20, b14⟩
                · obtain ⟨r1006, g21, b14⟩ := obnd_some b14
                  simp -implicitDefEqProofs -dsimp only [go_sem, ↓reduceIte, ↓dreduceIte, reduceCtorEq, Nat.reduceMul, Nat.reduceAdd, Nat.reduceSub, Nat.reduceDiv, Nat.reduceLT, Nat.reduceLeDiff, Nat.reduceEqDiff, Nat.reduceBEq, Int.reduceNeg, Int.reduceLT, Int.reduceLE, Int.reduceEq, Int.reduceToNat, (eq_true h2), (condZ_t h2), (eq_true h4), (condZ_t h4), (eq_true h5), h8, h9, (eq_true h10), (eq_true h12), (condZ_t h12), (eq_true h15), h17, h18, h19, (eq_true h20)]
                  refine callW_of (c_spec_l01In g21) ?_
                  rcases ite_some b14 with ⟨h22, b14⟩ | ⟨h22, b14⟩
                  · cases b14
                    simp -implicitDefEqProofs -dsimp only [go_sem, ↓reduceIte, ↓dreduceIte, reduceCtorEq, Nat.reduceMul, Nat.reduceAdd, Nat.reduceSub, Nat.reduceDiv, Nat.reduceLT, Nat.reduceLeDiff, Nat.reduceEqDiff, Nat.reduceBEq, Int.reduceNeg, Int.reduceLT, Int.reduceLE, Int.reduceEq, Int.reduceToNat, (eq_true h2), (condZ_t h2), (eq_true h4), (condZ_t h4), (eq_true h5), h8, h9, (eq_true h10), (eq_true h12), (condZ_t h12), (eq_true h15), h17, h18, h19, (eq_true h20), (eq_true h22), (condZ_t h22)]
                    refine next_of gb14 ?_
                    simp -implicitDefEqProofs -dsimp only [go_sem, ↓reduceIte, ↓dreduceIte, reduceCtorEq, Nat.reduceMul, Nat.reduceAdd, Nat.reduceSub, Nat.reduceDiv, Nat.reduceLT, Nat.reduceLeDiff, Nat.reduceEqDiff, Nat.reduceBEq, Int.reduceNeg, Int.reduceLT, Int.reduceLE, Int.reduceEq, Int.reduceToNat, (eq_true h2), (condZ_t h2), (eq_true h4), (condZ_t h4), (eq_true h5), h8, h9, (eq_true h10), (eq_true h12), (condZ_t h12), (eq_true h15), h17, h18, h19, (eq_true h20), (eq_true h22), (condZ_t h22)]
                  · cases b14
                    have e23 := done_of gb14
                    subst e23
                    try dsimp only at h
                    cases h
                    simp -implicitDefEqProofs -dsimp only [go_sem, ↓reduceIte, ↓dreduceIte, reduceCtorEq, Nat.reduceMul, Nat.reduceAdd, Nat.reduceSub, Nat.reduceDiv, Nat.reduceLT, Nat.reduceLeDiff, Nat.reduceEqDiff, Nat.reduceBEq, Int.reduceNeg, Int.reduceLT, Int.reduceLE, Int.reduceEq, Int.reduceToNat, (eq_true h2), (condZ_t h2), (eq_true h4), (condZ_t h4), (eq_true h5), h8, h9, (eq_true h10), (eq_true h12), (condZ_t h12), (eq_true h15), h17, h18, h19, (eq_true h20), (eq_false h22), (condZ_f h22)]
                · cases b14
                  simp -implicitDefEqProofs -dsimp only [go_sem, ↓reduceIte, ↓dreduceIte, reduceCtorEq, Nat.reduceMul, Nat.reduceAdd, Nat.reduceSub, Nat.reduceDiv, Nat.reduceLT, Nat.reduceLeDiff, Nat.reduceEqDiff, Nat.reduceBEq, Int.reduceNeg, Int.reduceLT, Int.reduceLE, Int.reduceEq, Int.reduceToNat, (eq_true h2), (condZ_t h2), (eq_true h4), (condZ_t h4), (eq_true h5), h8, h9, (eq_true h10), (eq_true h12), (condZ_t h12), (eq_true h15), h17, h18, h19, (eq_false h20)]
                  refine next_of gb14 ?_
                  simp -implicitDefEqProofs -dsimp only [go_sem, ↓reduceIte, ↓dreduceIte, reduceCtorEq, Nat.reduceMul, Nat.reduceAdd, Nat.reduceSub, Nat.reduceDiv, Nat.reduceLT, Nat.reduceLeDiff, Nat.reduceEqDiff, Nat.reduceBEq, Int.reduceNeg, Int.reduceLT, Int.reduceLE, Int.reduceEq, Int.reduceToNat, (eq_true h2), (condZ_t h2), (eq_true h4), (condZ_t h4), (eq_true h5), h8, h9, (eq_true h10), (eq_true h12), (condZ_t h12), (eq_true h15), h17, h18, h19, (eq_false h20)]
              · cases b14
                have e24 := done_of gb14
                subst e24
                try dsimp only at h
                obtain ⟨q1010, l25, h⟩ := obnd_some h
                simp -implicitDefEqProofs -dsimp only [go_sem, ↓reduceIte, ↓dreduceIte, reduceCtorEq, Nat.reduceMul, Nat.reduceAdd, Nat.reduceSub, Nat.reduceDiv, Nat.reduceLT, Nat.reduceLeDiff, Nat.reduceEqDiff, Nat.reduceBEq, Int.reduceNeg, Int.reduceLT, Int.reduceLE, Int.reduceEq, Int.reduceToNat, (eq_true h2), (condZ_t h2), (eq_true h4), (condZ_t h4), (eq_true h5), h8, h9, (eq_true h10), (eq_true h12), (condZ_t h12), (eq_false h15)]
                refine loopW_loopO (m1 := .mk) (m2 := .mk) [.nf [2, 3, 7] [128, 192]] (m_spec_StateOk_L2_St s.nodes s.ties s.horizon v1.now v1.times v1.values) l25 ?_ ?_
                · simp -implicitDefEqProofs -dsimp only [go_sem, ↓reduceIte, ↓dreduceIte, reduceCtorEq, Nat.reduceMul, Nat.reduceAdd, Nat.reduceSub, Nat.reduceDiv, Nat.reduceLT, Nat.reduceLeDiff, Nat.reduceEqDiff, Nat.reduceBEq, Int.reduceNeg, Int.reduceLT, Int.reduceLE, Int.reduceEq, Int.reduceToNat, (eq_true h2), (condZ_t h2), (eq_true h4), (condZ_t h4), (eq_true h5), h8, h9, (eq_true h10), (eq_true h12), (condZ_t h12), (eq_false h15)]
                · intro nb26 sb26 bb26 b26 gb26
                  obtain ⟨p_2, eb26⟩ : ∃ v, v = sb26 := ⟨_, rfl⟩; subst eb26
                  unfold m_spec_StateOk_L2 at b26
                  try dsimp only at b26
                  rcases ite_some b26 with ⟨h27, b26⟩ | ⟨h27, b26⟩
                  · obtain ⟨r1007, g28, b26⟩ := obnd_some b26
                    simp -implicitDefEqProofs -dsimp only [go_sem, ↓reduceIte, ↓dreduceIte, reduceCtorEq, Nat.reduceMul, Nat.reduceAdd, Nat.reduceSub, Nat.reduceDiv, Nat.reduceLT, Nat.reduceLeDiff, Nat.reduceEqDiff, Nat.reduceBEq, Int.reduceNeg, Int.reduceLT, Int.reduceLE, Int.reduceEq, Int.reduceToNat, (eq_true h2), (condZ_t h2), (eq_true h4), (condZ_t h4), (eq_true h5), h8, h9, (eq_true h10), (eq_true h12), (condZ_t h12), (eq_false h15), (eq_true h27)]
                    refine callW_of (c_spec_l08Watcher g28) ?_
                    obtain ⟨x1008, g29, b26⟩ := obnd_some b26
                    obtain ⟨h30, h31, h32⟩ := getI_some g29
                    rcases ite_some b26 with ⟨h33, b26⟩ | ⟨h33, b26⟩
                    · obtain ⟨x1009, g34, b26⟩ := obnd_some b26
                      obtain ⟨h35, h36, h37⟩ := getI_some g34
                      rcases ite_some b26 with ⟨h38, b26⟩ | ⟨h38, b26⟩
                      · cases b26
                        simp -implicitDefEqProofs -dsimp only [go_sem, ↓reduceIte, ↓dreduceIte, reduceCtorEq, Nat.reduceMul, Nat.reduceAdd, Nat.reduceSub, Nat.reduceDiv, Nat.reduceLT, Nat.reduceLeDiff, Nat.reduceEqDiff, Nat.reduceBEq, Int.reduceNeg, Int.reduceLT, Int.reduceLE, Int.reduceEq, Int.reduceToNat, (eq_true h2), (condZ_t h2), (eq_true h4), (condZ_t h4), (eq_true h5), h8, h9, (eq_true h10), (eq_true h12), (condZ_t h12), (eq_false h15), (eq_true h27), h30, h31, h32, (eq_true h33), h35, h36, h37, (eq_true h38)]
                        refine next_of gb26 ?_
                        simp -implicitDefEqProofs -dsimp only [go_sem, ↓reduceIte, ↓dreduceIte, reduceCtorEq, Nat.reduceMul, Nat.reduceAdd, Nat.reduceSub, Nat.reduceDiv, Nat.reduceLT, Nat.reduceLeDiff, Nat.reduceEqDiff, Nat.reduceBEq, Int.reduceNeg, Int.reduceLT, Int.reduceLE, Int.reduceEq, Int.reduceToNat, (eq_true h2), (condZ_t h2), (eq_true h4), (condZ_t h4), (eq_true h5), h8, h9, (eq_true h10), (eq_true h12), (condZ_t h12), (eq_false h15), (eq_true h27), h30, h31, h32, (eq_true h33), h35, h36, h37, (eq_true h38)]
                      · cases b26
                        have e39 := done_of gb26
                        subst e39
                        try dsimp only at h
                        cases h
                        simp -implicitDefEqProofs -dsimp only [go_sem, ↓reduceIte, ↓dreduceIte, reduceCtorEq, Nat.reduceMul, Nat.reduceAdd, Nat.reduceSub, Nat.reduceDiv, Nat.reduceLT, Nat.reduceLeDiff, Nat.reduceEqDiff, Nat.reduceBEq, Int.reduceNeg, Int.reduceLT, Int.reduceLE, Int.reduceEq, Int.reduceToNat, (eq_true h2), (condZ_t h2), (eq_true h4), (condZ_t h4), (eq_true h5), h8, h9, (eq_true h10), (eq_true h12), (condZ_t h12), (eq_false h15), (eq_true h27), h30, h31, h32, (eq_true h33), h35, h36, h37, (eq_false h38)]
                    · rcases ite_some b26 with ⟨h40, b26⟩ | ⟨h40, b26⟩
                      · cases b26
                        simp -implicitDefEqProofs -dsimp only [go_sem, ↓reduceIte, ↓dreduceIte, reduceCtorEq, Nat.reduceMul, Nat.reduceAdd, Nat.reduceSub, Nat.reduceDiv, Nat.reduceLT, Nat.reduceLeDiff, Nat.reduceEqDiff, Nat.reduceBEq, Int.reduceNeg, Int.reduceLT, Int.reduceLE, Int.reduceEq, Int.reduceToNat, (eq_true h2), (condZ_t h2), (eq_true h4), (condZ_t h4), (eq_true h5), h8, h9, (eq_true h10), (eq_true h12), (condZ_t h12), (eq_false h15), (eq_true h27), h30, h31, h32, (eq_false h33), (eq_true h40)]
                        refine next_of gb26 ?_
                        simp -implicitDefEqProofs -dsimp only [go_sem, ↓reduceIte, ↓dreduceIte, reduceCtorEq, Nat.reduceMul, Nat.reduceAdd, Nat.reduceSub, Nat.reduceDiv, Nat.reduceLT, Nat.reduceLeDiff, Nat.reduceEqDiff, Nat.reduceBEq, Int.reduceNeg, Int.reduceLT, Int.reduceLE, Int.reduceEq, Int.reduceToNat, (eq_true h2), (condZ_t h2), (eq_true h4), (condZ_t h4), (eq_true h5), h8, h9, (eq_true h10), (eq_true h12), (condZ_t h12), (eq_false h15), (eq_true h27), h30, h31, h32, (eq_false h33), (eq_true h40)]
                      · cases b26
                        have e41 := done_of gb26
                        subst e41
                        try dsimp only at h
                        cases h
                        simp -implicitDefEqProofs -dsimp only [go_sem, ↓reduceIte, ↓dreduceIte, reduceCtorEq, Nat.reduceMul, Nat.reduceAdd, Nat.reduceSub, Nat.reduceDiv, Nat.reduceLT, Nat.reduceLeDiff, Nat.reduceEqDiff, Nat.reduceBEq, Int.reduceNeg, Int.reduceLT, Int.reduceLE, Int.reduceEq, Int.reduceToNat, (eq_true h2), (condZ_t h2), (eq_true h4), (condZ_t h4), (eq_true h5), h8, h9, (eq_true h10), (eq_true h12), (condZ_t h12), (eq_false h15), (eq_true h27), h30, h31, h32, (eq_false h33), (eq_false h40)]
                  · cases b26
                    have e42 := done_of gb26
                    subst e42
                    try dsimp only at h
                    cases h
                    simp -implicitDefEqProofs -dsimp only [go_sem, ↓reduceIte, ↓dreduceIte, reduceCtorEq, Nat.reduceMul, Nat.reduceAdd, Nat.reduceSub, Nat.reduceDiv, Nat.reduceLT, Nat.reduceLeDiff, Nat.reduceEqDiff, Nat.reduceBEq, Int.reduceNeg, Int.reduceLT, Int.reduceLE, Int.reduceEq, Int.reduceToNat, (eq_true h2), (condZ_t h2), (eq_true h4), (condZ_t h4), (eq_true h5), h8, h9, (eq_true h10), (eq_true h12), (condZ_t h12), (eq_false h15), (eq_false h27)]
          · cases h
            simp -implicitDefEqProofs -dsimp only [go_sem, ↓reduceIte, ↓dreduceIte, reduceCtorEq, Nat.reduceMul, Nat.reduceAdd, Nat.reduceSub, Nat.reduceDiv, Nat.reduceLT, Nat.reduceLeDiff, Nat.reduceEqDiff, Nat.reduceBEq, Int.reduceNeg, Int.reduceLT, Int.reduceLE, Int.reduceEq, Int.reduceToNat, (eq_true h2), (condZ_t h2), (eq_true h4), (condZ_t h4), (eq_true h5), h8, h9, (eq_true h10), (eq_false h12), (condZ_f h12)]
        · cases h
          simp -implicitDefEqProofs -dsimp only [go_sem, ↓reduceIte, ↓dreduceIte, reduceCtorEq, Nat.reduceMul, Nat.reduceAdd, Nat.reduceSub, Nat.reduceDiv, Nat.reduceLT, Nat.reduceLeDiff, Nat.reduceEqDiff, Nat.reduceBEq, Int.reduceNeg, Int.reduceLT, Int.reduceLE, Int.reduceEq, Int.reduceToNat, (eq_true h2), (condZ_t h2), (eq_true h4), (condZ_t h4), (eq_true h5), h8, h9, (eq_false h10)]
      · cases h
        simp -implicitDefEqProofs -dsimp only [go_sem, ↓reduceIte, ↓dreduceIte, reduceCtorEq, Nat.reduceMul, Nat.reduceAdd, Nat.reduceSub, Nat.reduceDiv, Nat.reduceLT, Nat.reduceLeDiff, Nat.reduceEqDiff, Nat.reduceBEq, Int.reduceNeg, Int.reduceLT, Int.reduceLE, Int.reduceEq, Int.reduceToNat, (eq_true h2), (condZ_t h2), (eq_true h4), (condZ_t h4), (eq_false h5)]
    · cases h
      simp -implicitDefEqProofs -dsimp only [go_sem, ↓reduceIte, ↓dreduceIte, reduceCtorEq, Nat.reduceMul, Nat.reduceAdd, Nat.reduceSub, Nat.reduceDiv, Nat.reduceLT, Nat.reduceLeDiff, Nat.reduceEqDiff, Nat.reduceBEq, Int.reduceNeg, Int.reduceLT, Int.reduceLE, Int.reduceEq, Int.reduceToNat, (eq_true h2), (condZ_t h2), (eq_false h4), (condZ_f h4)]
  · cases h
    simp -implicitDefEqProofs -dsimp only [go_sem, ↓reduceIte, ↓dreduceIte, reduceCtorEq, Nat.reduceMul, Nat.reduceAdd, Nat.reduceSub, Nat.reduceDiv, Nat.reduceLT, Nat.reduceLeDiff, Nat.reduceEqDiff, Nat.reduceBEq, Int.reduceNeg, Int.reduceLT, Int.reduceLE, Int.reduceEq, Int.reduceToNat, (eq_false h2), (condZ_f h2)]
/- 137 loop.example/g00827/spec.l10Free -/
def m_spec_l10Free_L1_St (v8 : List GTie) (v9 : Int) : (Int × (List Int)) → St
  | (v10, out) => ⟨[(3, .ref 384 1 0 out.length), (8, .sl (rowsOf GTie.enc v8)), (9, .lit (.int .i64 v9)), (10, .lit (.int .i64 v10))], [(384, 1, .row true (rowsOf eI out))], 2⟩
attribute [go_sem] m_spec_l10Free_L1_St
def hi137 : Hint where
  acts := fun _ => []
  draws := fun
    | _ => ⟨[], [], []⟩
theorem hi137a (i : Nat) : hi137.acts i = [] := rfl
theorem hi137v (i : Nat) : hi137.views i = none := rfl
attribute [go_sem] hi137a hi137v Go.Proofs.Try.ntmps137 Go.Proofs.Try.results137
theorem c_spec_l10Free {s : GShow} {res : List Int} (h : m_spec_l10Free s = some res) : CallOk Go.Proofs.Try.prog 137 [.agg [.sl (rowsOf GNode.encS s.nodes), .sl (rowsOf GTie.enc s.ties), .lit (.int .i64 s.horizon)]] [] (.ref 20000 1 0 res.length) [(20000, 1, .row true (rowsOf eI res))] := by
  refine callOk_of (ra := [.home 2]) (md := mdT) hT (hi := hi137) Go.Proofs.Try.func137 rfl rfl (by decide +kernel) (by simp) ?_
  unfold m_spec_l10Free at h
  obtain ⟨q1002, l1, h⟩ := obnd_some h
  simp -implicitDefEqProofs -dsimp only [go_sem, ↓reduceIte, ↓dreduceIte, reduceCtorEq, Nat.reduceMul, Nat.reduceAdd, Nat.reduceSub, Nat.reduceDiv, Nat.reduceLT, Nat.reduceLeDiff, Nat.reduceEqDiff, Nat.reduceBEq, Int.reduceNeg, Int.reduceLT, Int.reduceLE, Int.reduceEq, Int.reduceToNat]
  refine loopW_loopO (m1 := .mk) (m2 := .mk) [.nf [3, 8, 9, 10] [384]] (m_spec_l10Free_L1_St s.ties ((s.ties.length : Nat) : Int)) l1 ?_ ?_
  · simp -implicitDefEqProofs -dsimp only [go_sem, ↓reduceIte, ↓dreduceIte, reduceCtorEq, Nat.reduceMul, Nat.reduceAdd, Nat.reduceSub, Nat.reduceDiv, Nat.reduceLT, Nat.reduceLeDiff, Nat.reduceEqDiff, Nat.reduceBEq, Int.reduceNeg, Int.reduceLT, Int.reduceLE, Int.reduceEq, Int.reduceToNat]
  · intro nb2 sb2 bb2 b2 gb2
    obtain ⟨v10_1, out_1⟩ := sb2
    unfold m_spec_l10Free_L1 at b2
    try dsimp only at b2
    rcases ite_some b2 with ⟨h3, b2⟩ | ⟨h3, b2⟩
    · obtain ⟨x1001, g4, b2⟩ := obnd_some b2
      obtain ⟨h5, h6, h7⟩ := getI_some g4
      rcases ite_some b2 with ⟨h8, b2⟩ | ⟨h8, b2⟩
      · obtain ⟨h9, b2⟩ := chk_some b2
        obtain ⟨h10, b2⟩ := chk_some b2
        cases b2
        simp -implicitDefEqProofs -dsimp only [go_sem, ↓reduceIte, ↓dreduceIte, reduceCtorEq, Nat.reduceMul, Nat.reduceAdd, Nat.reduceSub, Nat.reduceDiv, Nat.reduceLT, Nat.reduceLeDiff, Nat.reduceEqDiff, Nat.reduceBEq, Int.reduceNeg, Int.reduceLT, Int.reduceLE, Int.reduceEq, Int.reduceToNat, (eq_true h3), h5, h6, h7, (eq_true h8), (condZ_t h8), (eq_true h9), (eq_true h10)]
        refine next_of gb2 ?_
        simp -implicitDefEqProofs -dsimp only [go_sem, ↓reduceIte, ↓dreduceIte, reduceCtorEq, Nat.reduceMul, Nat.reduceAdd, Nat.reduceSub, Nat.reduceDiv, Nat.reduceLT, Nat.reduceLeDiff, Nat.reduceEqDiff, Nat.reduceBEq, Int.reduceNeg, Int.reduceLT, Int.reduceLE, Int.reduceEq, Int.reduceToNat, (eq_true h3), h5, h6, h7, (eq_true h8), (condZ_t h8), (eq_true h9), (eq_true h10)]
      · cases b2
        simp -implicitDefEqProofs -dsimp only [go_sem, ↓reduceIte, ↓dreduceIte, reduceCtorEq, Nat.reduceMul, Nat.reduceAdd, Nat.reduceSub, Nat.reduceDiv, Nat.reduceLT, Nat.reduceLeDiff, Nat.reduceEqDiff, Nat.reduceBEq, Int.reduceNeg, Int.reduceLT, Int.reduceLE, Int.reduceEq, Int.reduceToNat, (eq_true h3), h5, h6, h7, (eq_false h8), (condZ_f h8)]
        refine next_of gb2 ?_
        simp -implicitDefEqProofs -dsimp only [go_sem, ↓reduceIte, ↓dreduceIte, reduceCtorEq, Nat.reduceMul, Nat.reduceAdd, Nat.reduceSub, Nat.reduceDiv, Nat.reduceLT, Nat.reduceLeDiff, Nat.reduceEqDiff, Nat.reduceBEq, Int.reduceNeg, Int.reduceLT, Int.reduceLE, Int.reduceEq, Int.reduceToNat, (eq_true h3), h5, h6, h7, (eq_false h8), (condZ_f h8)]
    · cases b2
      have e11 := done_of gb2
      subst e11
      try dsimp only at h
      cases h
      simp -implicitDefEqProofs -dsimp only [go_sem, ↓reduceIte, ↓dreduceIte, reduceCtorEq, Nat.reduceMul, Nat.reduceAdd, Nat.reduceSub, Nat.reduceDiv, Nat.reduceLT, Nat.reduceLeDiff, Nat.reduceEqDiff, Nat.reduceBEq, Int.reduceNeg, Int.reduceLT, Int.reduceLE, Int.reduceEq, Int.reduceToNat, (eq_false h3)]
/- 64 loop.example/g00827/spec.TakesOf -/
def m_spec_TakesOf_L1_St (v17 : Int) (s_0 : List GNode) (s_1 : List GTie) (s_2 : Int) (v3_0 : Int) (v3_1 : List Int) (v3_2 : List Int) (v16 : List Int) : (Int × (List GTake)) → St
  | (v18, out) => ⟨[(2, .ptr 128 1 0 0), (3, .ptr 192 1 0 0), (5, .ref 640 1 0 out.length), (16, .ref 1024 1 0 v16.length), (17, .lit (.int .i64 v17)), (18, .lit (.int .i64 v18))], [(128, 1, .var [.sl (rowsOf GNode.encS s_0), .sl (rowsOf GTie.enc s_1), .lit (.int .i64 s_2)]), (192, 1, .var [.lit (.int .i64 v3_0), .sl (rowsOf eI v3_1), .sl (rowsOf eI v3_2)]), (640, 1, .row true (rowsOf GTake.enc out)), (1024, 1, .row true (rowsOf eI v16))], 2⟩
attribute [go_sem] m_spec_TakesOf_L1_St
def hi64 : Hint where
  acts := fun _ => []
  draws := fun
    | 7 => ⟨[⟨0, false, []⟩, ⟨1, false, []⟩, ⟨2, false, []⟩, ⟨3, false, []⟩, ⟨4, false, []⟩, ⟨5, false, []⟩, ⟨6, false, []⟩, ⟨7, false, []⟩, ⟨8, false, []⟩, ⟨9, false, []⟩, ⟨10, false, []⟩], [[], [0], [], [2], [], [2, 3, 4], [2, 3, 4, 5], [2, 3, 4, 5, 6], [0, 1, 2, 3, 4, 5, 6, 7], [0, 1, 2, 3, 4, 5, 6, 7, 8], [0, 1, 2, 3, 4, 5, 6, 7, 8, 9]], [0, 1, 2, 3, 4, 5, 6, 7, 8, 9, 10]⟩
    | 8 => ⟨[⟨0, false, []⟩, ⟨1, false, []⟩, ⟨2, false, []⟩, ⟨3, false, []⟩, ⟨4, false, []⟩, ⟨5, false, []⟩, ⟨6, false, []⟩, ⟨7, false, []⟩, ⟨8, false, []⟩, ⟨9, false, []⟩, ⟨10, false, []⟩], [[], [0], [], [2], [], [2, 3, 4], [2, 3, 4, 5], [2, 3, 4, 5, 6], [0, 1, 2, 3, 4, 5, 6, 7], [0, 1, 2, 3, 4, 5, 6, 7, 8], [0, 1, 2, 3, 4, 5, 6, 7, 8, 9]], [0, 1, 2, 3, 4, 5, 6, 7, 8, 9, 10]⟩
    | _ => ⟨[], [], []⟩
theorem hi64a (i : Nat) : hi64.acts i = [] := rfl
theorem hi64v (i : Nat) : hi64.views i = none := rfl
attribute [go_sem] hi64a hi64v Go.Proofs.Try.ntmps64 Go.Proofs.Try.results64
@[go_sem] theorem hi64d7 : (hi64.draws 7).order = [⟨0, false, []⟩, ⟨1, false, []⟩, ⟨2, false, []⟩, ⟨3, false, []⟩, ⟨4, false, []⟩, ⟨5, false, []⟩, ⟨6, false, []⟩, ⟨7, false, []⟩, ⟨8, false, []⟩, ⟨9, false, []⟩, ⟨10, false, []⟩] := rfl
@[go_sem] theorem hi64d8 : (hi64.draws 8).order = [⟨0, false, []⟩, ⟨1, false, []⟩, ⟨2, false, []⟩, ⟨3, false, []⟩, ⟨4, false, []⟩, ⟨5, false, []⟩, ⟨6, false, []⟩, ⟨7, false, []⟩, ⟨8, false, []⟩, ⟨9, false, []⟩, ⟨10, false, []⟩] := rfl
theorem c_spec_TakesOf {s : GShow} {v1 : GState} {res : List GTake} (h : m_spec_TakesOf s v1 = some res) : CallOk Go.Proofs.Try.prog 64 [.agg [.sl (rowsOf GNode.encS s.nodes), .sl (rowsOf GTie.enc s.ties), .lit (.int .i64 s.horizon)], .agg [.lit (.int .i64 v1.now), .sl (rowsOf eI v1.times), .sl (rowsOf eI v1.values)]] [] (.ref 20000 1 0 res.length) [(20000, 1, .row true (rowsOf GTake.enc res))] := by
  refine callOk_of (ra := [.home 4]) (md := mdT) hT (hi := hi64) Go.Proofs.Try.func64 rfl rfl (by decide +kernel) (by simp) ?_
  unfold m_spec_TakesOf at h
  obtain ⟨r1001, g1, h⟩ := obnd_some h
  simp -implicitDefEqProofs -dsimp only [go_sem, ↓reduceIte, ↓dreduceIte, reduceCtorEq, Nat.reduceMul, Nat.reduceAdd, Nat.reduceSub, Nat.reduceDiv, Nat.reduceLT, Nat.reduceLeDiff, Nat.reduceEqDiff, Nat.reduceBEq, Int.reduceNeg, Int.reduceLT, Int.reduceLE, Int.reduceEq, Int.reduceToNat]
  refine callW_of (c_spec_StateOk g1) ?_
  rcases ite_some h with ⟨h2, h⟩ | ⟨h2, h⟩
  · obtain ⟨r1002, g3, h⟩ := obnd_some h
    simp -implicitDefEqProofs -dsimp only [go_sem, ↓reduceIte, ↓dreduceIte, reduceCtorEq, Nat.reduceMul, Nat.reduceAdd, Nat.reduceSub, Nat.reduceDiv, Nat.reduceLT, Nat.reduceLeDiff, Nat.reduceEqDiff, Nat.reduceBEq, Int.reduceNeg, Int.reduceLT, Int.reduceLE, Int.reduceEq, Int.reduceToNat, (eq_true h2), (condZ_t h2)]
    refine callW_of (c_spec_l10Free g3) ?_
    obtain ⟨q1007, l4, h⟩ := obnd_some h
    simp -implicitDefEqProofs -dsimp only [go_sem, ↓reduceIte, ↓dreduceIte, reduceCtorEq, Nat.reduceMul, Nat.reduceAdd, Nat.reduceSub, Nat.reduceDiv, Nat.reduceLT, Nat.reduceLeDiff, Nat.reduceEqDiff, Nat.reduceBEq, Int.reduceNeg, Int.reduceLT, Int.reduceLE, Int.reduceEq, Int.reduceToNat, (eq_true h2), (condZ_t h2)]
    refine loopW_loopO (m1 := .mk) (m2 := .mk) [.nf [2, 3, 5, 16, 17, 18] [128, 192, 640, 1024]] (m_spec_TakesOf_L1_St ((r1002.length : Nat) : Int) s.nodes s.ties s.horizon v1.now v1.times v1.values r1002) l4 ?_ ?_
    · simp -implicitDefEqProofs -dsimp only [go_sem, ↓reduceIte, ↓dreduceIte, reduceCtorEq, Nat.reduceMul, Nat.reduceAdd, Nat.reduceSub, Nat.reduceDiv, Nat.reduceLT, Nat.reduceLeDiff, Nat.reduceEqDiff, Nat.reduceBEq, Int.reduceNeg, Int.reduceLT, Int.reduceLE, Int.reduceEq, Int.reduceToNat, (eq_true h2), (condZ_t h2)]
    · intro nb5 sb5 bb5 b5 gb5
      obtain ⟨v18_1, out_1⟩ := sb5
      unfold m_spec_TakesOf_L1 at b5
      try dsimp only at b5
      rcases ite_some b5 with ⟨h6, b5⟩ | ⟨h6, b5⟩
      · obtain ⟨x1003, g7, b5⟩ := obnd_some b5
        obtain ⟨h8, h9, h10⟩ := getI_some g7
        obtain ⟨x1004, g11, b5⟩ := obnd_some b5
        obtain ⟨h12, h13, h14⟩ := getI_some g11
        obtain ⟨x1005, g15, b5⟩ := obnd_some b5
        obtain ⟨h16, h17, h18⟩ := getI_some g15
        obtain ⟨x1006, g19, b5⟩ := obnd_some b5
        obtain ⟨h20, h21, h22⟩ := getI_some g19
        rcases ite_some b5 with ⟨h23, b5⟩ | ⟨h23, b5⟩
        · cases b5
          simp -implicitDefEqProofs -dsimp only [go_sem, ↓reduceIte, ↓dreduceIte, reduceCtorEq, Nat.reduceMul, Nat.reduceAdd, Nat.reduceSub, Nat.reduceDiv, Nat.reduceLT, Nat.reduceLeDiff, Nat.reduceEqDiff, Nat.reduceBEq, Int.reduceNeg, Int.reduceLT, Int.reduceLE, Int.reduceEq, Int.reduceToNat, (eq_true h2), (condZ_t h2), (eq_true h6), h8, h9, h10, h12, h13, h14, h16, h17, h18, h20, h21, h22, (eq_true h23)]
          refine next_of gb5 ?_
          simp -implicitDefEqProofs -dsimp only [go_sem, ↓reduceIte, ↓dreduceIte, reduceCtorEq, Nat.reduceMul, Nat.reduceAdd, Nat.reduceSub, Nat.reduceDiv, Nat.reduceLT, Nat.reduceLeDiff, Nat.reduceEqDiff, Nat.reduceBEq, Int.reduceNeg, Int.reduceLT, Int.reduceLE, Int.reduceEq, Int.reduceToNat, (eq_true h2), (condZ_t h2), (eq_true h6), h8, h9, h10, h12, h13, h14, h16, h17, h18, h20, h21, h22, (eq_true h23)]
        · rcases ite_some b5 with ⟨h24, b5⟩ | ⟨h24, b5⟩
          · cases b5
            simp -implicitDefEqProofs -dsimp only [go_sem, ↓reduceIte, ↓dreduceIte, reduceCtorEq, Nat.reduceMul, Nat.reduceAdd, Nat.reduceSub, Nat.reduceDiv, Nat.reduceLT, Nat.reduceLeDiff, Nat.reduceEqDiff, Nat.reduceBEq, Int.reduceNeg, Int.reduceLT, Int.reduceLE, Int.reduceEq, Int.reduceToNat, (eq_true h2), (condZ_t h2), (eq_true h6), h8, h9, h10, h12, h13, h14, h16, h17, h18, h20, h21, h22, (eq_false h23), (eq_true h24)]
            refine next_of gb5 ?_
            simp -implicitDefEqProofs -dsimp only [go_sem, ↓reduceIte, ↓dreduceIte, reduceCtorEq, Nat.reduceMul, Nat.reduceAdd, Nat.reduceSub, Nat.reduceDiv, Nat.reduceLT, Nat.reduceLeDiff, Nat.reduceEqDiff, Nat.reduceBEq, Int.reduceNeg, Int.reduceLT, Int.reduceLE, Int.reduceEq, Int.reduceToNat, (eq_true h2), (condZ_t h2), (eq_true h6), h8, h9, h10, h12, h13, h14, h16, h17, h18, h20, h21, h22, (eq_false h23), (eq_true h24)]
          · obtain ⟨h25, b5⟩ := chk_some b5
            obtain ⟨h26, b5⟩ := chk_some b5
            cases b5
            simp -implicitDefEqProofs -dsimp only [go_sem, ↓reduceIte, ↓dreduceIte, reduceCtorEq, Nat.reduceMul, Nat.reduceAdd, Nat.reduceSub, Nat.reduceDiv, Nat.reduceLT, Nat.reduceLeDiff, Nat.reduceEqDiff, Nat.reduceBEq, Int.reduceNeg, Int.reduceLT, Int.reduceLE, Int.reduceEq, Int.reduceToNat, (eq_true h2), (condZ_t h2), (eq_true h6), h8, h9, h10, h12, h13, h14, h16, h17, h18, h20, h21, h22, (eq_false h23), (eq_false h24), (eq_true h25), (eq_true h26)]
            refine next_of gb5 ?_
            simp -implicitDefEqProofs -dsimp only [go_sem, ↓reduceIte, ↓dreduceIte, reduceCtorEq, Nat.reduceMul, Nat.reduceAdd, Nat.reduceSub, Nat.reduceDiv, Nat.reduceLT, Nat.reduceLeDiff, Nat.reduceEqDiff, Nat.reduceBEq, Int.reduceNeg, Int.reduceLT, Int.reduceLE, Int.reduceEq, Int.reduceToNat, (eq_true h2), (condZ_t h2), (eq_true h6), h8, h9, h10, h12, h13, h14, h16, h17, h18, h20, h21, h22, (eq_false h23), (eq_false h24), (eq_true h25), (eq_true h26)]
      · cases b5
        have e27 := done_of gb5
        subst e27
        try dsimp only at h
        cases h
        simp -implicitDefEqProofs -dsimp only [go_sem, ↓reduceIte, ↓dreduceIte, reduceCtorEq, Nat.reduceMul, Nat.reduceAdd, Nat.reduceSub, Nat.reduceDiv, Nat.reduceLT, Nat.reduceLeDiff, Nat.reduceEqDiff, Nat.reduceBEq, Int.reduceNeg, Int.reduceLT, Int.reduceLE, Int.reduceEq, Int.reduceToNat, (eq_true h2), (condZ_t h2), (eq_false h6)]
  · cases h
    simp -implicitDefEqProofs -dsimp only [go_sem, ↓reduceIte, ↓dreduceIte, reduceCtorEq, Nat.reduceMul, Nat.reduceAdd, Nat.reduceSub, Nat.reduceDiv, Nat.reduceLT, Nat.reduceLeDiff, Nat.reduceEqDiff, Nat.reduceBEq, Int.reduceNeg, Int.reduceLT, Int.reduceLE, Int.reduceEq, Int.reduceToNat, (eq_false h2), (condZ_f h2)]
/- 208 loop.example/g00827/impl.ValuesOk$1 -/
def hi208 : Hint where
  acts := fun _ => []
  draws := fun
    | _ => ⟨[], [], []⟩
theorem hi208a (i : Nat) : hi208.acts i = [] := rfl
theorem hi208v (i : Nat) : hi208.views i = none := rfl
attribute [go_sem] hi208a hi208v Go.Proofs.Try.ntmps208 Go.Proofs.Try.results208
theorem c_impl_ValuesOk_c1 {n : Int} {res : Bool} (h : m_impl_ValuesOk_c1 n = some res) : CallOk Go.Proofs.Try.prog 208 [.lit (.int .i64 n)] [] (.lit (.bool res)) [] := by
  refine callOk_of (ra := []) (md := mdT) hT (hi := hi208) Go.Proofs.Try.func208 rfl rfl (by decide +kernel) (by simp) ?_
  unfold m_impl_ValuesOk_c1 at h
  rcases ite_some h with ⟨h1, h⟩ | ⟨h1, h⟩
  · cases h
    simp -implicitDefEqProofs -dsimp only [go_sem, ↓reduceIte, ↓dreduceIte, reduceCtorEq, Nat.reduceMul, Nat.reduceAdd, Nat.reduceSub, Nat.reduceDiv, Nat.reduceLT, Nat.reduceLeDiff, Nat.reduceEqDiff, Nat.reduceBEq, Int.reduceNeg, Int.reduceLT, Int.reduceLE, Int.reduceEq, Int.reduceToNat, (eq_true h1)]
  · cases h
    simp -implicitDefEqProofs -dsimp only [go_sem, ↓reduceIte, ↓dreduceIte, reduceCtorEq, Nat.reduceMul, Nat.reduceAdd, Nat.reduceSub, Nat.reduceDiv, Nat.reduceLT, Nat.reduceLeDiff, Nat.reduceEqDiff, Nat.reduceBEq, Int.reduceNeg, Int.reduceLT, Int.reduceLE, Int.reduceEq, Int.reduceToNat, (eq_false h1)]
/- 204 loop.example/g00827/impl.ValuesOk -/
def hi204 : Hint where
  acts := fun _ => []
  draws := fun
    | _ => ⟨[], [], []⟩
theorem hi204a (i : Nat) : hi204.acts i = [] := rfl
theorem hi204v (i : Nat) : hi204.views i = none := rfl
attribute [go_sem] hi204a hi204v Go.Proofs.Try.ntmps204 Go.Proofs.Try.results204
theorem c_impl_ValuesOk {v : List Int} {res : Bool} (h : m_impl_ValuesOk v = some res) : CallOk Go.Proofs.Try.prog 204 [.sl (rowsOf eI v)] [] (.lit (.bool res)) [] := by
  refine callOk_of (ra := []) (md := mdT) hT (hi := hi204) Go.Proofs.Try.func204 rfl rfl (by decide +kernel) (by simp) ?_
  unfold m_impl_ValuesOk at h
  rcases ite_some h with ⟨h1, h⟩ | ⟨h1, h⟩
  · obtain ⟨r1001, g2, h⟩ := obnd_some h
    simp -implicitDefEqProofs -dsimp only [go_sem, ↓reduceIte, ↓dreduceIte, reduceCtorEq, Nat.reduceMul, Nat.reduceAdd, Nat.reduceSub, Nat.reduceDiv, Nat.reduceLT, Nat.reduceLeDiff, Nat.reduceEqDiff, Nat.reduceBEq, Int.reduceNeg, Int.reduceLT, Int.reduceLE, Int.reduceEq, Int.reduceToNat, (eq_true h1)]
    refine callW_of (c_slices_ContainsFunc_int (by exact fun _ _ hr => c_impl_ValuesOk_c1 hr) (by refine ⟨fun _ => ?_, fun _ => ?_⟩ <;> simp only [go_sem]) (by rfl) g2) ?_
    cases h
    simp -implicitDefEqProofs -dsimp only [go_sem, ↓reduceIte, ↓dreduceIte, reduceCtorEq, Nat.reduceMul, Nat.reduceAdd, Nat.reduceSub, Nat.reduceDiv, Nat.reduceLT, Nat.reduceLeDiff, Nat.reduceEqDiff, Nat.reduceBEq, Int.reduceNeg, Int.reduceLT, Int.reduceLE, Int.reduceEq, Int.reduceToNat, (eq_true h1)]
  · cases h
    simp -implicitDefEqProofs -dsimp only [go_sem, ↓reduceIte, ↓dreduceIte, reduceCtorEq, Nat.reduceMul, Nat.reduceAdd, Nat.reduceSub, Nat.reduceDiv, Nat.reduceLT, Nat.reduceLeDiff, Nat.reduceEqDiff, Nat.reduceBEq, Int.reduceNeg, Int.reduceLT, Int.reduceLE, Int.reduceEq, Int.reduceToNat, (eq_false h1)]
/- 189 loop.example/g00827/impl.isState -/
def m_impl_isState_L1_St (v37 : List Int) (v38 : Int) (s_0 : List GNode) (s_1 : List GTie) (s_2 : Int) (v3_0 : Int) (v3_2 : List Int) (v39 : Int) : St := ⟨[(2, .ptr 128 1 0 0), (3, .ptr 192 1 0 0), (37, .sl (rowsOf eI v37)), (38, .lit (.int .i64 v38)), (39, .lit (.int .i64 v39))], [(128, 1, .var [.sl (rowsOf GNode.encS s_0), .sl (rowsOf GTie.enc s_1), .lit (.int .i64 s_2)]), (192, 1, .var [.lit (.int .i64 v3_0), .sl (rowsOf eI v37), .sl (rowsOf eI v3_2)])], 2⟩
attribute [go_sem] m_impl_isState_L1_St
def m_impl_isState_L2_St (v67 : List Int) (v68 : Int) (s_0 : List GNode) (s_1 : List GTie) (s_2 : Int) (v3_0 : Int) (v3_1 : List Int) (v69 : Int) : St := ⟨[(2, .ptr 128 1 0 0), (3, .ptr 192 1 0 0), (67, .sl (rowsOf eI v67)), (68, .lit (.int .i64 v68)), (69, .lit (.int .i64 v69))], [(128, 1, .var [.sl (rowsOf GNode.encS s_0), .sl (rowsOf GTie.enc s_1), .lit (.int .i64 s_2)]), (192, 1, .var [.lit (.int .i64 v3_0), .sl (rowsOf eI v3_1), .sl (rowsOf eI v67)])], 2⟩
attribute [go_sem] m_impl_isState_L2_St
def hi189 : Hint where
  acts := fun _ => []
  draws := fun
    | _ => ⟨[], [], []⟩
theorem hi189a (i : Nat) : hi189.acts i = [] := rfl
theorem hi189v (i : Nat) : hi189.views i = none := rfl
attribute [go_sem] hi189a hi189v Go.Proofs.Try.ntmps189 Go.Proofs.Try.results189
theorem c_impl_isState {s : GShow} {v1 : GState} {res : Bool} (h : m_impl_isState s v1 = some res) : CallOk Go.Proofs.Try.prog 189 [.agg [.sl (rowsOf GNode.encS s.nodes), .sl (rowsOf GTie.enc s.ties), .lit (.int .i64 s.horizon)], .agg [.lit (.int .i64 v1.now), .sl (rowsOf eI v1.times), .sl (rowsOf eI v1.values)]] [] (.lit (.bool res)) [] := by
  refine callOk_of (ra := []) (md := mdT) hT (hi := hi189) Go.Proofs.Try.func189 rfl rfl (by decide +kernel) (by simp) ?_
  unfold m_impl_isState at h
  rcases ite_some h with ⟨h1, h⟩ | ⟨h1, h⟩
  · cases h
    simp -implicitDefEqProofs -dsimp only [go_sem, ↓reduceIte, ↓dreduceIte, reduceCtorEq, Nat.reduceMul, Nat.reduceAdd, Nat.reduceSub, Nat.reduceDiv, Nat.reduceLT, Nat.reduceLeDiff, Nat.reduceEqDiff, Nat.reduceBEq, Int.reduceNeg, Int.reduceLT, Int.reduceLE, Int.reduceEq, Int.reduceToNat, (eq_true h1)]
  · rcases ite_some h with ⟨h2, h⟩ | ⟨h2, h⟩
    · cases h
      simp -implicitDefEqProofs -dsimp only [go_sem, ↓reduceIte, ↓dreduceIte, reduceCtorEq, Nat.reduceMul, Nat.reduceAdd, Nat.reduceSub, Nat.reduceDiv, Nat.reduceLT, Nat.reduceLeDiff, Nat.reduceEqDiff, Nat.reduceBEq, Int.reduceNeg, Int.reduceLT, Int.reduceLE, Int.reduceEq, Int.reduceToNat, (eq_false h1), (eq_true h2)]
    · rcases ite_some h with ⟨h3, h⟩ | ⟨h3, h⟩
      · obtain ⟨r1001, g4, h⟩ := obnd_some h
        simp -implicitDefEqProofs -dsimp only [go_sem, ↓reduceIte, ↓dreduceIte, reduceCtorEq, Nat.reduceMul, Nat.reduceAdd, Nat.reduceSub, Nat.reduceDiv, Nat.reduceLT, Nat.reduceLeDiff, Nat.reduceEqDiff, Nat.reduceBEq, Int.reduceNeg, Int.reduceLT, Int.reduceLE, Int.reduceEq, Int.reduceToNat, (eq_false h1), (eq_false h2), (eq_true h3)]
        refine callW_of (c_impl_ValuesOk g4) ?_
        rcases ite_some h with ⟨h5, h⟩ | ⟨h5, h⟩
        · obtain ⟨q1007, l6, h⟩ := obnd_some h
          simp -implicitDefEqProofs -dsimp only [go_sem, ↓reduceIte, ↓dreduceIte, reduceCtorEq, Nat.reduceMul, Nat.reduceAdd, Nat.reduceSub, Nat.reduceDiv, Nat.reduceLT, Nat.reduceLeDiff, Nat.reduceEqDiff, Nat.reduceBEq, Int.reduceNeg, Int.reduceLT, Int.reduceLE, Int.reduceEq, Int.reduceToNat, (eq_false h1), (eq_false h2), (eq_true h3), (eq_true h5), (condZ_t h5)]
          refine loopW_loopO (m1 := .mk) (m2 := .mk) [.nf [2, 3, 37, 38, 39] [128, 192]] (m_impl_isState_L1_St v1.times ((v1.times.length : Nat) : Int) s.nodes s.ties s.horizon v1.now v1.values) l6 ?_ ?_
          · simp -implicitDefEqProofs -dsimp only [go_sem, ↓reduceIte, ↓dreduceIte, reduceCtorEq, Nat.reduceMul, Nat.reduceAdd, Nat.reduceSub, Nat.reduceDiv, Nat.reduceLT, Nat.reduceLeDiff, Nat.reduceEqDiff, Nat.reduceBEq, Int.reduceNeg, Int.reduceLT, Int.reduceLE, Int.reduceEq, Int.reduceToNat, (eq_false h1), (eq_false h2), (eq_true h3), (eq_true h5), (condZ_t h5)]
          · intro nb7 sb7 bb7 b7 gb7
            obtain ⟨v39_1, eb7⟩ : ∃ v, v = sb7 := ⟨_, rfl⟩; subst eb7
            unfold m_impl_isState_L1 at b7
            try dsimp only at b7
            rcases ite_some b7 with ⟨h8, b7⟩ | ⟨h8, b7⟩
            · obtain ⟨x1002, g9, b7⟩ := obnd_some b7
              obtain ⟨h10, h11, h12⟩ := getI_some g9
              rcases ite_some b7 with ⟨h13, b7⟩ | ⟨h13, b7⟩
              · rcases ite_some b7 with ⟨h14, b7⟩ | ⟨h14, b7⟩
                · rcases ite_some b7 with ⟨h15, b7⟩ | ⟨h15, b7⟩
                  · rcases ite_some b7 with ⟨h16, b7⟩ | ⟨h16, b7⟩
                    · cases b7
                      have e17 := done_of gb7
                      subst e17
                      try dsimp only at h
                      cases h
                      simp -implicitDefEqProofs -dsimp only [go_sem, ↓reduceIte, ↓dreduceIte, reduceCtorEq, Nat.reduceMul, Nat.reduceAdd, Nat.reduceSub, Nat.reduceDiv, Nat.reduceLT, Nat.reduceLeDiff, Nat.reduceEqDiff, Nat.reduceBEq, Int.reduceNeg, Int.reduceLT, Int.reduceLE, Int.reduceEq, Int.reduceToNat, (eq_false h1), (eq_false h2), (eq_true h3), (eq_true h5), (condZ_t h5), (eq_true h8), h10, h11, h12, (eq_true h13), (eq_true h14), (eq_true h15), (eq_true h16)]
                    · rcases ite_some b7 with ⟨h18, b7⟩ | ⟨h18, b7⟩
                      · cases b7
                        have e19 := done_of gb7
                        subst e19
                        try dsimp only at h
                        cases h
                        simp -implicitDefEqProofs -dsimp only [go_sem, ↓reduceIte, ↓dreduceIte, reduceCtorEq, Nat.reduceMul, Nat.reduceAdd, Nat.reduceSub, Nat.reduceDiv, Nat.reduceLT, Nat.reduceLeDiff, Nat.reduceEqDiff, Nat.reduceBEq, Int.reduceNeg, Int.reduceLT, Int.reduceLE, Int.reduceEq, Int.reduceToNat, (eq_false h1), (eq_false h2), (eq_true h3), (eq_true h5), (condZ_t h5), (eq_true h8), h10, h11, h12, (eq_true h13), (eq_true h14), (eq_true h15), (eq_false h16), (eq_true h18)]
                      · cases b7
                        simp -implicitDefEqProofs -dsimp only [go_sem, ↓reduceIte, ↓dreduceIte, reduceCtorEq, Nat.reduceMul, Nat.reduceAdd, Nat.reduceSub, Nat.reduceDiv, Nat.reduceLT, Nat.reduceLeDiff, Nat.reduceEqDiff, Nat.reduceBEq, Int.reduceNeg, Int.reduceLT, Int.reduceLE, Int.reduceEq, Int.reduceToNat, (eq_false h1), (eq_false h2), (eq_true h3), (eq_true h5), (condZ_t h5), (eq_true h8), h10, h11, h12, (eq_true h13), (eq_true h14), (eq_true h15), (eq_false h16), (eq_false h18)]
                        refine next_of gb7 ?_
                        simp -implicitDefEqProofs -dsimp only [go_sem, ↓reduceIte, ↓dreduceIte, reduceCtorEq, Nat.reduceMul, Nat.reduceAdd, Nat.reduceSub, Nat.reduceDiv, Nat.reduceLT, Nat.reduceLeDiff, Nat.reduceEqDiff, Nat.reduceBEq, Int.reduceNeg, Int.reduceLT, Int.reduceLE, Int.reduceEq, Int.reduceToNat, (eq_false h1), (eq_false h2), (eq_true h3), (eq_true h5), (condZ_t h5), (eq_true h8), h10, h11, h12, (eq_true h13), (eq_true h14), (eq_true h15), (eq_false h16), (eq_false h18)]
                  · cases b7
                    simp -implicitDefEqProofs -dsimp only [go_sem, ↓reduceIte, ↓dreduceIte, reduceCtorEq, Nat.reduceMul, Nat.reduceAdd, Nat.reduceSub, Nat.reduceDiv, Nat.reduceLT, Nat.reduceLeDiff, Nat.reduceEqDiff, Nat.reduceBEq, Int.reduceNeg, Int.reduceLT, Int.reduceLE, Int.reduceEq, Int.reduceToNat, (eq_false h1), (eq_false h2), (eq_true h3), (eq_true h5), (condZ_t h5), (eq_true h8), h10, h11, h12, (eq_true h13), (eq_true h14), (eq_false h15)]
                    refine next_of gb7 ?_
                    simp -implicitDefEqProofs -dsimp only [go_sem, ↓reduceIte, ↓dreduceIte, reduceCtorEq, Nat.reduceMul, Nat.reduceAdd, Nat.reduceSub, Nat.reduceDiv, Nat.reduceLT, Nat.reduceLeDiff, Nat.reduceEqDiff, Nat.reduceBEq, Int.reduceNeg, Int.reduceLT, Int.reduceLE, Int.reduceEq, Int.reduceToNat, (eq_false h1), (eq_false h2), (eq_true h3), (eq_true h5), (condZ_t h5), (eq_true h8), h10, h11, h12, (eq_true h13), (eq_true h14), (eq_false h15)]
                · cases b7
                  have e20 := done_of gb7
                  subst e20
                  try dsimp only at h
                  cases h
                  simp -implicitDefEqProofs -dsimp only [go_sem, ↓reduceIte, ↓dreduceIte, reduceCtorEq, Nat.reduceMul, Nat.reduceAdd, Nat.reduceSub, Nat.reduceDiv, Nat.reduceLT, Nat.reduceLeDiff, Nat.reduceEqDiff, Nat.reduceBEq, Int.reduceNeg, Int.reduceLT, Int.reduceLE, Int.reduceEq, Int.reduceToNat, (eq_false h1), (eq_false h2), (eq_true h3), (eq_true h5), (condZ_t h5), (eq_true h8), h10, h11, h12, (eq_true h13), (eq_false h14)]
              · rcases ite_some b7 with ⟨h21, b7⟩ | ⟨h21, b7⟩
                · rcases ite_some b7 with ⟨h22, b7⟩ | ⟨h22, b7⟩
                  · cases b7
                    have e23 := done_of gb7
                    subst e23
                    try dsimp only at h
                    cases h
                    simp -implicitDefEqProofs -dsimp only [go_sem, ↓reduceIte, ↓dreduceIte, reduceCtorEq, Nat.reduceMul, Nat.reduceAdd, Nat.reduceSub, Nat.reduceDiv, Nat.reduceLT, Nat.reduceLeDiff, Nat.reduceEqDiff, Nat.reduceBEq, Int.reduceNeg, Int.reduceLT, Int.reduceLE, Int.reduceEq, Int.reduceToNat, (eq_false h1), (eq_false h2), (eq_true h3), (eq_true h5), (condZ_t h5), (eq_true h8), h10, h11, h12, (eq_false h13), (eq_true h21), (eq_true h22)]
                  · rcases ite_some b7 with ⟨h24, b7⟩ | ⟨h24, b7⟩
                    · cases b7
                      have e25 := done_of gb7
                      subst e25
                      try dsimp only at h
                      cases h
                      simp -implicitDefEqProofs -dsimp only [go_sem, ↓reduceIte, ↓dreduceIte, reduceCtorEq, Nat.reduceMul, Nat.reduceAdd, Nat.reduceSub, Nat.reduceDiv, Nat.reduceLT, Nat.reduceLeDiff, Nat.reduceEqDiff, Nat.reduceBEq, Int.reduceNeg, Int.reduceLT, Int.reduceLE, Int.reduceEq, Int.reduceToNat, (eq_false h1), (eq_false h2), (eq_true h3), (eq_true h5), (condZ_t h5), (eq_true h8), h10, h11, h12, (eq_false h13), (eq_true h21), (eq_false h22), (eq_true h24)]
                    · cases b7
                      simp -implicitDefEqProofs -dsimp only [go_sem, ↓reduceIte, ↓dreduceIte, reduceCtorEq, Nat.reduceMul, Nat.reduceAdd, Nat.reduceSub, Nat.reduceDiv, Nat.reduceLT, Nat.reduceLeDiff, Nat.reduceEqDiff, Nat.reduceBEq, Int.reduceNeg, Int.reduceLT, Int.reduceLE, Int.reduceEq, Int.reduceToNat, (eq_false h1), (eq_false h2), (eq_true h3), (eq_true h5), (condZ_t h5), (eq_true h8), h10, h11, h12, (eq_false h13), (eq_true h21), (eq_false h22), (eq_false h24)]
                      refine next_of gb7 ?_
                      simp -implicitDefEqProofs -dsimp only [go_sem, ↓reduceIte, ↓dreduceIte, reduceCtorEq, Nat.reduceMul, Nat.reduceAdd, Nat.reduceSub, Nat.reduceDiv, Nat.reduceLT, Nat.reduceLeDiff, Nat.reduceEqDiff, Nat.reduceBEq, Int.reduceNeg, Int.reduceLT, Int.reduceLE, Int.reduceEq, Int.reduceToNat, (eq_false h1), (eq_false h2), (eq_true h3), (eq_true h5), (condZ_t h5), (eq_true h8), h10, h11, h12, (eq_false h13), (eq_true h21), (eq_false h22), (eq_false h24)]
                · cases b7
                  simp -implicitDefEqProofs -dsimp only [go_sem, ↓reduceIte, ↓dreduceIte, reduceCtorEq, Nat.reduceMul, Nat.reduceAdd, Nat.reduceSub, Nat.reduceDiv, Nat.reduceLT, Nat.reduceLeDiff, Nat.reduceEqDiff, Nat.reduceBEq, Int.reduceNeg, Int.reduceLT, Int.reduceLE, Int.reduceEq, Int.reduceToNat, (eq_false h1), (eq_false h2), (eq_true h3), (eq_true h5), (condZ_t h5), (eq_true h8), h10, h11, h12, (eq_false h13), (eq_false h21)]
                  refine next_of gb7 ?_
                  simp -implicitDefEqProofs -dsimp only [go_sem, ↓reduceIte, ↓dreduceIte, reduceCtorEq, Nat.reduceMul, Nat.reduceAdd, Nat.reduceSub, Nat.reduceDiv, Nat.reduceLT, Nat.reduceLeDiff, Nat.reduceEqDiff, Nat.reduceBEq, Int.reduceNeg, Int.reduceLT, Int.reduceLE, Int.reduceEq, Int.reduceToNat, (eq_false h1), (eq_false h2), (eq_true h3), (eq_true h5), (condZ_t h5), (eq_true h8), h10, h11, h12, (eq_false h13), (eq_false h21)]
            · cases b7
              have e26 := done_of gb7
              subst e26
              try dsimp only at h
              obtain ⟨q1006, l27, h⟩ := obnd_some h
              simp -implicitDefEqProofs -dsimp only [go_sem, ↓reduceIte, ↓dreduceIte, reduceCtorEq, Nat.reduceMul, Nat.reduceAdd, Nat.reduceSub, Nat.reduceDiv, Nat.reduceLT, Nat.reduceLeDiff, Nat.reduceEqDiff, Nat.reduceBEq, Int.reduceNeg, Int.reduceLT, Int.reduceLE, Int.reduceEq, Int.reduceToNat, (eq_false h1), (eq_false h2), (eq_true h3), (eq_true h5), (condZ_t h5), (eq_false h8)]
              refine loopW_loopO (m1 := .mk) (m2 := .mk) [.nf [2, 3, 67, 68, 69] [128, 192]] (m_impl_isState_L2_St v1.values ((v1.values.length : Nat) : Int) s.nodes s.ties s.horizon v1.now v1.times) l27 ?_ ?_
              · simp -implicitDefEqProofs -dsimp only [go_sem, ↓reduceIte, ↓dreduceIte, reduceCtorEq, Nat.reduceMul, Nat.reduceAdd, Nat.reduceSub, Nat.reduceDiv, Nat.reduceLT, Nat.reduceLeDiff, Nat.reduceEqDiff, Nat.reduceBEq, Int.reduceNeg, Int.reduceLT, Int.reduceLE, Int.reduceEq, Int.reduceToNat, (eq_false h1), (eq_false h2), (eq_true h3), (eq_true h5), (condZ_t h5), (eq_false h8)]
              · intro nb28 sb28 bb28 b28 gb28
                obtain ⟨v69_2, eb28⟩ : ∃ v, v = sb28 := ⟨_, rfl⟩; subst eb28
                unfold m_impl_isState_L2 at b28
                try dsimp only at b28
                rcases ite_some b28 with ⟨h29, b28⟩ | ⟨h29, b28⟩
                · obtain ⟨x1003, g30, b28⟩ := obnd_some b28
                  obtain ⟨h31, h32, h33⟩ := getI_some g30
                  obtain ⟨r1004, g34, b28⟩ := obnd_some b28
                  simp -implicitDefEqProofs -dsimp only [go_sem, ↓reduceIte, ↓dreduceIte, reduceCtorEq, Nat.reduceMul, Nat.reduceAdd, Nat.reduceSub, Nat.reduceDiv, Nat.reduceLT, Nat.reduceLeDiff, Nat.reduceEqDiff, Nat.reduceBEq, Int.reduceNeg, Int.reduceLT, Int.reduceLE, Int.reduceEq, Int.reduceToNat, (eq_false h1), (eq_false h2), (eq_true h3), (eq_true h5), (condZ_t h5), (eq_false h8), (eq_true h29), h31, h32, h33]
                  refine callW_of (c_impl_watcher g34) ?_
                  rcases ite_some b28 with ⟨h35, b28⟩ | ⟨h35, b28⟩
                  · obtain ⟨x1005, g36, b28⟩ := obnd_some b28
                    obtain ⟨h37, h38, h39⟩ := getI_some g36
                    rcases ite_some b28 with ⟨h40, b28⟩ | ⟨h40, b28⟩
                    · cases b28
                      simp -implicitDefEqProofs -dsimp only [go_sem, ↓reduceIte, ↓dreduceIte, reduceCtorEq, Nat.reduceMul, Nat.reduceAdd, Nat.reduceSub, Nat.reduceDiv, Nat.reduceLT, Nat.reduceLeDiff, Nat.reduceEqDiff, Nat.reduceBEq, Int.reduceNeg, Int.reduceLT, Int.reduceLE, Int.reduceEq, Int.reduceToNat, (eq_false h1), (eq_false h2), (eq_true h3), (eq_true h5), (condZ_t h5), (eq_false h8), (eq_true h29), h31, h32, h33, (eq_true h35), h37, h38, h39, (eq_true h40)]
                      refine next_of gb28 ?_
                      simp -implicitDefEqProofs -dsimp only [go_sem, ↓reduceIte, ↓dreduceIte, reduceCtorEq, Nat.reduceMul, Nat.reduceAdd, Nat.reduceSub, Nat.reduceDiv, Nat.reduceLT, Nat.reduceLeDiff, Nat.reduceEqDiff, Nat.reduceBEq, Int.reduceNeg, Int.reduceLT, Int.reduceLE, Int.reduceEq, Int.reduceToNat, (eq_false h1), (eq_false h2), (eq_true h3), (eq_true h5), (condZ_t h5), (eq_false h8), (eq_true h29), h31, h32, h33, (eq_true h35), h37, h38, h39, (eq_true h40)]
                    · cases b28
                      have e41 := done_of gb28
                      subst e41
                      try dsimp only at h
                      cases h
                      simp -implicitDefEqProofs -dsimp only [go_sem, ↓reduceIte, ↓dreduceIte, reduceCtorEq, Nat.reduceMul, Nat.reduceAdd, Nat.reduceSub, Nat.reduceDiv, Nat.reduceLT, Nat.reduceLeDiff, Nat.reduceEqDiff, Nat.reduceBEq, Int.reduceNeg, Int.reduceLT, Int.reduceLE, Int.reduceEq, Int.reduceToNat, (eq_false h1), (eq_false h2), (eq_true h3), (eq_true h5), (condZ_t h5), (eq_false h8), (eq_true h29), h31, h32, h33, (eq_true h35), h37, h38, h39, (eq_false h40)]
                  · rcases ite_some b28 with ⟨h42, b28⟩ | ⟨h42, b28⟩
                    · cases b28
                      simp -implicitDefEqProofs -dsimp only [go_sem, ↓reduceIte, ↓dreduceIte, reduceCtorEq, Nat.reduceMul, Nat.reduceAdd, Nat.reduceSub, Nat.reduceDiv, Nat.reduceLT, Nat.reduceLeDiff, Nat.reduceEqDiff, Nat.reduceBEq, Int.reduceNeg, Int.reduceLT, Int.reduceLE, Int.reduceEq, Int.reduceToNat, (eq_false h1), (eq_false h2), (eq_true h3), (eq_true h5), (condZ_t h5), (eq_false h8), (eq_true h29), h31, h32, h33, (eq_false h35), (eq_true h42)]
                      refine next_of gb28 ?_
                      simp -implicitDefEqProofs -dsimp only [go_sem, ↓reduceIte, ↓dreduceIte, reduceCtorEq, Nat.reduceMul, Nat.reduceAdd, Nat.reduceSub, Nat.reduceDiv, Nat.reduceLT, Nat.reduceLeDiff, Nat.reduceEqDiff, Nat.reduceBEq, Int.reduceNeg, Int.reduceLT, Int.reduceLE, Int.reduceEq, Int.reduceToNat, (eq_false h1), (eq_false h2), (eq_true h3), (eq_true h5), (condZ_t h5), (eq_false h8), (eq_true h29), h31, h32, h33, (eq_false h35), (eq_true h42)]
                    · cases b28
                      have e43 := done_of gb28
                      subst e43
                      try dsimp only at h
                      cases h
                      simp -implicitDefEqProofs -dsimp only [go_sem, ↓reduceIte, ↓dreduceIte, reduceCtorEq, Nat.reduceMul, Nat.reduceAdd, Nat.reduceSub, Nat.reduceDiv, Nat.reduceLT, Nat.reduceLeDiff, Nat.reduceEqDiff, Nat.reduceBEq, Int.reduceNeg, Int.reduceLT, Int.reduceLE, Int.reduceEq, Int.reduceToNat, (eq_false h1), (eq_false h2), (eq_true h3), (eq_true h5), (condZ_t h5), (eq_false h8), (eq_true h29), h31, h32, h33, (eq_false h35), (eq_false h42)]
                · cases b28
                  have e44 := done_of gb28
                  subst e44
                  try dsimp only at h
                  cases h
                  simp -implicitDefEqProofs -dsimp only [go_sem, ↓reduceIte, ↓dreduceIte, reduceCtorEq, Nat.reduceMul, Nat.reduceAdd, Nat.reduceSub, Nat.reduceDiv, Nat.reduceLT, Nat.reduceLeDiff, Nat.reduceEqDiff, Nat.reduceBEq, Int.reduceNeg, Int.reduceLT, Int.reduceLE, Int.reduceEq, Int.reduceToNat, (eq_false h1), (eq_false h2), (eq_true h3), (eq_true h5), (condZ_t h5), (eq_false h8), (eq_false h29)]
        · cases h
          simp -implicitDefEqProofs -dsimp only [go_sem, ↓reduceIte, ↓dreduceIte, reduceCtorEq, Nat.reduceMul, Nat.reduceAdd, Nat.reduceSub, Nat.reduceDiv, Nat.reduceLT, Nat.reduceLeDiff, Nat.reduceEqDiff, Nat.reduceBEq, Int.reduceNeg, Int.reduceLT, Int.reduceLE, Int.reduceEq, Int.reduceToNat, (eq_false h1), (eq_false h2), (eq_true h3), (eq_false h5), (condZ_f h5)]
      · cases h
        simp -implicitDefEqProofs -dsimp only [go_sem, ↓reduceIte, ↓dreduceIte, reduceCtorEq, Nat.reduceMul, Nat.reduceAdd, Nat.reduceSub, Nat.reduceDiv, Nat.reduceLT, Nat.reduceLeDiff, Nat.reduceEqDiff, Nat.reduceBEq, Int.reduceNeg, Int.reduceLT, Int.reduceLE, Int.reduceEq, Int.reduceToNat, (eq_false h1), (eq_false h2), (eq_false h3)]
/- 138 loop.example/g00827/impl.StateOk -/
def hi138 : Hint where
  acts := fun _ => []
  draws := fun
    | _ => ⟨[], [], []⟩
theorem hi138a (i : Nat) : hi138.acts i = [] := rfl
theorem hi138v (i : Nat) : hi138.views i = none := rfl
attribute [go_sem] hi138a hi138v Go.Proofs.Try.ntmps138 Go.Proofs.Try.results138
theorem c_impl_StateOk {s : GShow} {v1 : GState} {res : Bool} (h : m_impl_StateOk s v1 = some res) : CallOk Go.Proofs.Try.prog 138 [.agg [.sl (rowsOf GNode.encS s.nodes), .sl (rowsOf GTie.enc s.ties), .lit (.int .i64 s.horizon)], .agg [.lit (.int .i64 v1.now), .sl (rowsOf eI v1.times), .sl (rowsOf eI v1.values)]] [] (.lit (.bool res)) [] := by
  refine callOk_of (ra := []) (md := mdT) hT (hi := hi138) Go.Proofs.Try.func138 rfl rfl (by decide +kernel) (by simp) ?_
  unfold m_impl_StateOk at h
  obtain ⟨r1001, g1, h⟩ := obnd_some h
  simp -implicitDefEqProofs -dsimp only [go_sem, ↓reduceIte, ↓dreduceIte, reduceCtorEq, Nat.reduceMul, Nat.reduceAdd, Nat.reduceSub, Nat.reduceDiv, Nat.reduceLT, Nat.reduceLeDiff, Nat.reduceEqDiff, Nat.reduceBEq, Int.reduceNeg, Int.reduceLT, Int.reduceLE, Int.reduceEq, Int.reduceToNat]
  refine callW_of (c_impl_ShowOk g1) ?_
  rcases ite_some h with ⟨h2, h⟩ | ⟨h2, h⟩
  · obtain ⟨r1002, g3, h⟩ := obnd_some h
    simp -implicitDefEqProofs -dsimp only [go_sem, ↓reduceIte, ↓dreduceIte, reduceCtorEq, Nat.reduceMul, Nat.reduceAdd, Nat.reduceSub, Nat.reduceDiv, Nat.reduceLT, Nat.reduceLeDiff, Nat.reduceEqDiff, Nat.reduceBEq, Int.reduceNeg, Int.reduceLT, Int.reduceLE, Int.reduceEq, Int.reduceToNat, (eq_true h2), (condZ_t h2)]
    refine callW_of (c_impl_isState g3) ?_
    cases h
    simp -implicitDefEqProofs -dsimp only [go_sem, ↓reduceIte, ↓dreduceIte, reduceCtorEq, Nat.reduceMul, Nat.reduceAdd, Nat.reduceSub, Nat.reduceDiv, Nat.reduceLT, Nat.reduceLeDiff, Nat.reduceEqDiff, Nat.reduceBEq, Int.reduceNeg, Int.reduceLT, Int.reduceLE, Int.reduceEq, Int.reduceToNat, (eq_true h2), (condZ_t h2)]
  · cases h
    simp -implicitDefEqProofs -dsimp only [go_sem, ↓reduceIte, ↓dreduceIte, reduceCtorEq, Nat.reduceMul, Nat.reduceAdd, Nat.reduceSub, Nat.reduceDiv, Nat.reduceLT, Nat.reduceLeDiff, Nat.reduceEqDiff, Nat.reduceBEq, Int.reduceNeg, Int.reduceLT, Int.reduceLE, Int.reduceEq, Int.reduceToNat, (eq_false h2), (condZ_f h2)]
/- 66 loop.example/g00827/impl.TakesOf -/
def m_impl_TakesOf_L1_St (v13 : List GTie) (v14 : Int) (v3_0 : Int) (v3_1 : List Int) (v3_2 : List Int) : (Int × (List GTake)) → St
  | (v15, out) => ⟨[(3, .ptr 192 1 0 0), (5, .ref 383 1 0 out.length), (13, .sl (rowsOf GTie.enc v13)), (14, .lit (.int .i64 v14)), (15, .lit (.int .i64 v15))], [(192, 1, .var [.lit (.int .i64 v3_0), .sl (rowsOf eI v3_1), .sl (rowsOf eI v3_2)]), (383, 1, .row true (rowsOf GTake.enc out))], 2⟩
attribute [go_sem] m_impl_TakesOf_L1_St
def hi66 : Hint where
  acts := fun _ => []
  draws := fun
    | 8 => ⟨[⟨0, false, []⟩, ⟨1, false, []⟩, ⟨2, false, []⟩, ⟨3, false, []⟩, ⟨4, false, []⟩, ⟨5, false, []⟩, ⟨6, false, []⟩, ⟨7, false, []⟩, ⟨8, false, []⟩, ⟨9, false, []⟩, ⟨10, false, []⟩, ⟨11, false, []⟩, ⟨12, false, []⟩, ⟨13, false, []⟩, ⟨14, false, []⟩, ⟨15, false, []⟩, ⟨16, false, []⟩, ⟨17, false, []⟩, ⟨18, false, []⟩], [[], [], [], [2], [], [4], [2, 3, 4, 5], [2, 3, 4, 5, 6], [], [8], [], [10], [8, 9, 10, 11], [8, 9, 10, 11, 12], [2, 3, 4, 5, 6, 7, 8, 9, 10, 11, 12, 13], [1, 2, 3, 4, 5, 6, 7, 8, 9, 10, 11, 12, 13, 14], [1, 2, 3, 4, 5, 6, 7, 8, 9, 10, 11, 12, 13, 14, 15], [0, 1, 2, 3, 4, 5, 6, 7, 8, 9, 10, 11, 12, 13, 14, 15, 16], [0, 1, 2, 3, 4, 5, 6, 7, 8, 9, 10, 11, 12, 13, 14, 15, 16, 17]], [0, 1, 2, 3, 4, 5, 6, 7, 8, 9, 10, 11, 12, 13, 14, 15, 16, 17, 18]⟩
    | _ => ⟨[], [], []⟩
theorem hi66a (i : Nat) : hi66.acts i = [] := rfl
theorem hi66v (i : Nat) : hi66.views i = none := rfl
attribute [go_sem] hi66a hi66v Go.Proofs.Try.ntmps66 Go.Proofs.Try.results66
@[go_sem] theorem hi66d8 : (hi66.draws 8).order = [⟨0, false, []⟩, ⟨1, false, []⟩, ⟨2, false, []⟩, ⟨3, false, []⟩, ⟨4, false, []⟩, ⟨5, false, []⟩, ⟨6, false, []⟩, ⟨7, false, []⟩, ⟨8, false, []⟩, ⟨9, false, []⟩, ⟨10, false, []⟩, ⟨11, false, []⟩, ⟨12, false, []⟩, ⟨13, false, []⟩, ⟨14, false, []⟩, ⟨15, false, []⟩, ⟨16, false, []⟩, ⟨17, false, []⟩, ⟨18, false, []⟩] := rfl
theorem c_impl_TakesOf {s : GShow} {v1 : GState} {res : List GTake} (h : m_impl_TakesOf s v1 = some res) : CallOk Go.Proofs.Try.prog 66 [.agg [.sl (rowsOf GNode.encS s.nodes), .sl (rowsOf GTie.enc s.ties), .lit (.int .i64 s.horizon)], .agg [.lit (.int .i64 v1.now), .sl (rowsOf eI v1.times), .sl (rowsOf eI v1.values)]] [] (.ref 20000 1 0 res.length) [(20000, 1, .row true (rowsOf GTake.enc res))] := by
  refine callOk_of (ra := [.home 4]) (md := mdT) hT (hi := hi66) Go.Proofs.Try.func66 rfl rfl (by decide +kernel) (by simp) ?_
  unfold m_impl_TakesOf at h
  obtain ⟨r1001, g1, h⟩ := obnd_some h
  simp -implicitDefEqProofs -dsimp only [go_sem, ↓reduceIte, ↓dreduceIte, reduceCtorEq, Nat.reduceMul, Nat.reduceAdd, Nat.reduceSub, Nat.reduceDiv, Nat.reduceLT, Nat.reduceLeDiff, Nat.reduceEqDiff, Nat.reduceBEq, Int.reduceNeg, Int.reduceLT, Int.reduceLE, Int.reduceEq, Int.reduceToNat]
  refine callW_of (c_impl_StateOk g1) ?_
  rcases ite_some h with ⟨h2, h⟩ | ⟨h2, h⟩
  · obtain ⟨q1005, l3, h⟩ := obnd_some h
    simp -implicitDefEqProofs -dsimp only [go_sem, ↓reduceIte, ↓dreduceIte, reduceCtorEq, Nat.reduceMul, Nat.reduceAdd, Nat.reduceSub, Nat.reduceDiv, Nat.reduceLT, Nat.reduceLeDiff, Nat.reduceEqDiff, Nat.reduceBEq, Int.reduceNeg, Int.reduceLT, Int.reduceLE, Int.reduceEq, Int.reduceToNat, (eq_true h2), (condZ_t h2)]
    refine loopW_loopO (m1 := .mk) (m2 := .mk) [.home 5, .nf [3, 5, 13, 14, 15] [192, 383]] (m_impl_TakesOf_L1_St s.ties ((s.ties.length : Nat) : Int) v1.now v1.times v1.values) l3 ?_ ?_
    · simp -implicitDefEqProofs -dsimp only [go_sem, ↓reduceIte, ↓dreduceIte, reduceCtorEq, Nat.reduceMul, Nat.reduceAdd, Nat.reduceSub, Nat.reduceDiv, Nat.reduceLT, Nat.reduceLeDiff, Nat.reduceEqDiff, Nat.reduceBEq, Int.reduceNeg, Int.reduceLT, Int.reduceLE, Int.reduceEq, Int.reduceToNat, (eq_true h2), (condZ_t h2)]
    · intro nb4 sb4 bb4 b4 gb4
      obtain ⟨v15_1, out_1⟩ := sb4
      unfold m_impl_TakesOf_L1 at b4
      try dsimp only at b4
      rcases ite_some b4 with ⟨h5, b4⟩ | ⟨h5, b4⟩
      · obtain ⟨x1002, g6, b4⟩ := obnd_some b4
        obtain ⟨h7, h8, h9⟩ := getI_some g6
        rcases ite_some b4 with ⟨h10, b4⟩ | ⟨h10, b4⟩
        · obtain ⟨x1003, g11, b4⟩ := obnd_some b4
          obtain ⟨h12, h13, h14⟩ := getI_some g11
          rcases ite_some b4 with ⟨h15, b4⟩ | ⟨h15, b4⟩
          · cases b4
            simp -implicitDefEqProofs -dsimp only [go_sem, ↓reduceIte, ↓dreduceIte, reduceCtorEq, Nat.reduceMul, Nat.reduceAdd, Nat.reduceSub, Nat.reduceDiv, Nat.reduceLT, Nat.reduceLeDiff, Nat.reduceEqDiff, Nat.reduceBEq, Int.reduceNeg, Int.reduceLT, Int.reduceLE, Int.reduceEq, Int.reduceToNat, (eq_true h2), (condZ_t h2), (eq_true h5), h7, h8, h9, (eq_true h10), (condZ_t h10), h12, h13, h14, (eq_true h15)]
            refine next_of gb4 ?_
            simp -implicitDefEqProofs -dsimp only [go_sem, ↓reduceIte, ↓dreduceIte, reduceCtorEq, Nat.reduceMul, Nat.reduceAdd, Nat.reduceSub, Nat.reduceDiv, Nat.reduceLT, Nat.reduceLeDiff, Nat.reduceEqDiff, Nat.reduceBEq, Int.reduceNeg, Int.reduceLT, Int.reduceLE, Int.reduceEq, Int.reduceToNat, (eq_true h2), (condZ_t h2), (eq_true h5), h7, h8, h9, (eq_true h10), (condZ_t h10), h12, h13, h14, (eq_true h15)]
          · obtain ⟨x1004, g16, b4⟩ := obnd_some b4
            obtain ⟨h17, h18, h19⟩ := getI_some g16
            rcases ite_some b4 with ⟨h20, b4⟩ | ⟨h20, b4⟩
            · cases b4
              simp -implicitDefEqProofs -dsimp only [go_sem, ↓reduceIte, ↓dreduceIte, reduceCtorEq, Nat.reduceMul, Nat.reduceAdd, Nat.reduceSub, Nat.reduceDiv, Nat.reduceLT, Nat.reduceLeDiff, Nat.reduceEqDiff, Nat.reduceBEq, Int.reduceNeg, Int.reduceLT, Int.reduceLE, Int.reduceEq, Int.reduceToNat, (eq_true h2), (condZ_t h2), (eq_true h5), h7, h8, h9, (eq_true h10), (condZ_t h10), h12, h13, h14, (eq_false h15), h17, h18, h19, (eq_true h20)]
              refine next_of gb4 ?_
              simp -implicitDefEqProofs -dsimp only [go_sem, ↓reduceIte, ↓dreduceIte, reduceCtorEq, Nat.reduceMul, Nat.reduceAdd, Nat.reduceSub, Nat.reduceDiv, Nat.reduceLT, Nat.reduceLeDiff, Nat.reduceEqDiff, Nat.reduceBEq, Int.reduceNeg, Int.reduceLT, Int.reduceLE, Int.reduceEq, Int.reduceToNat, (eq_true h2), (condZ_t h2), (eq_true h5), h7, h8, h9, (eq_true h10), (condZ_t h10), h12, h13, h14, (eq_false h15), h17, h18, h19, (eq_true h20)]
            · obtain ⟨h21, b4⟩ := chk_some b4
              obtain ⟨h22, b4⟩ := chk_some b4
              cases b4
              simp -implicitDefEqProofs -dsimp only [go_sem, ↓reduceIte, ↓dreduceIte, reduceCtorEq, Nat.reduceMul, Nat.reduceAdd, Nat.reduceSub, Nat.reduceDiv, Nat.reduceLT, Nat.reduceLeDiff, Nat.reduceEqDiff, Nat.reduceBEq, Int.reduceNeg, Int.reduceLT, Int.reduceLE, Int.reduceEq, Int.reduceToNat, (eq_true h2), (condZ_t h2), (eq_true h5), h7, h8, h9, (eq_true h10), (condZ_t h10), h12, h13, h14, (eq_false h15), h17, h18, h19, (eq_false h20), (eq_true h21), (eq_true h22)]
              refine next_of gb4 ?_
              simp -implicitDefEqProofs -dsimp only [go_sem, ↓reduceIte, ↓dreduceIte, reduceCtorEq, Nat.reduceMul, Nat.reduceAdd, Nat.reduceSub, Nat.reduceDiv, Nat.reduceLT, Nat.reduceLeDiff, Nat.reduceEqDiff, Nat.reduceBEq, Int.reduceNeg, Int.reduceLT, Int.reduceLE, Int.reduceEq, Int.reduceToNat, (eq_true h2), (condZ_t h2), (eq_true h5), h7, h8, h9, (eq_true h10), (condZ_t h10), h12, h13, h14, (eq_false h15), h17, h18, h19, (eq_false h20), (eq_true h21), (eq_true h22)]
        · cases b4
          simp -implicitDefEqProofs -dsimp only [go_sem, ↓reduceIte, ↓dreduceIte, reduceCtorEq, Nat.reduceMul, Nat.reduceAdd, Nat.reduceSub, Nat.reduceDiv, Nat.reduceLT, Nat.reduceLeDiff, Nat.reduceEqDiff, Nat.reduceBEq, Int.reduceNeg, Int.reduceLT, Int.reduceLE, Int.reduceEq, Int.reduceToNat, (eq_true h2), (condZ_t h2), (eq_true h5), h7, h8, h9, (eq_false h10), (condZ_f h10)]
          refine next_of gb4 ?_
          simp -implicitDefEqProofs -dsimp only [go_sem, ↓reduceIte, ↓dreduceIte, reduceCtorEq, Nat.reduceMul, Nat.reduceAdd, Nat.reduceSub, Nat.reduceDiv, Nat.reduceLT, Nat.reduceLeDiff, Nat.reduceEqDiff, Nat.reduceBEq, Int.reduceNeg, Int.reduceLT, Int.reduceLE, Int.reduceEq, Int.reduceToNat, (eq_true h2), (condZ_t h2), (eq_true h5), h7, h8, h9, (eq_false h10), (condZ_f h10)]
      · cases b4
        have e23 := done_of gb4
        subst e23
        try dsimp only at h
        cases h
        simp -implicitDefEqProofs -dsimp only [go_sem, ↓reduceIte, ↓dreduceIte, reduceCtorEq, Nat.reduceMul, Nat.reduceAdd, Nat.reduceSub, Nat.reduceDiv, Nat.reduceLT, Nat.reduceLeDiff, Nat.reduceEqDiff, Nat.reduceBEq, Int.reduceNeg, Int.reduceLT, Int.reduceLE, Int.reduceEq, Int.reduceToNat, (eq_true h2), (condZ_t h2), (eq_false h5)]
  · cases h
    simp -implicitDefEqProofs -dsimp only [go_sem, ↓reduceIte, ↓dreduceIte, reduceCtorEq, Nat.reduceMul, Nat.reduceAdd, Nat.reduceSub, Nat.reduceDiv, Nat.reduceLT, Nat.reduceLeDiff, Nat.reduceEqDiff, Nat.reduceBEq, Int.reduceNeg, Int.reduceLT, Int.reduceLE, Int.reduceEq, Int.reduceToNat, (eq_false h2), (condZ_f h2)]
/- 125 loop.example/g00827/laws.eqTake -/
def hi125 : Hint where
  acts := fun _ => []
  draws := fun
    | _ => ⟨[], [], []⟩
theorem hi125a (i : Nat) : hi125.acts i = [] := rfl
theorem hi125v (i : Nat) : hi125.views i = none := rfl
attribute [go_sem] hi125a hi125v Go.Proofs.Try.ntmps125 Go.Proofs.Try.results125
theorem c_laws_eqTake {a : GTake} {b : GTake} {res : Bool} (h : m_laws_eqTake a b = some res) : CallOk Go.Proofs.Try.prog 125 [.agg [.lit (.int .i64 a.tie), .lit (.int .i64 a.length)], .agg [.lit (.int .i64 b.tie), .lit (.int .i64 b.length)]] [] (.lit (.bool res)) [] := by
  refine callOk_of (ra := []) (md := mdT) hT (hi := hi125) Go.Proofs.Try.func125 rfl rfl (by decide +kernel) (by simp) ?_
  unfold m_laws_eqTake at h
  rcases ite_some h with ⟨h1, h⟩ | ⟨h1, h⟩
  · rcases ite_some h with ⟨h2, h⟩ | ⟨h2, h⟩
    · cases h
      simp -implicitDefEqProofs -dsimp only [go_sem, ↓reduceIte, ↓dreduceIte, reduceCtorEq, Nat.reduceMul, Nat.reduceAdd, Nat.reduceSub, Nat.reduceDiv, Nat.reduceLT, Nat.reduceLeDiff, Nat.reduceEqDiff, Nat.reduceBEq, Int.reduceNeg, Int.reduceLT, Int.reduceLE, Int.reduceEq, Int.reduceToNat, (eq_true h1), (eq_true h2)]
    · cases h
      simp -implicitDefEqProofs -dsimp only [go_sem, ↓reduceIte, ↓dreduceIte, reduceCtorEq, Nat.reduceMul, Nat.reduceAdd, Nat.reduceSub, Nat.reduceDiv, Nat.reduceLT, Nat.reduceLeDiff, Nat.reduceEqDiff, Nat.reduceBEq, Int.reduceNeg, Int.reduceLT, Int.reduceLE, Int.reduceEq, Int.reduceToNat, (eq_true h1), (eq_false h2)]
  · cases h
    simp -implicitDefEqProofs -dsimp only [go_sem, ↓reduceIte, ↓dreduceIte, reduceCtorEq, Nat.reduceMul, Nat.reduceAdd, Nat.reduceSub, Nat.reduceDiv, Nat.reduceLT, Nat.reduceLeDiff, Nat.reduceEqDiff, Nat.reduceBEq, Int.reduceNeg, Int.reduceLT, Int.reduceLE, Int.reduceEq, Int.reduceToNat, (eq_false h1)]
/- 49 loop.example/g00827/laws.eqTakeS -/
def m_laws_eqTakeS_L1_St (a : List GTake) (b : List GTake) (i : Int) : St := ⟨[(0, .sl (rowsOf GTake.enc a)), (1, .sl (rowsOf GTake.enc b)), (5, .lit (.int .i64 i))], [], 2⟩
attribute [go_sem] m_laws_eqTakeS_L1_St
def hi49 : Hint where
  acts := fun _ => []
  draws := fun
    | 6 => ⟨[⟨0, false, []⟩, ⟨1, false, []⟩, ⟨2, false, []⟩, ⟨3, false, []⟩, ⟨4, false, []⟩, ⟨5, false, []⟩, ⟨6, false, []⟩, ⟨7, false, []⟩, ⟨8, false, []⟩, ⟨9, false, []⟩], [[], [], [0, 1], [0, 1, 2], [], [], [4, 5], [4, 5, 6], [0, 1, 2, 3, 4, 5, 6, 7], [0, 1, 2, 3, 4, 5, 6, 7, 8]], [0, 1, 2, 3, 4, 5, 6, 7, 8, 9]⟩
    | _ => ⟨[], [], []⟩
theorem hi49a (i : Nat) : hi49.acts i = [] := rfl
theorem hi49v (i : Nat) : hi49.views i = none := rfl
attribute [go_sem] hi49a hi49v Go.Proofs.Try.ntmps49 Go.Proofs.Try.results49
@[go_sem] theorem hi49d6 : (hi49.draws 6).order = [⟨0, false, []⟩, ⟨1, false, []⟩, ⟨2, false, []⟩, ⟨3, false, []⟩, ⟨4, false, []⟩, ⟨5, false, []⟩, ⟨6, false, []⟩, ⟨7, false, []⟩, ⟨8, false, []⟩, ⟨9, false, []⟩] := rfl
theorem c_laws_eqTakeS {a : List GTake} {b : List GTake} {res : Bool} (h : m_laws_eqTakeS a b = some res) : CallOk Go.Proofs.Try.prog 49 [.sl (rowsOf GTake.enc a), .sl (rowsOf GTake.enc b)] [] (.lit (.bool res)) [] := by
  refine callOk_of (ra := []) (md := mdT) hT (hi := hi49) Go.Proofs.Try.func49 rfl rfl (by decide +kernel) (by simp) ?_
  unfold m_laws_eqTakeS at h
  rcases ite_some h with ⟨h1, h⟩ | ⟨h1, h⟩
  · obtain ⟨q1004, l2, h⟩ := obnd_some h
    simp -implicitDefEqProofs -dsimp only [go_sem, ↓reduceIte, ↓dreduceIte, reduceCtorEq, Nat.reduceMul, Nat.reduceAdd, Nat.reduceSub, Nat.reduceDiv, Nat.reduceLT, Nat.reduceLeDiff, Nat.reduceEqDiff, Nat.reduceBEq, Int.reduceNeg, Int.reduceLT, Int.reduceLE, Int.reduceEq, Int.reduceToNat, (eq_true h1)]
    refine loopW_loopO (m1 := .mk) (m2 := .mk) [.nf [0, 1, 5] []] (m_laws_eqTakeS_L1_St a b) l2 ?_ ?_
    · simp -implicitDefEqProofs -dsimp only [go_sem, ↓reduceIte, ↓dreduceIte, reduceCtorEq, Nat.reduceMul, Nat.reduceAdd, Nat.reduceSub, Nat.reduceDiv, Nat.reduceLT, Nat.reduceLeDiff, Nat.reduceEqDiff, Nat.reduceBEq, Int.reduceNeg, Int.reduceLT, Int.reduceLE, Int.reduceEq, Int.reduceToNat, (eq_true h1)]
    · intro nb3 sb3 bb3 b3 gb3
      obtain ⟨i_1, eb3⟩ : ∃ v, v = sb3 := ⟨_, rfl⟩; subst eb3
      unfold m_laws_eqTakeS_L1 at b3
      try dsimp only at b3
      rcases ite_some b3 with ⟨h4, b3⟩ | ⟨h4, b3⟩
      · obtain ⟨x1001, g5, b3⟩ := obnd_some b3
        obtain ⟨h6, h7, h8⟩ := getI_some g5
        obtain ⟨x1002, g9, b3⟩ := obnd_some b3
        obtain ⟨h10, h11, h12⟩ := getI_some g9
        obtain ⟨r1003, g13, b3⟩ := obnd_some b3
        simp -implicitDefEqProofs -dsimp only [go_sem, ↓reduceIte, ↓dreduceIte, reduceCtorEq, Nat.reduceMul, Nat.reduceAdd, Nat.reduceSub, Nat.reduceDiv, Nat.reduceLT, Nat.reduceLeDiff, Nat.reduceEqDiff, Nat.reduceBEq, Int.reduceNeg, Int.reduceLT, Int.reduceLE, Int.reduceEq, Int.reduceToNat, (eq_true h1), (eq_true h4), h6, h7, h8, h10, h11, h12]
        refine callW_of (c_laws_eqTake g13) ?_
        rcases ite_some b3 with ⟨h14, b3⟩ | ⟨h14, b3⟩
        · cases b3
          simp -implicitDefEqProofs -dsimp only [go_sem, ↓reduceIte, ↓dreduceIte, reduceCtorEq, Nat.reduceMul, Nat.reduceAdd, Nat.reduceSub, Nat.reduceDiv, Nat.reduceLT, Nat.reduceLeDiff, Nat.reduceEqDiff, Nat.reduceBEq, Int.reduceNeg, Int.reduceLT, Int.reduceLE, Int.reduceEq, Int.reduceToNat, (eq_true h1), (eq_true h4), h6, h7, h8, h10, h11, h12, (eq_true h14), (condZ_t h14)]
          refine next_of gb3 ?_
          simp -implicitDefEqProofs -dsimp only [go_sem, ↓reduceIte, ↓dreduceIte, reduceCtorEq, Nat.reduceMul, Nat.reduceAdd, Nat.reduceSub, Nat.reduceDiv, Nat.reduceLT, Nat.reduceLeDiff, Nat.reduceEqDiff, Nat.reduceBEq, Int.reduceNeg, Int.reduceLT, Int.reduceLE, Int.reduceEq, Int.reduceToNat, (eq_true h1), (eq_true h4), h6, h7, h8, h10, h11, h12, (eq_true h14), (condZ_t h14)]
        · cases b3
          have e15 := done_of gb3
          subst e15
          try dsimp only at h
          cases h
          simp -implicitDefEqProofs -dsimp only [go_sem, ↓reduceIte, ↓dreduceIte, reduceCtorEq, Nat.reduceMul, Nat.reduceAdd, Nat.reduceSub, Nat.reduceDiv, Nat.reduceLT, Nat.reduceLeDiff, Nat.reduceEqDiff, Nat.reduceBEq, Int.reduceNeg, Int.reduceLT, Int.reduceLE, Int.reduceEq, Int.reduceToNat, (eq_true h1), (eq_true h4), h6, h7, h8, h10, h11, h12, (eq_false h14), (condZ_f h14)]
      · cases b3
        have e16 := done_of gb3
        subst e16
        try dsimp only at h
        cases h
        simp -implicitDefEqProofs -dsimp only [go_sem, ↓reduceIte, ↓dreduceIte, reduceCtorEq, Nat.reduceMul, Nat.reduceAdd, Nat.reduceSub, Nat.reduceDiv, Nat.reduceLT, Nat.reduceLeDiff, Nat.reduceEqDiff, Nat.reduceBEq, Int.reduceNeg, Int.reduceLT, Int.reduceLE, Int.reduceEq, Int.reduceToNat, (eq_true h1), (eq_false h4)]
  · cases h
    simp -implicitDefEqProofs -dsimp only [go_sem, ↓reduceIte, ↓dreduceIte, reduceCtorEq, Nat.reduceMul, Nat.reduceAdd, Nat.reduceSub, Nat.reduceDiv, Nat.reduceLT, Nat.reduceLeDiff, Nat.reduceEqDiff, Nat.reduceBEq, Int.reduceNeg, Int.reduceLT, Int.reduceLE, Int.reduceEq, Int.reduceToNat, (eq_false h1)]
/- 67 loop.example/g00827/laws.eqState -/
def hi67 : Hint where
  acts := fun _ => []
  draws := fun
    | _ => ⟨[], [], []⟩
theorem hi67a (i : Nat) : hi67.acts i = [] := rfl
theorem hi67v (i : Nat) : hi67.views i = none := rfl
attribute [go_sem] hi67a hi67v Go.Proofs.Try.ntmps67 Go.Proofs.Try.results67
theorem c_laws_eqState {a : GState} {b : GState} {res : Bool} (h : m_laws_eqState a b = some res) : CallOk Go.Proofs.Try.prog 67 [.agg [.lit (.int .i64 a.now), .sl (rowsOf eI a.times), .sl (rowsOf eI a.values)], .agg [.lit (.int .i64 b.now), .sl (rowsOf eI b.times), .sl (rowsOf eI b.values)]] [] (.lit (.bool res)) [] := by
  refine callOk_of (ra := []) (md := mdT) hT (hi := hi67) Go.Proofs.Try.func67 rfl rfl (by decide +kernel) (by simp) ?_
  unfold m_laws_eqState at h
  rcases ite_some h with ⟨h1, h⟩ | ⟨h1, h⟩
  · obtain ⟨r1001, g2, h⟩ := obnd_some h
    simp -implicitDefEqProofs -dsimp only [go_sem, ↓reduceIte, ↓dreduceIte, reduceCtorEq, Nat.reduceMul, Nat.reduceAdd, Nat.reduceSub, Nat.reduceDiv, Nat.reduceLT, Nat.reduceLeDiff, Nat.reduceEqDiff, Nat.reduceBEq, Int.reduceNeg, Int.reduceLT, Int.reduceLE, Int.reduceEq, Int.reduceToNat, (eq_true h1)]
    refine callW_of (c_laws_eqIntS g2) ?_
    rcases ite_some h with ⟨h3, h⟩ | ⟨h3, h⟩
    · obtain ⟨r1002, g4, h⟩ := obnd_some h
      simp -implicitDefEqProofs -dsimp only [go_sem, ↓reduceIte, ↓dreduceIte, reduceCtorEq, Nat.reduceMul, Nat.reduceAdd, Nat.reduceSub, Nat.reduceDiv, Nat.reduceLT, Nat.reduceLeDiff, Nat.reduceEqDiff, Nat.reduceBEq, Int.reduceNeg, Int.reduceLT, Int.reduceLE, Int.reduceEq, Int.reduceToNat, (eq_true h1), (eq_true h3), (condZ_t h3)]
      refine callW_of (c_laws_eqIntS g4) ?_
      rcases ite_some h with ⟨h5, h⟩ | ⟨h5, h⟩
      · cases h
        simp -implicitDefEqProofs -dsimp only [go_sem, ↓reduceIte, ↓dreduceIte, reduceCtorEq, Nat.reduceMul, Nat.reduceAdd, Nat.reduceSub, Nat.reduceDiv, Nat.reduceLT, Nat.reduceLeDiff, Nat.reduceEqDiff, Nat.reduceBEq, Int.reduceNeg, Int.reduceLT, Int.reduceLE, Int.reduceEq, Int.reduceToNat, (eq_true h1), (eq_true h3), (condZ_t h3), (eq_true h5), (condZ_t h5)]
      · cases h
        simp -implicitDefEqProofs -dsimp only [go_sem, ↓reduceIte, ↓dreduceIte, reduceCtorEq, Nat.reduceMul, Nat.reduceAdd, Nat.reduceSub, Nat.reduceDiv, Nat.reduceLT, Nat.reduceLeDiff, Nat.reduceEqDiff, Nat.reduceBEq, Int.reduceNeg, Int.reduceLT, Int.reduceLE, Int.reduceEq, Int.reduceToNat, (eq_true h1), (eq_true h3), (condZ_t h3), (eq_false h5), (condZ_f h5)]
    · cases h
      simp -implicitDefEqProofs -dsimp only [go_sem, ↓reduceIte, ↓dreduceIte, reduceCtorEq, Nat.reduceMul, Nat.reduceAdd, Nat.reduceSub, Nat.reduceDiv, Nat.reduceLT, Nat.reduceLeDiff, Nat.reduceEqDiff, Nat.reduceBEq, Int.reduceNeg, Int.reduceLT, Int.reduceLE, Int.reduceEq, Int.reduceToNat, (eq_true h1), (eq_false h3), (condZ_f h3)]
  · cases h
    simp -implicitDefEqProofs -dsimp only [go_sem, ↓reduceIte, ↓dreduceIte, reduceCtorEq, Nat.reduceMul, Nat.reduceAdd, Nat.reduceSub, Nat.reduceDiv, Nat.reduceLT, Nat.reduceLeDiff, Nat.reduceEqDiff, Nat.reduceBEq, Int.reduceNeg, Int.reduceLT, Int.reduceLE, Int.reduceEq, Int.reduceToNat, (eq_false h1)]
/- 68 loop.example/g00827/laws.markState -/
def hi68 : Hint where
  acts := fun _ => []
  draws := fun
    | _ => ⟨[], [], []⟩
theorem hi68a (i : Nat) : hi68.acts i = [] := rfl
theorem hi68v (i : Nat) : hi68.views i = none := rfl
attribute [go_sem] hi68a hi68v Go.Proofs.Try.ntmps68 Go.Proofs.Try.results68
theorem c_laws_markState {a : GState} {k : Int} {res : Int × (List Int) × (List Int)} (h : m_laws_markState a k = some res) : CallOk Go.Proofs.Try.prog 68 [.agg [.lit (.int .i64 a.now), .ref 10000 0 0 a.times.length, .ref 10001 0 0 a.values.length], .lit (.int .i64 k)] [(10000, 0, .row true (rowsOf eI a.times)), (10001, 0, .row true (rowsOf eI a.values))] (.lit (.int .i64 res.1)) [(10000, 0, .row true (rowsOf eI res.2.1)), (10001, 0, .row true (rowsOf eI res.2.2))] := by
  refine callOk_of (ra := []) (md := mdT) hT (hi := hi68) Go.Proofs.Try.func68 rfl rfl (by decide +kernel) (by simp) ?_
  unfold m_laws_markState at h
  obtain ⟨r1001, g1, h⟩ := obnd_some h
  simp -implicitDefEqProofs -dsimp only [go_sem, ↓reduceIte, ↓dreduceIte, reduceCtorEq, Nat.reduceMul, Nat.reduceAdd, Nat.reduceSub, Nat.reduceDiv, Nat.reduceLT, Nat.reduceLeDiff, Nat.reduceEqDiff, Nat.reduceBEq, Int.reduceNeg, Int.reduceLT, Int.reduceLE, Int.reduceEq, Int.reduceToNat]
  refine callW_of (c_laws_markIntS g1) ?_
  obtain ⟨r1002, g2, h⟩ := obnd_some h
  simp -implicitDefEqProofs -dsimp only [go_sem, ↓reduceIte, ↓dreduceIte, reduceCtorEq, Nat.reduceMul, Nat.reduceAdd, Nat.reduceSub, Nat.reduceDiv, Nat.reduceLT, Nat.reduceLeDiff, Nat.reduceEqDiff, Nat.reduceBEq, Int.reduceNeg, Int.reduceLT, Int.reduceLE, Int.reduceEq, Int.reduceToNat]
  refine callW_of (c_laws_markIntS g2) ?_
  cases h
  simp -implicitDefEqProofs -dsimp only [go_sem, ↓reduceIte, ↓dreduceIte, reduceCtorEq, Nat.reduceMul, Nat.reduceAdd, Nat.reduceSub, Nat.reduceDiv, Nat.reduceLT, Nat.reduceLeDiff, Nat.reduceEqDiff, Nat.reduceBEq, Int.reduceNeg, Int.reduceLT, Int.reduceLE, Int.reduceEq, Int.reduceToNat]
/- 69 loop.example/g00827/laws.markTakeS -/
def m_laws_markTakeS_L1_St  : (Int × Int × (List GTake)) → St
  | (k, i, a) => ⟨[(0, .ref 10000 0 0 a.length), (1, .lit (.int .i64 k)), (5, .lit (.int .i64 i))], [(10000, 0, .row true (rowsOf GTake.enc a))], 2⟩
attribute [go_sem] m_laws_markTakeS_L1_St
def hi69 : Hint where
  acts := fun _ => []
  draws := fun
    | _ => ⟨[], [], []⟩
theorem hi69a (i : Nat) : hi69.acts i = [] := rfl
theorem hi69v (i : Nat) : hi69.views i = none := rfl
attribute [go_sem] hi69a hi69v Go.Proofs.Try.ntmps69 Go.Proofs.Try.results69
theorem c_laws_markTakeS {a : List GTake} {k : Int} {res : Int × (List GTake)} (h : m_laws_markTakeS a k = some res) : CallOk Go.Proofs.Try.prog 69 [.ref 10000 0 0 a.length, .lit (.int .i64 k)] [(10000, 0, .row true (rowsOf GTake.enc a))] (.lit (.int .i64 res.1)) [(10000, 0, .row true (rowsOf GTake.enc res.2))] := by
  refine callOk_of (ra := []) (md := mdT) hT (hi := hi69) Go.Proofs.Try.func69 rfl rfl (by decide +kernel) (by simp) ?_
  unfold m_laws_markTakeS at h
  obtain ⟨q1003, l1, h⟩ := obnd_some h
  simp -implicitDefEqProofs -dsimp only [go_sem, ↓reduceIte, ↓dreduceIte, reduceCtorEq, Nat.reduceMul, Nat.reduceAdd, Nat.reduceSub, Nat.reduceDiv, Nat.reduceLT, Nat.reduceLeDiff, Nat.reduceEqDiff, Nat.reduceBEq, Int.reduceNeg, Int.reduceLT, Int.reduceLE, Int.reduceEq, Int.reduceToNat]
  refine loopW_loopO (m1 := .mk) (m2 := .mk) [.nf [0, 1, 5] [10000]] (m_laws_markTakeS_L1_St) l1 ?_ ?_
  · simp -implicitDefEqProofs -dsimp only [go_sem, ↓reduceIte, ↓dreduceIte, reduceCtorEq, Nat.reduceMul, Nat.reduceAdd, Nat.reduceSub, Nat.reduceDiv, Nat.reduceLT, Nat.reduceLeDiff, Nat.reduceEqDiff, Nat.reduceBEq, Int.reduceNeg, Int.reduceLT, Int.reduceLE, Int.reduceEq, Int.reduceToNat]
  · intro nb2 sb2 bb2 b2 gb2
    obtain ⟨k_1, i_1, a_1⟩ := sb2
    unfold m_laws_markTakeS_L1 at b2
    try dsimp only at b2
    rcases ite_some b2 with ⟨h3, b2⟩ | ⟨h3, b2⟩
    · obtain ⟨x1001, g4, b2⟩ := obnd_some b2
      obtain ⟨h5, h6, h7⟩ := getI_some g4
      obtain ⟨x1002, g8, b2⟩ := obnd_some b2
      obtain ⟨h9, h10, h11⟩ := getI_some g8
      cases b2
      simp -implicitDefEqProofs -dsimp only [go_sem, ↓reduceIte, ↓dreduceIte, reduceCtorEq, Nat.reduceMul, Nat.reduceAdd, Nat.reduceSub, Nat.reduceDiv, Nat.reduceLT, Nat.reduceLeDiff, Nat.reduceEqDiff, Nat.reduceBEq, Int.reduceNeg, Int.reduceLT, Int.reduceLE, Int.reduceEq, Int.reduceToNat, (eq_true h3), h5, h6, h7, h9, h10, h11]
      refine next_of gb2 ?_
      simp -implicitDefEqProofs -dsimp only [go_sem, ↓reduceIte, ↓dreduceIte, reduceCtorEq, Nat.reduceMul, Nat.reduceAdd, Nat.reduceSub, Nat.reduceDiv, Nat.reduceLT, Nat.reduceLeDiff, Nat.reduceEqDiff, Nat.reduceBEq, Int.reduceNeg, Int.reduceLT, Int.reduceLE, Int.reduceEq, Int.reduceToNat, (eq_true h3), h5, h6, h7, h9, h10, h11]
    · cases b2
      have e12 := done_of gb2
      subst e12
      try dsimp only at h
      cases h
      simp -implicitDefEqProofs -dsimp only [go_sem, ↓reduceIte, ↓dreduceIte, reduceCtorEq, Nat.reduceMul, Nat.reduceAdd, Nat.reduceSub, Nat.reduceDiv, Nat.reduceLT, Nat.reduceLeDiff, Nat.reduceEqDiff, Nat.reduceBEq, Int.reduceNeg, Int.reduceLT, Int.reduceLE, Int.reduceEq, Int.reduceToNat, (eq_false h3)]
/- 70 loop.example/g00827/laws.heldTakeS -/
def m_laws_heldTakeS_L1_St (a : List GTake) : (Int × Int) → St
  | (k, i) => ⟨[(0, .sl (rowsOf GTake.enc a)), (1, .lit (.int .i64 k)), (5, .lit (.int .i64 i))], [], 2⟩
attribute [go_sem] m_laws_heldTakeS_L1_St
def hi70 : Hint where
  acts := fun _ => []
  draws := fun
    | _ => ⟨[], [], []⟩
theorem hi70a (i : Nat) : hi70.acts i = [] := rfl
theorem hi70v (i : Nat) : hi70.views i = none := rfl
attribute [go_sem] hi70a hi70v Go.Proofs.Try.ntmps70 Go.Proofs.Try.results70
theorem c_laws_heldTakeS {a : List GTake} {k : Int} {res : Int} (h : m_laws_heldTakeS a k = some res) : CallOk Go.Proofs.Try.prog 70 [.sl (rowsOf GTake.enc a), .lit (.int .i64 k)] [] (.lit (.int .i64 res)) [] := by
  refine callOk_of (ra := []) (md := mdT) hT (hi := hi70) Go.Proofs.Try.func70 rfl rfl (by decide +kernel) (by simp) ?_
  unfold m_laws_heldTakeS at h
  obtain ⟨q1002, l1, h⟩ := obnd_some h
  simp -implicitDefEqProofs -dsimp only [go_sem, ↓reduceIte, ↓dreduceIte, reduceCtorEq, Nat.reduceMul, Nat.reduceAdd, Nat.reduceSub, Nat.reduceDiv, Nat.reduceLT, Nat.reduceLeDiff, Nat.reduceEqDiff, Nat.reduceBEq, Int.reduceNeg, Int.reduceLT, Int.reduceLE, Int.reduceEq, Int.reduceToNat]
  refine loopW_loopO (m1 := .mk) (m2 := .mk) [.nf [0, 1, 5] []] (m_laws_heldTakeS_L1_St a) l1 ?_ ?_
  · simp -implicitDefEqProofs -dsimp only [go_sem, ↓reduceIte, ↓dreduceIte, reduceCtorEq, Nat.reduceMul, Nat.reduceAdd, Nat.reduceSub, Nat.reduceDiv, Nat.reduceLT, Nat.reduceLeDiff, Nat.reduceEqDiff, Nat.reduceBEq, Int.reduceNeg, Int.reduceLT, Int.reduceLE, Int.reduceEq, Int.reduceToNat]
  · intro nb2 sb2 bb2 b2 gb2
    obtain ⟨k_1, i_1⟩ := sb2
    unfold m_laws_heldTakeS_L1 at b2
    try dsimp only at b2
    rcases ite_some b2 with ⟨h3, b2⟩ | ⟨h3, b2⟩
    · obtain ⟨x1001, g4, b2⟩ := obnd_some b2
      obtain ⟨h5, h6, h7⟩ := getI_some g4
      rcases ite_some b2 with ⟨h8, b2⟩ | ⟨h8, b2⟩
      · rcases ite_some b2 with ⟨h9, b2⟩ | ⟨h9, b2⟩
        · cases b2
          simp -implicitDefEqProofs -dsimp only [go_sem, ↓reduceIte, ↓dreduceIte, reduceCtorEq, Nat.reduceMul, Nat.reduceAdd, Nat.reduceSub, Nat.reduceDiv, Nat.reduceLT, Nat.reduceLeDiff, Nat.reduceEqDiff, Nat.reduceBEq, Int.reduceNeg, Int.reduceLT, Int.reduceLE, Int.reduceEq, Int.reduceToNat, (eq_true h3), h5, h6, h7, (eq_true h8), (eq_true h9)]
          refine next_of gb2 ?_
          simp -implicitDefEqProofs -dsimp only [go_sem, ↓reduceIte, ↓dreduceIte, reduceCtorEq, Nat.reduceMul, Nat.reduceAdd, Nat.reduceSub, Nat.reduceDiv, Nat.reduceLT, Nat.reduceLeDiff, Nat.reduceEqDiff, Nat.reduceBEq, Int.reduceNeg, Int.reduceLT, Int.reduceLE, Int.reduceEq, Int.reduceToNat, (eq_true h3), h5, h6, h7, (eq_true h8), (eq_true h9)]
        · cases b2
          have e10 := done_of gb2
          subst e10
          try dsimp only at h
          cases h
          simp -implicitDefEqProofs -dsimp only [go_sem, ↓reduceIte, ↓dreduceIte, reduceCtorEq, Nat.reduceMul, Nat.reduceAdd, Nat.reduceSub, Nat.reduceDiv, Nat.reduceLT, Nat.reduceLeDiff, Nat.reduceEqDiff, Nat.reduceBEq, Int.reduceNeg, Int.reduceLT, Int.reduceLE, Int.reduceEq, Int.reduceToNat, (eq_true h3), h5, h6, h7, (eq_true h8), (eq_false h9)]
      · cases b2
        have e11 := done_of gb2
        subst e11
        try dsimp only at h
        cases h
        simp -implicitDefEqProofs -dsimp only [go_sem, ↓reduceIte, ↓dreduceIte, reduceCtorEq, Nat.reduceMul, Nat.reduceAdd, Nat.reduceSub, Nat.reduceDiv, Nat.reduceLT, Nat.reduceLeDiff, Nat.reduceEqDiff, Nat.reduceBEq, Int.reduceNeg, Int.reduceLT, Int.reduceLE, Int.reduceEq, Int.reduceToNat, (eq_true h3), h5, h6, h7, (eq_false h8)]
    · cases b2
      have e12 := done_of gb2
      subst e12
      try dsimp only at h
      cases h
      simp -implicitDefEqProofs -dsimp only [go_sem, ↓reduceIte, ↓dreduceIte, reduceCtorEq, Nat.reduceMul, Nat.reduceAdd, Nat.reduceSub, Nat.reduceDiv, Nat.reduceLT, Nat.reduceLeDiff, Nat.reduceEqDiff, Nat.reduceBEq, Int.reduceNeg, Int.reduceLT, Int.reduceLE, Int.reduceEq, Int.reduceToNat, (eq_false h3)]
/- 14 loop.example/g00827/laws.FnExactTakesOf -/
def hi14 : Hint where
  acts := fun _ => []
  draws := fun
    | 8 => ⟨[⟨0, false, []⟩, ⟨2, true, []⟩, ⟨1, false, [2]⟩, ⟨3, false, []⟩, ⟨4, false, []⟩, ⟨5, false, []⟩], [[], [0], [], [0, 1, 2], [0, 1, 2, 3], [0, 1, 2, 3, 4]], [0, 1, 2, 3, 4, 5]⟩
    | 14 => ⟨[⟨0, true, []⟩, ⟨1, false, []⟩, ⟨2, false, [0]⟩, ⟨3, false, []⟩, ⟨4, false, []⟩], [[], [], [1], [0, 1, 2], [0, 1, 2, 3]], [0, 1, 2, 3, 4]⟩
    | 16 => ⟨[⟨0, true, []⟩, ⟨1, false, []⟩, ⟨2, false, [0]⟩, ⟨3, false, []⟩, ⟨4, false, []⟩], [[], [], [1], [0, 1, 2], [0, 1, 2, 3]], [0, 1, 2, 3, 4]⟩
    | 31 => ⟨[⟨0, false, []⟩, ⟨2, true, []⟩, ⟨1, false, [2]⟩, ⟨3, false, []⟩, ⟨4, false, []⟩, ⟨5, false, []⟩], [[], [0], [], [0, 1, 2], [0, 1, 2, 3], [0, 1, 2, 3, 4]], [0, 1, 2, 3, 4, 5]⟩
    | _ => ⟨[], [], []⟩
theorem hi14a (i : Nat) : hi14.acts i = [] := rfl
theorem hi14v (i : Nat) : hi14.views i = none := rfl
attribute [go_sem] hi14a hi14v Go.Proofs.Try.ntmps14 Go.Proofs.Try.results14
@[go_sem] theorem hi14d8 : (hi14.draws 8).order = [⟨0, false, []⟩, ⟨2, true, []⟩, ⟨1, false, [2]⟩, ⟨3, false, []⟩, ⟨4, false, []⟩, ⟨5, false, []⟩] := rfl
@[go_sem] theorem hi14d14 : (hi14.draws 14).order = [⟨0, true, []⟩, ⟨1, false, []⟩, ⟨2, false, [0]⟩, ⟨3, false, []⟩, ⟨4, false, []⟩] := rfl
@[go_sem] theorem hi14d16 : (hi14.draws 16).order = [⟨0, true, []⟩, ⟨1, false, []⟩, ⟨2, false, [0]⟩, ⟨3, false, []⟩, ⟨4, false, []⟩] := rfl
@[go_sem] theorem hi14d31 : (hi14.draws 31).order = [⟨0, false, []⟩, ⟨2, true, []⟩, ⟨1, false, [2]⟩, ⟨3, false, []⟩, ⟨4, false, []⟩, ⟨5, false, []⟩] := rfl
theorem c_laws_FnExactTakesOf {aS : GShow} {aX : GState} {res : Bool} (h : m_laws_FnExactTakesOf aS aX = some res) : CallOk Go.Proofs.Try.prog 14 [.agg [.sl (rowsOf GNode.encS aS.nodes), .sl (rowsOf GTie.enc aS.ties), .lit (.int .i64 aS.horizon)], .agg [.lit (.int .i64 aX.now), .sl (rowsOf eI aX.times), .sl (rowsOf eI aX.values)]] [] (.lit (.bool res)) [] := by
  refine callOk_of (ra := []) (md := mdT) hT (hi := hi14) Go.Proofs.Try.func14 rfl rfl (by decide +kernel) (by simp) ?_
  unfold m_laws_FnExactTakesOf at h
  obtain ⟨r1001, g1, h⟩ := obnd_some h
  simp -implicitDefEqProofs -dsimp only [go_sem, ↓reduceIte, ↓dreduceIte, reduceCtorEq, Nat.reduceMul, Nat.reduceAdd, Nat.reduceSub, Nat.reduceDiv, Nat.reduceLT, Nat.reduceLeDiff, Nat.reduceEqDiff, Nat.reduceBEq, Int.reduceNeg, Int.reduceLT, Int.reduceLE, Int.reduceEq, Int.reduceToNat]
  refine callW_of (c_laws_szShow g1) ?_
  rcases ite_some h with ⟨h2, h⟩ | ⟨h2, h⟩
  · cases h
    simp -implicitDefEqProofs -dsimp only [go_sem, ↓reduceIte, ↓dreduceIte, reduceCtorEq, Nat.reduceMul, Nat.reduceAdd, Nat.reduceSub, Nat.reduceDiv, Nat.reduceLT, Nat.reduceLeDiff, Nat.reduceEqDiff, Nat.reduceBEq, Int.reduceNeg, Int.reduceLT, Int.reduceLE, Int.reduceEq, Int.reduceToNat, (eq_true h2)]
  · obtain ⟨r1002, g3, h⟩ := obnd_some h
    simp -implicitDefEqProofs -dsimp only [go_sem, ↓reduceIte, ↓dreduceIte, reduceCtorEq, Nat.reduceMul, Nat.reduceAdd, Nat.reduceSub, Nat.reduceDiv, Nat.reduceLT, Nat.reduceLeDiff, Nat.reduceEqDiff, Nat.reduceBEq, Int.reduceNeg, Int.reduceLT, Int.reduceLE, Int.reduceEq, Int.reduceToNat, (eq_false h2)]
    refine callW_of (c_laws_szState g3) ?_
    rcases ite_some h with ⟨h4, h⟩ | ⟨h4, h⟩
    · cases h
      simp -implicitDefEqProofs -dsimp only [go_sem, ↓reduceIte, ↓dreduceIte, reduceCtorEq, Nat.reduceMul, Nat.reduceAdd, Nat.reduceSub, Nat.reduceDiv, Nat.reduceLT, Nat.reduceLeDiff, Nat.reduceEqDiff, Nat.reduceBEq, Int.reduceNeg, Int.reduceLT, Int.reduceLE, Int.reduceEq, Int.reduceToNat, (eq_false h2), (eq_true h4)]
    · obtain ⟨r1003, g5, h⟩ := obnd_some h
      simp -implicitDefEqProofs -dsimp only [go_sem, ↓reduceIte, ↓dreduceIte, reduceCtorEq, Nat.reduceMul, Nat.reduceAdd, Nat.reduceSub, Nat.reduceDiv, Nat.reduceLT, Nat.reduceLeDiff, Nat.reduceEqDiff, Nat.reduceBEq, Int.reduceNeg, Int.reduceLT, Int.reduceLE, Int.reduceEq, Int.reduceToNat, (eq_false h2), (eq_false h4)]
      refine callW_of (c_laws_toShow g5) ?_
      obtain ⟨r1004, g6, h⟩ := obnd_some h
      simp -implicitDefEqProofs -dsimp only [go_sem, ↓reduceIte, ↓dreduceIte, reduceCtorEq, Nat.reduceMul, Nat.reduceAdd, Nat.reduceSub, Nat.reduceDiv, Nat.reduceLT, Nat.reduceLeDiff, Nat.reduceEqDiff, Nat.reduceBEq, Int.reduceNeg, Int.reduceLT, Int.reduceLE, Int.reduceEq, Int.reduceToNat, (eq_false h2), (eq_false h4)]
      refine callW_of (c_laws_toState g6) ?_
      obtain ⟨r1005, g7, h⟩ := obnd_some h
      simp -implicitDefEqProofs -dsimp only [go_sem, ↓reduceIte, ↓dreduceIte, reduceCtorEq, Nat.reduceMul, Nat.reduceAdd, Nat.reduceSub, Nat.reduceDiv, Nat.reduceLT, Nat.reduceLeDiff, Nat.reduceEqDiff, Nat.reduceBEq, Int.reduceNeg, Int.reduceLT, Int.reduceLE, Int.reduceEq, Int.reduceToNat, (eq_false h2), (eq_false h4)]
      refine callW_of (c_spec_TakesOf g7) ?_
      obtain ⟨r1006, g8, h⟩ := obnd_some h
      simp -implicitDefEqProofs -dsimp only [go_sem, ↓reduceIte, ↓dreduceIte, reduceCtorEq, Nat.reduceMul, Nat.reduceAdd, Nat.reduceSub, Nat.reduceDiv, Nat.reduceLT, Nat.reduceLeDiff, Nat.reduceEqDiff, Nat.reduceBEq, Int.reduceNeg, Int.reduceLT, Int.reduceLE, Int.reduceEq, Int.reduceToNat, (eq_false h2), (eq_false h4)]
      refine callW_of (c_laws_toShow g8) ?_
      obtain ⟨r1007, g9, h⟩ := obnd_some h
      simp -implicitDefEqProofs -dsimp only [go_sem, ↓reduceIte, ↓dreduceIte, reduceCtorEq, Nat.reduceMul, Nat.reduceAdd, Nat.reduceSub, Nat.reduceDiv, Nat.reduceLT, Nat.reduceLeDiff, Nat.reduceEqDiff, Nat.reduceBEq, Int.reduceNeg, Int.reduceLT, Int.reduceLE, Int.reduceEq, Int.reduceToNat, (eq_false h2), (eq_false h4)]
      refine callW_of (c_laws_toState g9) ?_
      obtain ⟨r1008, g10, h⟩ := obnd_some h
      simp -implicitDefEqProofs -dsimp only [go_sem, ↓reduceIte, ↓dreduceIte, reduceCtorEq, Nat.reduceMul, Nat.reduceAdd, Nat.reduceSub, Nat.reduceDiv, Nat.reduceLT, Nat.reduceLeDiff, Nat.reduceEqDiff, Nat.reduceBEq, Int.reduceNeg, Int.reduceLT, Int.reduceLE, Int.reduceEq, Int.reduceToNat, (eq_false h2), (eq_false h4)]
      refine callW_of (c_impl_TakesOf g10) ?_
      obtain ⟨r1009, g11, h⟩ := obnd_some h
      simp -implicitDefEqProofs -dsimp only [go_sem, ↓reduceIte, ↓dreduceIte, reduceCtorEq, Nat.reduceMul, Nat.reduceAdd, Nat.reduceSub, Nat.reduceDiv, Nat.reduceLT, Nat.reduceLeDiff, Nat.reduceEqDiff, Nat.reduceBEq, Int.reduceNeg, Int.reduceLT, Int.reduceLE, Int.reduceEq, Int.reduceToNat, (eq_false h2), (eq_false h4)]
      refine callW_of (c_laws_eqTakeS g11) ?_
      rcases ite_some h with ⟨h12, h⟩ | ⟨h12, h⟩
      · obtain ⟨r1010, g13, h⟩ := obnd_some h
        simp -implicitDefEqProofs -dsimp only [go_sem, ↓reduceIte, ↓dreduceIte, reduceCtorEq, Nat.reduceMul, Nat.reduceAdd, Nat.reduceSub, Nat.reduceDiv, Nat.reduceLT, Nat.reduceLeDiff, Nat.reduceEqDiff, Nat.reduceBEq, Int.reduceNeg, Int.reduceLT, Int.reduceLE, Int.reduceEq, Int.reduceToNat, (eq_false h2), (eq_false h4), (eq_true h12), (condZ_t h12)]
        refine callW_of (c_laws_toShow g13) ?_
        obtain ⟨r1011, g14, h⟩ := obnd_some h
        simp -implicitDefEqProofs -dsimp only [go_sem, ↓reduceIte, ↓dreduceIte, reduceCtorEq, Nat.reduceMul, Nat.reduceAdd, Nat.reduceSub, Nat.reduceDiv, Nat.reduceLT, Nat.reduceLeDiff, Nat.reduceEqDiff, Nat.reduceBEq, Int.reduceNeg, Int.reduceLT, Int.reduceLE, Int.reduceEq, Int.reduceToNat, (eq_false h2), (eq_false h4), (eq_true h12), (condZ_t h12)]
        refine callW_of (c_laws_eqShow g14) ?_
        rcases ite_some h with ⟨h15, h⟩ | ⟨h15, h⟩
        · obtain ⟨r1012, g16, h⟩ := obnd_some h
          simp -implicitDefEqProofs -dsimp only [go_sem, ↓reduceIte, ↓dreduceIte, reduceCtorEq, Nat.reduceMul, Nat.reduceAdd, Nat.reduceSub, Nat.reduceDiv, Nat.reduceLT, Nat.reduceLeDiff, Nat.reduceEqDiff, Nat.reduceBEq, Int.reduceNeg, Int.reduceLT, Int.reduceLE, Int.reduceEq, Int.reduceToNat, (eq_false h2), (eq_false h4), (eq_true h12), (condZ_t h12), (eq_true h15), (condZ_t h15)]
          refine callW_of (c_laws_toState g16) ?_
          obtain ⟨r1013, g17, h⟩ := obnd_some h
          simp -implicitDefEqProofs -dsimp only [go_sem, ↓reduceIte, ↓dreduceIte, reduceCtorEq, Nat.reduceMul, Nat.reduceAdd, Nat.reduceSub, Nat.reduceDiv, Nat.reduceLT, Nat.reduceLeDiff, Nat.reduceEqDiff, Nat.reduceBEq, Int.reduceNeg, Int.reduceLT, Int.reduceLE, Int.reduceEq, Int.reduceToNat, (eq_false h2), (eq_false h4), (eq_true h12), (condZ_t h12), (eq_true h15), (condZ_t h15)]
          refine callW_of (c_laws_eqState g17) ?_
          rcases ite_some h with ⟨h18, h⟩ | ⟨h18, h⟩
          · obtain ⟨r1014, g19, h⟩ := obnd_some h
            simp -implicitDefEqProofs -dsimp only [go_sem, ↓reduceIte, ↓dreduceIte, reduceCtorEq, Nat.reduceMul, Nat.reduceAdd, Nat.reduceSub, Nat.reduceDiv, Nat.reduceLT, Nat.reduceLeDiff, Nat.reduceEqDiff, Nat.reduceBEq, Int.reduceNeg, Int.reduceLT, Int.reduceLE, Int.reduceEq, Int.reduceToNat, (eq_false h2), (eq_false h4), (eq_true h12), (condZ_t h12), (eq_true h15), (condZ_t h15), (eq_true h18), (condZ_t h18)]
            refine callW_of (c_laws_markShow g19) ?_
            obtain ⟨r1015, g20, h⟩ := obnd_some h
            simp -implicitDefEqProofs -dsimp only [go_sem, ↓reduceIte, ↓dreduceIte, reduceCtorEq, Nat.reduceMul, Nat.reduceAdd, Nat.reduceSub, Nat.reduceDiv, Nat.reduceLT, Nat.reduceLeDiff, Nat.reduceEqDiff, Nat.reduceBEq, Int.reduceNeg, Int.reduceLT, Int.reduceLE, Int.reduceEq, Int.reduceToNat, (eq_false h2), (eq_false h4), (eq_true h12), (condZ_t h12), (eq_true h15), (condZ_t h15), (eq_true h18), (condZ_t h18)]
            refine callW_of (c_laws_markState g20) ?_
            rcases ite_some h with ⟨h21, h⟩ | ⟨h21, h⟩
            · cases h
              simp -implicitDefEqProofs -dsimp only [go_sem, ↓reduceIte, ↓dreduceIte, reduceCtorEq, Nat.reduceMul, Nat.reduceAdd, Nat.reduceSub, Nat.reduceDiv, Nat.reduceLT, Nat.reduceLeDiff, Nat.reduceEqDiff, Nat.reduceBEq, Int.reduceNeg, Int.reduceLT, Int.reduceLE, Int.reduceEq, Int.reduceToNat, (eq_false h2), (eq_false h4), (eq_true h12), (condZ_t h12), (eq_true h15), (condZ_t h15), (eq_true h18), (condZ_t h18), (eq_true h21)]
            · obtain ⟨r1016, g22, h⟩ := obnd_some h
              simp -implicitDefEqProofs -dsimp only [go_sem, ↓reduceIte, ↓dreduceIte, reduceCtorEq, Nat.reduceMul, Nat.reduceAdd, Nat.reduceSub, Nat.reduceDiv, Nat.reduceLT, Nat.reduceLeDiff, Nat.reduceEqDiff, Nat.reduceBEq, Int.reduceNeg, Int.reduceLT, Int.reduceLE, Int.reduceEq, Int.reduceToNat, (eq_false h2), (eq_false h4), (eq_true h12), (condZ_t h12), (eq_true h15), (condZ_t h15), (eq_true h18), (condZ_t h18), (eq_false h21)]
              refine callW_of (c_laws_eqTakeS g22) ?_
              rcases ite_some h with ⟨h23, h⟩ | ⟨h23, h⟩
              · obtain ⟨r1017, g24, h⟩ := obnd_some h
                simp -implicitDefEqProofs -dsimp only [go_sem, ↓reduceIte, ↓dreduceIte, reduceCtorEq, Nat.reduceMul, Nat.reduceAdd, Nat.reduceSub, Nat.reduceDiv, Nat.reduceLT, Nat.reduceLeDiff, Nat.reduceEqDiff, Nat.reduceBEq, Int.reduceNeg, Int.reduceLT, Int.reduceLE, Int.reduceEq, Int.reduceToNat, (eq_false h2), (eq_false h4), (eq_true h12), (condZ_t h12), (eq_true h15), (condZ_t h15), (eq_true h18), (condZ_t h18), (eq_false h21), (eq_true h23), (condZ_t h23)]
                refine callW_of (c_laws_markTakeS g24) ?_
                obtain ⟨h25, h⟩ := chk_some h
                obtain ⟨r1018, g26, h⟩ := obnd_some h
                simp -implicitDefEqProofs -dsimp only [go_sem, ↓reduceIte, ↓dreduceIte, reduceCtorEq, Nat.reduceMul, Nat.reduceAdd, Nat.reduceSub, Nat.reduceDiv, Nat.reduceLT, Nat.reduceLeDiff, Nat.reduceEqDiff, Nat.reduceBEq, Int.reduceNeg, Int.reduceLT, Int.reduceLE, Int.reduceEq, Int.reduceToNat, (eq_false h2), (eq_false h4), (eq_true h12), (condZ_t h12), (eq_true h15), (condZ_t h15), (eq_true h18), (condZ_t h18), (eq_false h21), (eq_true h23), (condZ_t h23), (eq_true h25)]
                refine callW_of (c_laws_heldTakeS g26) ?_
                rcases ite_some h with ⟨h27, h⟩ | ⟨h27, h⟩
                · cases h
                  simp -implicitDefEqProofs -dsimp only [go_sem, ↓reduceIte, ↓dreduceIte, reduceCtorEq, Nat.reduceMul, Nat.reduceAdd, Nat.reduceSub, Nat.reduceDiv, Nat.reduceLT, Nat.reduceLeDiff, Nat.reduceEqDiff, Nat.reduceBEq, Int.reduceNeg, Int.reduceLT, Int.reduceLE, Int.reduceEq, Int.reduceToNat, (eq_false h2), (eq_false h4), (eq_true h12), (condZ_t h12), (eq_true h15), (condZ_t h15), (eq_true h18), (condZ_t h18), (eq_false h21), (eq_true h23), (condZ_t h23), (eq_true h25), (eq_true h27)]
                · rcases ite_some h with ⟨h28, h⟩ | ⟨h28, h⟩
                  · obtain ⟨r1019, g29, h⟩ := obnd_some h
                    simp -implicitDefEqProofs -dsimp only [go_sem, ↓reduceIte, ↓dreduceIte, reduceCtorEq, Nat.reduceMul, Nat.reduceAdd, Nat.reduceSub, Nat.reduceDiv, Nat.reduceLT, Nat.reduceLeDiff, Nat.reduceEqDiff, Nat.reduceBEq, Int.reduceNeg, Int.reduceLT, Int.reduceLE, Int.reduceEq, Int.reduceToNat, (eq_false h2), (eq_false h4), (eq_true h12), (condZ_t h12), (eq_true h15), (condZ_t h15), (eq_true h18), (condZ_t h18), (eq_false h21), (eq_true h23), (condZ_t h23), (eq_true h25), (eq_false h27), (eq_true h28)]
                    refine callW_of (c_laws_toShow g29) ?_
                    obtain ⟨r1020, g30, h⟩ := obnd_some h
                    simp -implicitDefEqProofs -dsimp only [go_sem, ↓reduceIte, ↓dreduceIte, reduceCtorEq, Nat.reduceMul, Nat.reduceAdd, Nat.reduceSub, Nat.reduceDiv, Nat.reduceLT, Nat.reduceLeDiff, Nat.reduceEqDiff, Nat.reduceBEq, Int.reduceNeg, Int.reduceLT, Int.reduceLE, Int.reduceEq, Int.reduceToNat, (eq_false h2), (eq_false h4), (eq_true h12), (condZ_t h12), (eq_true h15), (condZ_t h15), (eq_true h18), (condZ_t h18), (eq_false h21), (eq_true h23), (condZ_t h23), (eq_true h25), (eq_false h27), (eq_true h28)]
                    refine callW_of (c_laws_toState g30) ?_
                    obtain ⟨r1021, g31, h⟩ := obnd_some h
                    simp -implicitDefEqProofs -dsimp only [go_sem, ↓reduceIte, ↓dreduceIte, reduceCtorEq, Nat.reduceMul, Nat.reduceAdd, Nat.reduceSub, Nat.reduceDiv, Nat.reduceLT, Nat.reduceLeDiff, Nat.reduceEqDiff, Nat.reduceBEq, Int.reduceNeg, Int.reduceLT, Int.reduceLE, Int.reduceEq, Int.reduceToNat, (eq_false h2), (eq_false h4), (eq_true h12), (condZ_t h12), (eq_true h15), (condZ_t h15), (eq_true h18), (condZ_t h18), (eq_false h21), (eq_true h23), (condZ_t h23), (eq_true h25), (eq_false h27), (eq_true h28)]
                    refine callW_of (c_impl_TakesOf g31) ?_
                    obtain ⟨r1022, g32, h⟩ := obnd_some h
                    simp -implicitDefEqProofs -dsimp only [go_sem, ↓reduceIte, ↓dreduceIte, reduceCtorEq, Nat.reduceMul, Nat.reduceAdd, Nat.reduceSub, Nat.reduceDiv, Nat.reduceLT, Nat.reduceLeDiff, Nat.reduceEqDiff, Nat.reduceBEq, Int.reduceNeg, Int.reduceLT, Int.reduceLE, Int.reduceEq, Int.reduceToNat, (eq_false h2), (eq_false h4), (eq_true h12), (condZ_t h12), (eq_true h15), (condZ_t h15), (eq_true h18), (condZ_t h18), (eq_false h21), (eq_true h23), (condZ_t h23), (eq_true h25), (eq_false h27), (eq_true h28)]
                    refine callW_of (c_laws_eqTakeS g32) ?_
                    rcases ite_some h with ⟨h33, h⟩ | ⟨h33, h⟩
                    · obtain ⟨r1023, g34, h⟩ := obnd_some h
                      simp -implicitDefEqProofs -dsimp only [go_sem, ↓reduceIte, ↓dreduceIte, reduceCtorEq, Nat.reduceMul, Nat.reduceAdd, Nat.reduceSub, Nat.reduceDiv, Nat.reduceLT, Nat.reduceLeDiff, Nat.reduceEqDiff, Nat.reduceBEq, Int.reduceNeg, Int.reduceLT, Int.reduceLE, Int.reduceEq, Int.reduceToNat, (eq_false h2), (eq_false h4), (eq_true h12), (condZ_t h12), (eq_true h15), (condZ_t h15), (eq_true h18), (condZ_t h18), (eq_false h21), (eq_true h23), (condZ_t h23), (eq_true h25), (eq_false h27), (eq_true h28), (eq_true h33), (condZ_t h33)]
                      refine callW_of (c_laws_heldTakeS g34) ?_
                      rcases ite_some h with ⟨h35, h⟩ | ⟨h35, h⟩
                      · cases h
                        simp -implicitDefEqProofs -dsimp only [go_sem, ↓reduceIte, ↓dreduceIte, reduceCtorEq, Nat.reduceMul, Nat.reduceAdd, Nat.reduceSub, Nat.reduceDiv, Nat.reduceLT, Nat.reduceLeDiff, Nat.reduceEqDiff, Nat.reduceBEq, Int.reduceNeg, Int.reduceLT, Int.reduceLE, Int.reduceEq, Int.reduceToNat, (eq_false h2), (eq_false h4), (eq_true h12), (condZ_t h12), (eq_true h15), (condZ_t h15), (eq_true h18), (condZ_t h18), (eq_false h21), (eq_true h23), (condZ_t h23), (eq_true h25), (eq_false h27), (eq_true h28), (eq_true h33), (condZ_t h33), (eq_true h35)]
                      · rcases ite_some h with ⟨h36, h⟩ | ⟨h36, h⟩
                        · cases h
                          simp -implicitDefEqProofs -dsimp only [go_sem, ↓reduceIte, ↓dreduceIte, reduceCtorEq, Nat.reduceMul, Nat.reduceAdd, Nat.reduceSub, Nat.reduceDiv, Nat.reduceLT, Nat.reduceLeDiff, Nat.reduceEqDiff, Nat.reduceBEq, Int.reduceNeg, Int.reduceLT, Int.reduceLE, Int.reduceEq, Int.reduceToNat, (eq_false h2), (eq_false h4), (eq_true h12), (condZ_t h12), (eq_true h15), (condZ_t h15), (eq_true h18), (condZ_t h18), (eq_false h21), (eq_true h23), (condZ_t h23), (eq_true h25), (eq_false h27), (eq_true h28), (eq_true h33), (condZ_t h33), (eq_false h35), (eq_true h36)]
                        · cases h
                          simp -implicitDefEqProofs -dsimp only [go_sem, ↓reduceIte, ↓dreduceIte, reduceCtorEq, Nat.reduceMul, Nat.reduceAdd, Nat.reduceSub, Nat.reduceDiv, Nat.reduceLT, Nat.reduceLeDiff, Nat.reduceEqDiff, Nat.reduceBEq, Int.reduceNeg, Int.reduceLT, Int.reduceLE, Int.reduceEq, Int.reduceToNat, (eq_false h2), (eq_false h4), (eq_true h12), (condZ_t h12), (eq_true h15), (condZ_t h15), (eq_true h18), (condZ_t h18), (eq_false h21), (eq_true h23), (condZ_t h23), (eq_true h25), (eq_false h27), (eq_true h28), (eq_true h33), (condZ_t h33), (eq_false h35), (eq_false h36)]
                    · cases h
                      simp -implicitDefEqProofs -dsimp only [go_sem, ↓reduceIte, ↓dreduceIte, reduceCtorEq, Nat.reduceMul, Nat.reduceAdd, Nat.reduceSub, Nat.reduceDiv, Nat.reduceLT, Nat.reduceLeDiff, Nat.reduceEqDiff, Nat.reduceBEq, Int.reduceNeg, Int.reduceLT, Int.reduceLE, Int.reduceEq, Int.reduceToNat, (eq_false h2), (eq_false h4), (eq_true h12), (condZ_t h12), (eq_true h15), (condZ_t h15), (eq_true h18), (condZ_t h18), (eq_false h21), (eq_true h23), (condZ_t h23), (eq_true h25), (eq_false h27), (eq_true h28), (eq_false h33), (condZ_f h33)]
                  · cases h
                    simp -implicitDefEqProofs -dsimp only [go_sem, ↓reduceIte, ↓dreduceIte, reduceCtorEq, Nat.reduceMul, Nat.reduceAdd, Nat.reduceSub, Nat.reduceDiv, Nat.reduceLT, Nat.reduceLeDiff, Nat.reduceEqDiff, Nat.reduceBEq, Int.reduceNeg, Int.reduceLT, Int.reduceLE, Int.reduceEq, Int.reduceToNat, (eq_false h2), (eq_false h4), (eq_true h12), (condZ_t h12), (eq_true h15), (condZ_t h15), (eq_true h18), (condZ_t h18), (eq_false h21), (eq_true h23), (condZ_t h23), (eq_true h25), (eq_false h27), (eq_false h28)]
              · cases h
                simp -implicitDefEqProofs -dsimp only [go_sem, ↓reduceIte, ↓dreduceIte, reduceCtorEq, Nat.reduceMul, Nat.reduceAdd, Nat.reduceSub, Nat.reduceDiv, Nat.reduceLT, Nat.reduceLeDiff, Nat.reduceEqDiff, Nat.reduceBEq, Int.reduceNeg, Int.reduceLT, Int.reduceLE, Int.reduceEq, Int.reduceToNat, (eq_false h2), (eq_false h4), (eq_true h12), (condZ_t h12), (eq_true h15), (condZ_t h15), (eq_true h18), (condZ_t h18), (eq_false h21), (eq_false h23), (condZ_f h23)]
          · cases h
            simp -implicitDefEqProofs -dsimp only [go_sem, ↓reduceIte, ↓dreduceIte, reduceCtorEq, Nat.reduceMul, Nat.reduceAdd, Nat.reduceSub, Nat.reduceDiv, Nat.reduceLT, Nat.reduceLeDiff, Nat.reduceEqDiff, Nat.reduceBEq, Int.reduceNeg, Int.reduceLT, Int.reduceLE, Int.reduceEq, Int.reduceToNat, (eq_false h2), (eq_false h4), (eq_true h12), (condZ_t h12), (eq_true h15), (condZ_t h15), (eq_false h18), (condZ_f h18)]
        · cases h
          simp -implicitDefEqProofs -dsimp only [go_sem, ↓reduceIte, ↓dreduceIte, reduceCtorEq, Nat.reduceMul, Nat.reduceAdd, Nat.reduceSub, Nat.reduceDiv, Nat.reduceLT, Nat.reduceLeDiff, Nat.reduceEqDiff, Nat.reduceBEq, Int.reduceNeg, Int.reduceLT, Int.reduceLE, Int.reduceEq, Int.reduceToNat, (eq_false h2), (eq_false h4), (eq_true h12), (condZ_t h12), (eq_false h15), (condZ_f h15)]
      · cases h
        simp -implicitDefEqProofs -dsimp only [go_sem, ↓reduceIte, ↓dreduceIte, reduceCtorEq, Nat.reduceMul, Nat.reduceAdd, Nat.reduceSub, Nat.reduceDiv, Nat.reduceLT, Nat.reduceLeDiff, Nat.reduceEqDiff, Nat.reduceBEq, Int.reduceNeg, Int.reduceLT, Int.reduceLE, Int.reduceEq, Int.reduceToNat, (eq_false h2), (eq_false h4), (eq_false h12), (condZ_f h12)]
end Go.Proofs.YtgmiaokdnpaglaaV
