/- Functions. -/
import Derived.Test.YtgmiaokdnpaglaaVFK1
set_option linter.all false
set_option linter.unusedVariables false
set_option linter.unusedSimpArgs false
set_option maxRecDepth 100000
set_option maxHeartbeats 400000
namespace Go.Proofs.YtgmiaokdnpaglaaV
open Go
/- 45 loop.example/g00827/laws.szTakeS -/
def hi45 : Hint where
  acts := fun _ => []
  draws := fun
    | _ => ⟨[], [], []⟩
theorem hi45a (i : Nat) : hi45.acts i = [] := rfl
theorem hi45v (i : Nat) : hi45.views i = none := rfl
attribute [go_sem] hi45a hi45v Go.Proofs.Try.ntmps45 Go.Proofs.Try.results45
theorem c_laws_szTakeS {a : List GTake} {left : Int} {res : Int} (h : m_laws_szTakeS a left = some res) : CallOk Go.Proofs.Try.prog 45 [.sl (rowsOf GTake.enc a), .lit (.int .i64 left)] [] (.lit (.int .i64 res)) [] := by
  refine callOk_of (ra := []) (md := mdT) hT (hi := hi45) Go.Proofs.Try.func45 rfl rfl (by decide +kernel) (by simp) ?_
  unfold m_laws_szTakeS at h
  rcases ite_some h with ⟨h1, h⟩ | ⟨h1, h⟩
  · cases h
    simp -implicitDefEqProofs -dsimp only [go_sem, ↓reduceIte, ↓dreduceIte, reduceCtorEq, Nat.reduceMul, Nat.reduceAdd, Nat.reduceSub, Nat.reduceDiv, Nat.reduceLT, Nat.reduceLeDiff, Nat.reduceEqDiff, Nat.reduceBEq, Int.reduceNeg, Int.reduceLT, Int.reduceLE, Int.reduceEq, Int.reduceToNat, (eq_true h1)]
  · cases h
    simp -implicitDefEqProofs -dsimp only [go_sem, ↓reduceIte, ↓dreduceIte, reduceCtorEq, Nat.reduceMul, Nat.reduceAdd, Nat.reduceSub, Nat.reduceDiv, Nat.reduceLT, Nat.reduceLeDiff, Nat.reduceEqDiff, Nat.reduceBEq, Int.reduceNeg, Int.reduceLT, Int.reduceLE, Int.reduceEq, Int.reduceToNat, (eq_false h1)]
/- 122 loop.example/g00827/laws.toTake -/
def hi122 : Hint where
  acts := fun _ => []
  draws := fun
    | _ => ⟨[], [], []⟩
theorem hi122a (i : Nat) : hi122.acts i = [] := rfl
theorem hi122v (i : Nat) : hi122.views i = none := rfl
attribute [go_sem] hi122a hi122v Go.Proofs.Try.ntmps122 Go.Proofs.Try.results122
theorem c_laws_toTake {a : GTake} {res : GTake} (h : m_laws_toTake a = some res) : CallOk Go.Proofs.Try.prog 122 [.agg [.lit (.int .i64 a.tie), .lit (.int .i64 a.length)]] [] (.agg [.lit (.int .i64 res.tie), .lit (.int .i64 res.length)]) [] := by
  refine callOk_of (ra := []) (md := mdT) hT (hi := hi122) Go.Proofs.Try.func122 rfl rfl (by decide +kernel) (by simp) ?_
  unfold m_laws_toTake at h
  cases h
  simp -implicitDefEqProofs -dsimp only [go_sem, ↓reduceIte, ↓dreduceIte, reduceCtorEq, Nat.reduceMul, Nat.reduceAdd, Nat.reduceSub, Nat.reduceDiv, Nat.reduceLT, Nat.reduceLeDiff, Nat.reduceEqDiff, Nat.reduceBEq, Int.reduceNeg, Int.reduceLT, Int.reduceLE, Int.reduceEq, Int.reduceToNat]
/- 47 loop.example/g00827/laws.toTakeS -/
def m_laws_toTakeS_L1_St (a : List GTake) : (Int × (List GTake)) → St
  | (i, out) => ⟨[(0, .sl (rowsOf GTake.enc a)), (3, .ref 448 1 0 out.length), (4, .lit (.int .i64 i))], [(448, 1, .row true (rowsOf GTake.enc out))], 2⟩
attribute [go_sem] m_laws_toTakeS_L1_St
def hi47 : Hint where
  acts := fun _ => []
  draws := fun
    | _ => ⟨[], [], []⟩
theorem hi47a (i : Nat) : hi47.acts i = [] := rfl
theorem hi47v (i : Nat) : hi47.views i = none := rfl
attribute [go_sem] hi47a hi47v Go.Proofs.Try.ntmps47 Go.Proofs.Try.results47
theorem c_laws_toTakeS {a : List GTake} {res : List GTake} (h : m_laws_toTakeS a = some res) : CallOk Go.Proofs.Try.prog 47 [.sl (rowsOf GTake.enc a)] [] (.ref 20000 1 0 res.length) [(20000, 1, .row true (rowsOf GTake.enc res))] := by
  refine callOk_of (ra := [.home 2]) (md := mdT) hT (hi := hi47) Go.Proofs.Try.func47 rfl rfl (by decide +kernel) (by simp) ?_
  unfold m_laws_toTakeS at h
  obtain ⟨h1, h⟩ := chk_some h
  obtain ⟨h2, h⟩ := chk_some h
  obtain ⟨q1004, l3, h⟩ := obnd_some h
  simp -implicitDefEqProofs -dsimp only [go_sem, ↓reduceIte, ↓dreduceIte, reduceCtorEq, Nat.reduceMul, Nat.reduceAdd, Nat.reduceSub, Nat.reduceDiv, Nat.reduceLT, Nat.reduceLeDiff, Nat.reduceEqDiff, Nat.reduceBEq, Int.reduceNeg, Int.reduceLT, Int.reduceLE, Int.reduceEq, Int.reduceToNat, (eq_true h1), (eq_true h2)]
  refine loopW_loopO (m1 := .mk) (m2 := .mk) [.nf [0, 3, 4] [448]] (m_laws_toTakeS_L1_St a) l3 ?_ ?_
  · simp -implicitDefEqProofs -dsimp only [go_sem, ↓reduceIte, ↓dreduceIte, reduceCtorEq, Nat.reduceMul, Nat.reduceAdd, Nat.reduceSub, Nat.reduceDiv, Nat.reduceLT, Nat.reduceLeDiff, Nat.reduceEqDiff, Nat.reduceBEq, Int.reduceNeg, Int.reduceLT, Int.reduceLE, Int.reduceEq, Int.reduceToNat, (eq_true h1), (eq_true h2)]
  · intro nb4 sb4 bb4 b4 gb4
    obtain ⟨i_1, out_1⟩ := sb4
    unfold m_laws_toTakeS_L1 at b4
    try dsimp only at b4
    rcases ite_some b4 with ⟨h5, b4⟩ | ⟨h5, b4⟩
    · obtain ⟨x1001, g6, b4⟩ := obnd_some b4
      obtain ⟨h7, h8, h9⟩ := getI_some g6
      obtain ⟨r1002, g10, b4⟩ := obnd_some b4
      simp -implicitDefEqProofs -dsimp only [go_sem, ↓reduceIte, ↓dreduceIte, reduceCtorEq, Nat.reduceMul, Nat.reduceAdd, Nat.reduceSub, Nat.reduceDiv, Nat.reduceLT, Nat.reduceLeDiff, Nat.reduceEqDiff, Nat.reduceBEq, Int.reduceNeg, Int.reduceLT, Int.reduceLE, Int.reduceEq, Int.reduceToNat, (eq_true h1), (eq_true h2), (eq_true h5), h7, h8, h9]
      refine callW_of (c_laws_toTake g10) ?_
      obtain ⟨x1003, g11, b4⟩ := obnd_some b4
      obtain ⟨h12, h13, h14⟩ := getI_some g11
      cases b4
      simp -implicitDefEqProofs -dsimp only [go_sem, ↓reduceIte, ↓dreduceIte, reduceCtorEq, Nat.reduceMul, Nat.reduceAdd, Nat.reduceSub, Nat.reduceDiv, Nat.reduceLT, Nat.reduceLeDiff, Nat.reduceEqDiff, Nat.reduceBEq, Int.reduceNeg, Int.reduceLT, Int.reduceLE, Int.reduceEq, Int.reduceToNat, (eq_true h1), (eq_true h2), (eq_true h5), h7, h8, h9, h12, h13, h14]
      refine next_of gb4 ?_
      simp -implicitDefEqProofs -dsimp only [go_sem, ↓reduceIte, ↓dreduceIte, reduceCtorEq, Nat.reduceMul, Nat.reduceAdd, Nat.reduceSub, Nat.reduceDiv, Nat.reduceLT, Nat.reduceLeDiff, Nat.reduceEqDiff, Nat.reduceBEq, Int.reduceNeg, Int.reduceLT, Int.reduceLE, Int.reduceEq, Int.reduceToNat, (eq_true h1), (eq_true h2), (eq_true h5), h7, h8, h9, h12, h13, h14]
    · cases b4
      have e15 := done_of gb4
      subst e15
      try dsimp only at h
      cases h
      simp -implicitDefEqProofs -dsimp only [go_sem, ↓reduceIte, ↓dreduceIte, reduceCtorEq, Nat.reduceMul, Nat.reduceAdd, Nat.reduceSub, Nat.reduceDiv, Nat.reduceLT, Nat.reduceLeDiff, Nat.reduceEqDiff, Nat.reduceBEq, Int.reduceNeg, Int.reduceLT, Int.reduceLE, Int.reduceEq, Int.reduceToNat, (eq_true h1), (eq_true h2), (eq_false h5)]
/- 46 loop.example/g00827/spec.TakesOk -/
def m_spec_TakesOk_L1_St (v15 : List GTake) (v16 : Int) (s_0 : List GNode) (s_1 : List GTie) (s_2 : Int) (v17 : Int) : St := ⟨[(2, .ptr 128 1 0 0), (15, .sl (rowsOf GTake.enc v15)), (16, .lit (.int .i64 v16)), (17, .lit (.int .i64 v17))], [(128, 1, .var [.sl (rowsOf GNode.encS s_0), .sl (rowsOf GTie.enc s_1), .lit (.int .i64 s_2)])], 2⟩
attribute [go_sem] m_spec_TakesOk_L1_St
def hi46 : Hint where
  acts := fun _ => []
  draws := fun
    | 6 => ⟨[⟨0, false, []⟩, ⟨1, false, []⟩, ⟨2, false, []⟩, ⟨3, false, []⟩, ⟨4, false, []⟩, ⟨5, false, []⟩, ⟨6, false, []⟩, ⟨7, false, []⟩, ⟨8, false, []⟩, ⟨9, false, []⟩, ⟨10, false, []⟩, ⟨11, false, []⟩, ⟨12, false, []⟩, ⟨13, false, []⟩, ⟨14, false, []⟩, ⟨15, false, []⟩, ⟨16, false, []⟩, ⟨17, false, []⟩, ⟨18, false, []⟩, ⟨19, false, []⟩, ⟨20, false, []⟩, ⟨21, false, []⟩, ⟨22, false, []⟩, ⟨23, false, []⟩, ⟨24, false, []⟩, ⟨25, false, []⟩, ⟨26, false, []⟩, ⟨27, false, []⟩, ⟨28, false, []⟩, ⟨29, false, []⟩, ⟨30, false, []⟩, ⟨31, false, []⟩, ⟨32, false, []⟩, ⟨33, false, []⟩, ⟨34, false, []⟩, ⟨35, false, []⟩, ⟨36, false, []⟩, ⟨37, false, []⟩], [[], [0], [], [2], [2, 3], [2, 3, 4], [0, 1, 2, 3, 4, 5], [0, 1, 2, 3, 4, 5, 6], [0, 1, 2, 3, 4, 5, 6, 7], [0, 1, 2, 3, 4, 5, 6, 7, 8], [0, 1, 2, 3, 4, 5, 6, 7, 8, 9], [0, 1, 2, 3, 4, 5, 6, 7, 8], [0, 1, 2, 3, 4, 5, 6, 7, 8, 11], [0, 1, 2, 3, 4, 5, 6, 7, 8, 9, 10, 11, 12], [0, 1, 2, 3, 4, 5, 6, 7, 8, 9, 10, 11, 12, 13], [0, 1, 2, 3, 4, 5, 6, 7, 8, 9, 10, 11, 12, 13, 14], [0, 1, 2, 3, 4, 5, 6, 7, 8, 9, 10, 11, 12, 13, 14, 15], [0, 1, 2, 3, 4, 5, 6, 7, 8, 9, 10, 11, 12, 13, 14, 15, 16], [0, 1, 2, 3, 4, 5, 6, 7, 8, 9, 10, 11, 12, 13, 14, 15, 16, 17], [0, 1, 2, 3, 4, 5, 6, 7, 8, 9, 10, 11, 12, 13, 14, 15, 16, 17, 18], [0, 1, 2, 3, 4, 5, 6, 7, 8, 9, 10, 11, 12, 13, 14, 15, 16, 17, 18, 19], [0, 1, 2, 3, 4, 5, 6, 7, 8, 9, 10, 11, 12, 13, 14, 15, 16, 17, 18], [0, 1, 2, 3, 4, 5, 6, 7, 8, 9, 10, 11, 12, 13, 14, 15, 16, 17, 18, 21], [0, 1, 2, 3, 4, 5, 6, 7, 8, 9, 10, 11, 12, 13, 14, 15, 16, 17, 18], [0, 1, 2, 3, 4, 5, 6, 7, 8, 9, 10, 11, 12, 13, 14, 15, 16, 17, 18, 23], [0, 1, 2, 3, 4, 5, 6, 7, 8, 9, 10, 11, 12, 13, 14, 15, 16, 17, 18, 21, 22, 23, 24], [0, 1, 2, 3, 4, 5, 6, 7, 8, 9, 10, 11, 12, 13, 14, 15, 16, 17, 18, 21, 22, 23, 24, 25], [0, 1, 2, 3, 4, 5, 6, 7, 8, 9, 10, 11, 12, 13, 14, 15, 16, 17, 18, 21, 22, 23, 24, 25, 26], [0, 1, 2, 3, 4, 5, 6, 7, 8, 9, 10, 11, 12, 13, 14, 15, 16, 17, 18], [0, 1, 2, 3, 4, 5, 6, 7, 8, 9, 10, 11, 12, 13, 14, 15, 16, 17, 18, 28], [0, 1, 2, 3, 4, 5, 6, 7, 8, 9, 10, 11, 12, 13, 14, 15, 16, 17, 18], [0, 1, 2, 3, 4, 5, 6, 7, 8, 9, 10, 11, 12, 13, 14, 15, 16, 17, 18, 30], [0, 1, 2, 3, 4, 5, 6, 7, 8, 9, 10, 11, 12, 13, 14, 15, 16, 17, 18, 28, 29, 30, 31], [0, 1, 2, 3, 4, 5, 6, 7, 8, 9, 10, 11, 12, 13, 14, 15, 16, 17, 18, 28, 29, 30, 31, 32], [0, 1, 2, 3, 4, 5, 6, 7, 8, 9, 10, 11, 12, 13, 14, 15, 16, 17, 18, 28, 29, 30, 31, 32, 33], [0, 1, 2, 3, 4, 5, 6, 7, 8, 9, 10, 11, 12, 13, 14, 15, 16, 17, 18, 19, 20, 21, 22, 23, 24, 25, 26, 27, 28, 29, 30, 31, 32, 33, 34], [0, 1, 2, 3, 4, 5, 6, 7, 8, 9, 10, 11, 12, 13, 14, 15, 16, 17, 18, 19, 20, 21, 22, 23, 24, 25, 26, 27, 28, 29, 30, 31, 32, 33, 34, 35], [0, 1, 2, 3, 4, 5, 6, 7, 8, 9, 10, 11, 12, 13, 14, 15, 16, 17, 18, 19, 20, 21, 22, 23, 24, 25, 26, 27, 28, 29, 30, 31, 32, 33, 34, 35, 36]], [0, 1, 2, 3, 4, 5, 6, 7, 8, 9, 10, 11, 12, 13, 14, 15, 16, 17, 18, 19, 20, 21, 22, 23, 24, 25, 26, 27, 28, 29, 30, 31, 32, 33, 34, 35, 36, 37]⟩
    | _ => ⟨[], [], []⟩
theorem hi46a (i : Nat) : hi46.acts i = [] := rfl
theorem hi46v (i : Nat) : hi46.views i = none := rfl
attribute [go_sem] hi46a hi46v Go.Proofs.Try.ntmps46 Go.Proofs.Try.results46
@[go_sem] theorem hi46d6 : (hi46.draws 6).order = [⟨0, false, []⟩, ⟨1, false, []⟩, ⟨2, false, []⟩, ⟨3, false, []⟩, ⟨4, false, []⟩, ⟨5, false, []⟩, ⟨6, false, []⟩, ⟨7, false, []⟩, ⟨8, false, []⟩, ⟨9, false, []⟩, ⟨10, false, []⟩, ⟨11, false, []⟩, ⟨12, false, []⟩, ⟨13, false, []⟩, ⟨14, false, []⟩, ⟨15, false, []⟩, ⟨16, false, []⟩, ⟨17, false, []⟩, ⟨18, false, []⟩, ⟨19, false, []⟩, ⟨20, false, []⟩, ⟨21, false, []⟩, ⟨22, false, []⟩, ⟨23, false, []⟩, ⟨24, false, []⟩, ⟨25, false, []⟩, ⟨26, false, []⟩, ⟨27, false, []⟩, ⟨28, false, []⟩, ⟨29, false, []⟩, ⟨30, false, []⟩, ⟨31, false, []⟩, ⟨32, false, []⟩, ⟨33, false, []⟩, ⟨34, false, []⟩, ⟨35, false, []⟩, ⟨36, false, []⟩, ⟨37, false, []⟩] := rfl
theorem c_spec_TakesOk {s : GShow} {list : List GTake} {res : Bool} (h : m_spec_TakesOk s list = some res) : CallOk Go.Proofs.Try.prog 46 [.agg [.sl (rowsOf GNode.encS s.nodes), .sl (rowsOf GTie.enc s.ties), .lit (.int .i64 s.horizon)], .sl (rowsOf GTake.enc list)] [] (.lit (.bool res)) [] := by
  refine callOk_of (ra := []) (md := mdT) hT (hi := hi46) Go.Proofs.Try.func46 rfl rfl (by decide +kernel) (by simp) ?_
  unfold m_spec_TakesOk at h
  obtain ⟨r1001, g1, h⟩ := obnd_some h
  simp -implicitDefEqProofs -dsimp only [go_sem, ↓reduceIte, ↓dreduceIte, reduceCtorEq, Nat.reduceMul, Nat.reduceAdd, Nat.reduceSub, Nat.reduceDiv, Nat.reduceLT, Nat.reduceLeDiff, Nat.reduceEqDiff, Nat.reduceBEq, Int.reduceNeg, Int.reduceLT, Int.reduceLE, Int.reduceEq, Int.reduceToNat]
  refine callW_of (c_spec_ShowOk g1) ?_
  rcases ite_some h with ⟨h2, h⟩ | ⟨h2, h⟩
  · rcases ite_some h with ⟨h3, h⟩ | ⟨h3, h⟩
    · cases h
      simp -implicitDefEqProofs -dsimp only [go_sem, ↓reduceIte, ↓dreduceIte, reduceCtorEq, Nat.reduceMul, Nat.reduceAdd, Nat.reduceSub, Nat.reduceDiv, Nat.reduceLT, Nat.reduceLeDiff, Nat.reduceEqDiff, Nat.reduceBEq, Int.reduceNeg, Int.reduceLT, Int.reduceLE, Int.reduceEq, Int.reduceToNat, (eq_true h2), (condZ_t h2), (eq_true h3)]
    · obtain ⟨q1006, l4, h⟩ := obnd_some h
      simp -implicitDefEqProofs -dsimp only [go_sem, ↓reduceIte, ↓dreduceIte, reduceCtorEq, Nat.reduceMul, Nat.reduceAdd, Nat.reduceSub, Nat.reduceDiv, Nat.reduceLT, Nat.reduceLeDiff, Nat.reduceEqDiff, Nat.reduceBEq, Int.reduceNeg, Int.reduceLT, Int.reduceLE, Int.reduceEq, Int.reduceToNat, (eq_true h2), (condZ_t h2), (eq_false h3)]
      refine loopW_loopO (m1 := .mk) (m2 := .mk) [.nf [2, 15, 16, 17] [128]] (m_spec_TakesOk_L1_St list ((list.length : Nat) : Int) s.nodes s.ties s.horizon) l4 ?_ ?_
      · simp -implicitDefEqProofs -dsimp only [go_sem, ↓reduceIte, ↓dreduceIte, reduceCtorEq, Nat.reduceMul, Nat.reduceAdd, Nat.reduceSub, Nat.reduceDiv, Nat.reduceLT, Nat.reduceLeDiff, Nat.reduceEqDiff, Nat.reduceBEq, Int.reduceNeg, Int.reduceLT, Int.reduceLE, Int.reduceEq, Int.reduceToNat, (eq_true h2), (condZ_t h2), (eq_false h3)]
      · intro nb5 sb5 bb5 b5 gb5
        obtain ⟨v17_1, eb5⟩ : ∃ v, v = sb5 := ⟨_, rfl⟩; subst eb5
        unfold m_spec_TakesOk_L1 at b5
        try dsimp only at b5
        rcases ite_some b5 with ⟨h6, b5⟩ | ⟨h6, b5⟩
        · obtain ⟨x1002, g7, b5⟩ := obnd_some b5
          obtain ⟨h8, h9, h10⟩ := getI_some g7
          obtain ⟨r1003, g11, b5⟩ := obnd_some b5
          simp -implicitDefEqProofs -dsimp only [go_sem, ↓reduceIte, ↓dreduceIte, reduceCtorEq, Nat.reduceMul, Nat.reduceAdd, Nat.reduceSub, Nat.reduceDiv, Nat.reduceLT, Nat.reduceLeDiff, Nat.reduceEqDiff, Nat.reduceBEq, Int.reduceNeg, Int.reduceLT, Int.reduceLE, Int.reduceEq, Int.reduceToNat, (eq_true h2), (condZ_t h2), (eq_false h3), (eq_true h6), h8, h9, h10]
          refine callW_of (c_spec_l01In g11) ?_
          rcases ite_some b5 with ⟨h12, b5⟩ | ⟨h12, b5⟩
          · obtain ⟨x1004, g13, b5⟩ := obnd_some b5
            obtain ⟨h14, h15, h16⟩ := getI_some g13
            rcases ite_some b5 with ⟨h17, b5⟩ | ⟨h17, b5⟩
            · obtain ⟨r1005, g18, b5⟩ := obnd_some b5
              simp -implicitDefEqProofs -dsimp only [go_sem, ↓reduceIte, ↓dreduceIte, reduceCtorEq, Nat.reduceMul, Nat.reduceAdd, Nat.reduceSub, Nat.reduceDiv, Nat.reduceLT, Nat.reduceLeDiff, Nat.reduceEqDiff, Nat.reduceBEq, Int.reduceNeg, Int.reduceLT, Int.reduceLE, Int.reduceEq, Int.reduceToNat, (eq_true h2), (condZ_t h2), (eq_false h3), (eq_true h6), h8, h9, h10, (eq_true h12), (condZ_t h12), h14, h15, h16, (eq_true h17), (condZ_t h17)]
              refine callW_of (c_spec_l01In g18) ?_
              rcases ite_some b5 with ⟨h19, b5⟩ | ⟨h19, b5⟩
              · cases b5
                simp -implicitDefEqProofs -dsimp only [go_sem, ↓reduceIte, ↓dreduceIte, reduceCtorEq, Nat.reduceMul, Nat.reduceAdd, Nat.reduceSub, Nat.reduceDiv, Nat.reduceLT, Nat.reduceLeDiff, Nat.reduceEqDiff, Nat.reduceBEq, Int.reduceNeg, Int.reduceLT, Int.reduceLE, Int.reduceEq, Int.reduceToNat, (eq_true h2), (condZ_t h2), (eq_false h3), (eq_true h6), h8, h9, h10, (eq_true h12), (condZ_t h12), h14, h15, h16, (eq_true h17), (condZ_t h17), (eq_true h19), (condZ_t h19)]
                refine next_of gb5 ?_
                simp -implicitDefEqProofs -dsimp only [go_sem, ↓reduceIte, ↓dreduceIte, reduceCtorEq, Nat.reduceMul, Nat.reduceAdd, Nat.reduceSub, Nat.reduceDiv, Nat.reduceLT, Nat.reduceLeDiff, Nat.reduceEqDiff, Nat.reduceBEq, Int.reduceNeg, Int.reduceLT, Int.reduceLE, Int.reduceEq, Int.reduceToNat, (eq_true h2), (condZ_t h2), (eq_false h3), (eq_true h6), h8, h9, h10, (eq_true h12), (condZ_t h12), h14, h15, h16, (eq_true h17), (condZ_t h17), (eq_true h19), (condZ_t h19)]
              · cases b5
                have e20 := done_of gb5
                subst e20
                try dsimp only at h
                cases h
                simp -implicitDefEqProofs -dsimp only [go_sem, ↓reduceIte, ↓dreduceIte, reduceCtorEq, Nat.reduceMul, Nat.reduceAdd, Nat.reduceSub, Nat.reduceDiv, Nat.reduceLT, Nat.reduceLeDiff, Nat.reduceEqDiff, Nat.reduceBEq, Int.reduceNeg, Int.reduceLT, Int.reduceLE, Int.reduceEq, Int.reduceToNat, (eq_true h2), (condZ_t h2), (eq_false h3), (eq_true h6), h8, h9, h10, (eq_true h12), (condZ_t h12), h14, h15, h16, (eq_true h17), (condZ_t h17), (eq_false h19), (condZ_f h19)]
            · cases b5
              have e21 := done_of gb5
              subst e21
              try dsimp only at h
              cases h
              simp -implicitDefEqProofs -dsimp only [go_sem, ↓reduceIte, ↓dreduceIte, reduceCtorEq, Nat.reduceMul, Nat.reduceAdd, Nat.reduceSub, Nat.reduceDiv, Nat.reduceLT, Nat.reduceLeDiff, Nat.reduceEqDiff, Nat.reduceBEq, Int.reduceNeg, Int.reduceLT, Int.reduceLE, Int.reduceEq, Int.reduceToNat, (eq_true h2), (condZ_t h2), (eq_false h3), (eq_true h6), h8, h9, h10, (eq_true h12), (condZ_t h12), h14, h15, h16, (eq_false h17), (condZ_f h17)]
          · cases b5
            have e22 := done_of gb5
            subst e22
            try dsimp only at h
            cases h
            simp -implicitDefEqProofs -dsimp only [go_sem, ↓reduceIte, ↓dreduceIte, reduceCtorEq, Nat.reduceMul, Nat.reduceAdd, Nat.reduceSub, Nat.reduceDiv, Nat.reduceLT, Nat.reduceLeDiff, Nat.reduceEqDiff, Nat.reduceBEq, Int.reduceNeg, Int.reduceLT, Int.reduceLE, Int.reduceEq, Int.reduceToNat, (eq_true h2), (condZ_t h2), (eq_false h3), (eq_true h6), h8, h9, h10, (eq_false h12), (condZ_f h12)]
        · cases b5
          have e23 := done_of gb5
          subst e23
          try dsimp only at h
          cases h
          simp -implicitDefEqProofs -dsimp only [go_sem, ↓reduceIte, ↓dreduceIte, reduceCtorEq, Nat.reduceMul, Nat.reduceAdd, Nat.reduceSub, Nat.reduceDiv, Nat.reduceLT, Nat.reduceLeDiff, Nat.reduceEqDiff, Nat.reduceBEq, Int.reduceNeg, Int.reduceLT, Int.reduceLE, Int.reduceEq, Int.reduceToNat, (eq_true h2), (condZ_t h2), (eq_false h3), (eq_false h6)]
  · cases h
    simp -implicitDefEqProofs -dsimp only [go_sem, ↓reduceIte, ↓dreduceIte, reduceCtorEq, Nat.reduceMul, Nat.reduceAdd, Nat.reduceSub, Nat.reduceDiv, Nat.reduceLT, Nat.reduceLeDiff, Nat.reduceEqDiff, Nat.reduceBEq, Int.reduceNeg, Int.reduceLT, Int.reduceLE, Int.reduceEq, Int.reduceToNat, (eq_false h2), (condZ_f h2)]
/- 126 loop.example/g00827/spec.l24Range -/
def m_spec_l24Range_L1_St (tie : Int) (v11 : List GTake) (v12 : Int) : (Bool × Int × Int × Int) → St
  | (found, v13, out_0, out_1) => ⟨[(1, .lit (.int .i64 tie)), (4, .ptr 256 1 0 0), (6, .ptr 384 1 0 0), (7, .lit (.bool found)), (11, .sl (rowsOf GTake.enc v11)), (12, .lit (.int .i64 v12)), (13, .lit (.int .i64 v13))], [(256, 1, .var [.lit (.int .i64 0), .lit (.int .i64 0)]), (384, 1, .var [.lit (.int .i64 out_0), .lit (.int .i64 out_1)])], 2⟩
attribute [go_sem] m_spec_l24Range_L1_St
def hi126 : Hint where
  acts := fun _ => []
  draws := fun
    | _ => ⟨[], [], []⟩
theorem hi126a (i : Nat) : hi126.acts i = [] := rfl
theorem hi126v (i : Nat) : hi126.views i = none := rfl
attribute [go_sem] hi126a hi126v Go.Proofs.Try.ntmps126 Go.Proofs.Try.results126
theorem c_spec_l24Range {list : List GTake} {tie : Int} {res : GInterval × Bool} (h : m_spec_l24Range list tie = some res) : CallOk Go.Proofs.Try.prog 126 [.sl (rowsOf GTake.enc list), .lit (.int .i64 tie)] [] (.tup [.agg [.lit (.int .i64 res.1.low), .lit (.int .i64 res.1.high)], .lit (.bool res.2)]) [] := by
  refine callOk_of (ra := []) (md := mdT) hT (hi := hi126) Go.Proofs.Try.func126 rfl rfl (by decide +kernel) (by simp) ?_
  unfold m_spec_l24Range at h
  obtain ⟨q1002, l1, h⟩ := obnd_some h
  simp -implicitDefEqProofs -dsimp only [go_sem, ↓reduceIte, ↓dreduceIte, reduceCtorEq, Nat.reduceMul, Nat.reduceAdd, Nat.reduceSub, Nat.reduceDiv, Nat.reduceLT, Nat.reduceLeDiff, Nat.reduceEqDiff, Nat.reduceBEq, Int.reduceNeg, Int.reduceLT, Int.reduceLE, Int.reduceEq, Int.reduceToNat]
  refine loopW_loopO (m1 := .mk) (m2 := .mk) [.nf [1, 4, 6, 7, 11, 12, 13] [256, 384]] (m_spec_l24Range_L1_St tie list ((list.length : Nat) : Int)) l1 ?_ ?_
  · simp -implicitDefEqProofs -dsimp only [go_sem, ↓reduceIte, ↓dreduceIte, reduceCtorEq, Nat.reduceMul, Nat.reduceAdd, Nat.reduceSub, Nat.reduceDiv, Nat.reduceLT, Nat.reduceLeDiff, Nat.reduceEqDiff, Nat.reduceBEq, Int.reduceNeg, Int.reduceLT, Int.reduceLE, Int.reduceEq, Int.reduceToNat]
  · intro nb2 sb2 bb2 b2 gb2
    obtain ⟨found_1, v13_1, out_0_1, out_1_1⟩ := sb2
    unfold m_spec_l24Range_L1 at b2
    try dsimp only at b2
    rcases ite_some b2 with ⟨h3, b2⟩ | ⟨h3, b2⟩
    · obtain ⟨x1001, g4, b2⟩ := obnd_some b2
      obtain ⟨h5, h6, h7⟩ := getI_some g4
      rcases ite_some b2 with ⟨h8, b2⟩ | ⟨h8, b2⟩
      · rcases ite_some b2 with ⟨h9, b2⟩ | ⟨h9, b2⟩
        · cases b2
          simp -implicitDefEqProofs -dsimp only [go_sem, ↓reduceIte, ↓dreduceIte, reduceCtorEq, Nat.reduceMul, Nat.reduceAdd, Nat.reduceSub, Nat.reduceDiv, Nat.reduceLT, Nat.reduceLeDiff, Nat.reduceEqDiff, Nat.reduceBEq, Int.reduceNeg, Int.reduceLT, Int.reduceLE, Int.reduceEq, Int.reduceToNat, (eq_true h3), h5, h6, h7, (eq_true h8), (eq_true h9), (condZ_t h9)]
          refine next_of gb2 ?_
          simp -implicitDefEqProofs -dsimp only [go_sem, ↓reduceIte, ↓dreduceIte, reduceCtorEq, Nat.reduceMul, Nat.reduceAdd, Nat.reduceSub, Nat.reduceDiv, Nat.reduceLT, Nat.reduceLeDiff, Nat.reduceEqDiff, Nat.reduceBEq, Int.reduceNeg, Int.reduceLT, Int.reduceLE, Int.reduceEq, Int.reduceToNat, (eq_true h3), h5, h6, h7, (eq_true h8), (eq_true h9), (condZ_t h9)]
        · cases b2
          simp -implicitDefEqProofs -dsimp only [go_sem, ↓reduceIte, ↓dreduceIte, reduceCtorEq, Nat.reduceMul, Nat.reduceAdd, Nat.reduceSub, Nat.reduceDiv, Nat.reduceLT, Nat.reduceLeDiff, Nat.reduceEqDiff, Nat.reduceBEq, Int.reduceNeg, Int.reduceLT, Int.reduceLE, Int.reduceEq, Int.reduceToNat, (eq_true h3), h5, h6, h7, (eq_true h8), (eq_false h9), (condZ_f h9)]
          refine next_of gb2 ?_
          simp -implicitDefEqProofs -dsimp only [go_sem, ↓reduceIte, ↓dreduceIte, reduceCtorEq, Nat.reduceMul, Nat.reduceAdd, Nat.reduceSub, Nat.reduceDiv, Nat.reduceLT, Nat.reduceLeDiff, Nat.reduceEqDiff, Nat.reduceBEq, Int.reduceNeg, Int.reduceLT, Int.reduceLE, Int.reduceEq, Int.reduceToNat, (eq_true h3), h5, h6, h7, (eq_true h8), (eq_false h9), (condZ_f h9)]
      · cases b2
        simp -implicitDefEqProofs -dsimp only [go_sem, ↓reduceIte, ↓dreduceIte, reduceCtorEq, Nat.reduceMul, Nat.reduceAdd, Nat.reduceSub, Nat.reduceDiv, Nat.reduceLT, Nat.reduceLeDiff, Nat.reduceEqDiff, Nat.reduceBEq, Int.reduceNeg, Int.reduceLT, Int.reduceLE, Int.reduceEq, Int.reduceToNat, (eq_true h3), h5, h6, h7, (eq_false h8)]
        refine next_of gb2 ?_
        simp -implicitDefEqProofs -dsimp only [go_sem, ↓reduceIte, ↓dreduceIte, reduceCtorEq, Nat.reduceMul, Nat.reduceAdd, Nat.reduceSub, Nat.reduceDiv, Nat.reduceLT, Nat.reduceLeDiff, Nat.reduceEqDiff, Nat.reduceBEq, Int.reduceNeg, Int.reduceLT, Int.reduceLE, Int.reduceEq, Int.reduceToNat, (eq_true h3), h5, h6, h7, (eq_false h8)]
    · cases b2
      have e10 := done_of gb2
      subst e10
      try dsimp only at h
      cases h
      simp -implicitDefEqProofs -dsimp only [go_sem, ↓reduceIte, ↓dreduceIte, reduceCtorEq, Nat.reduceMul, Nat.reduceAdd, Nat.reduceSub, Nat.reduceDiv, Nat.reduceLT, Nat.reduceLeDiff, Nat.reduceEqDiff, Nat.reduceBEq, Int.reduceNeg, Int.reduceLT, Int.reduceLE, Int.reduceEq, Int.reduceToNat, (eq_false h3)]
/- 53 loop.example/g00827/spec.ObservedRange -/
def hi53 : Hint where
  acts := fun _ => []
  draws := fun
    | _ => ⟨[], [], []⟩
theorem hi53a (i : Nat) : hi53.acts i = [] := rfl
theorem hi53v (i : Nat) : hi53.views i = none := rfl
attribute [go_sem] hi53a hi53v Go.Proofs.Try.ntmps53 Go.Proofs.Try.results53
theorem c_spec_ObservedRange {s : GShow} {list : List GTake} {tie : Int} {res : GInterval × Bool} (h : m_spec_ObservedRange s list tie = some res) : CallOk Go.Proofs.Try.prog 53 [.agg [.sl (rowsOf GNode.encS s.nodes), .sl (rowsOf GTie.enc s.ties), .lit (.int .i64 s.horizon)], .sl (rowsOf GTake.enc list), .lit (.int .i64 tie)] [] (.tup [.agg [.lit (.int .i64 res.1.low), .lit (.int .i64 res.1.high)], .lit (.bool res.2)]) [] := by
  refine callOk_of (ra := []) (md := mdT) hT (hi := hi53) Go.Proofs.Try.func53 rfl rfl (by decide +kernel) (by simp) ?_
  unfold m_spec_ObservedRange at h
  obtain ⟨r1001, g1, h⟩ := obnd_some h
  simp -implicitDefEqProofs -dsimp only [go_sem, ↓reduceIte, ↓dreduceIte, reduceCtorEq, Nat.reduceMul, Nat.reduceAdd, Nat.reduceSub, Nat.reduceDiv, Nat.reduceLT, Nat.reduceLeDiff, Nat.reduceEqDiff, Nat.reduceBEq, Int.reduceNeg, Int.reduceLT, Int.reduceLE, Int.reduceEq, Int.reduceToNat]
  refine callW_of (c_spec_TakesOk g1) ?_
  rcases ite_some h with ⟨h2, h⟩ | ⟨h2, h⟩
  · obtain ⟨r1002, g3, h⟩ := obnd_some h
    simp -implicitDefEqProofs -dsimp only [go_sem, ↓reduceIte, ↓dreduceIte, reduceCtorEq, Nat.reduceMul, Nat.reduceAdd, Nat.reduceSub, Nat.reduceDiv, Nat.reduceLT, Nat.reduceLeDiff, Nat.reduceEqDiff, Nat.reduceBEq, Int.reduceNeg, Int.reduceLT, Int.reduceLE, Int.reduceEq, Int.reduceToNat, (eq_true h2), (condZ_t h2)]
    refine callW_of (c_spec_l24Range g3) ?_
    cases h
    simp -implicitDefEqProofs -dsimp only [go_sem, ↓reduceIte, ↓dreduceIte, reduceCtorEq, Nat.reduceMul, Nat.reduceAdd, Nat.reduceSub, Nat.reduceDiv, Nat.reduceLT, Nat.reduceLeDiff, Nat.reduceEqDiff, Nat.reduceBEq, Int.reduceNeg, Int.reduceLT, Int.reduceLE, Int.reduceEq, Int.reduceToNat, (eq_true h2), (condZ_t h2)]
  · cases h
    simp -implicitDefEqProofs -dsimp only [go_sem, ↓reduceIte, ↓dreduceIte, reduceCtorEq, Nat.reduceMul, Nat.reduceAdd, Nat.reduceSub, Nat.reduceDiv, Nat.reduceLT, Nat.reduceLeDiff, Nat.reduceEqDiff, Nat.reduceBEq, Int.reduceNeg, Int.reduceLT, Int.reduceLE, Int.reduceEq, Int.reduceToNat, (eq_false h2), (condZ_f h2)]
/- 183 slices.IndexFunc[[]loop.example/g00827/impl.Take,loop.example/g00827/impl.Take] -/
def m_slices_IndexFunc_Take_L1_St (v0 : List GTake) (f_v1 : Nat) (k_v1 : List AV) (v7 : Int) (v8 : Int) : St := ⟨[(0, .sl (rowsOf GTake.enc v0)), (1, .fn f_v1 k_v1), (7, .lit (.int .i64 v7)), (8, .lit (.int .i64 v8))], [], 2⟩
attribute [go_sem] m_slices_IndexFunc_Take_L1_St
def hi183 : Hint where
  acts := fun _ => []
  draws := fun
    | _ => ⟨[], [], []⟩
theorem hi183a (i : Nat) : hi183.acts i = [] := rfl
theorem hi183v (i : Nat) : hi183.views i = none := rfl
attribute [go_sem] hi183a hi183v Go.Proofs.Try.ntmps183 Go.Proofs.Try.results183
theorem c_slices_IndexFunc_Take {v0 : List GTake} {v1 : GTake → Option Bool} {f_v1 : Nat} {k_v1 : List AV} (hp_v1 : ∀ y0 r, v1 y0 = some r → CallOk Go.Proofs.Try.prog f_v1 ([.agg [.lit (.int .i64 y0.tie), .lit (.int .i64 y0.length)]] ++ k_v1) [] (.lit (.bool r)) []) (hc_v1 : KC k_v1) (hm_v1 : mdT f_v1 = ⟨[], false⟩) {res : Int} (h : m_slices_IndexFunc_Take v0 v1 = some res) : CallOk Go.Proofs.Try.prog 183 [.sl (rowsOf GTake.enc v0), .fn f_v1 k_v1] [] (.lit (.int .i64 res)) [] := by
  refine callOk_of (ra := []) (md := mdT) hT (hi := hi183) Go.Proofs.Try.func183 rfl rfl (by decide +kernel) (by simp) ?_
  unfold m_slices_IndexFunc_Take at h
  obtain ⟨q1003, l1, h⟩ := obnd_some h
  simp -implicitDefEqProofs -dsimp only [go_sem, ↓reduceIte, ↓dreduceIte, reduceCtorEq, Nat.reduceMul, Nat.reduceAdd, Nat.reduceSub, Nat.reduceDiv, Nat.reduceLT, Nat.reduceLeDiff, Nat.reduceEqDiff, Nat.reduceBEq, Int.reduceNeg, Int.reduceLT, Int.reduceLE, Int.reduceEq, Int.reduceToNat, hc_v1.1, hc_v1.2, hm_v1]
  refine loopW_loopO (m1 := .mk) (m2 := .mk) [.nf [0, 1, 7, 8] []] (m_slices_IndexFunc_Take_L1_St v0 f_v1 k_v1 ((v0.length : Nat) : Int)) l1 ?_ ?_
  · simp -implicitDefEqProofs -dsimp only [go_sem, ↓reduceIte, ↓dreduceIte, reduceCtorEq, Nat.reduceMul, Nat.reduceAdd, Nat.reduceSub, Nat.reduceDiv, Nat.reduceLT, Nat.reduceLeDiff, Nat.reduceEqDiff, Nat.reduceBEq, Int.reduceNeg, Int.reduceLT, Int.reduceLE, Int.reduceEq, Int.reduceToNat, hc_v1.1, hc_v1.2, hm_v1]
  · intro nb2 sb2 bb2 b2 gb2
    obtain ⟨v8_1, eb2⟩ : ∃ v, v = sb2 := ⟨_, rfl⟩; subst eb2
    unfold m_slices_IndexFunc_Take_L1 at b2
    try dsimp only at b2
    rcases ite_some b2 with ⟨h3, b2⟩ | ⟨h3, b2⟩
    · obtain ⟨x1001, g4, b2⟩ := obnd_some b2
      obtain ⟨h5, h6, h7⟩ := getI_some g4
      obtain ⟨r1002, g8, b2⟩ := obnd_some b2
      simp -implicitDefEqProofs -dsimp only [go_sem, ↓reduceIte, ↓dreduceIte, reduceCtorEq, Nat.reduceMul, Nat.reduceAdd, Nat.reduceSub, Nat.reduceDiv, Nat.reduceLT, Nat.reduceLeDiff, Nat.reduceEqDiff, Nat.reduceBEq, Int.reduceNeg, Int.reduceLT, Int.reduceLE, Int.reduceEq, Int.reduceToNat, hc_v1.1, hc_v1.2, hm_v1, (eq_true h3), h5, h6, h7]
      refine callW_of (hp_v1 _ _ g8) ?_
      rcases ite_some b2 with ⟨h9, b2⟩ | ⟨h9, b2⟩
      · cases b2
        have e10 := done_of gb2
        subst e10
        try dsimp only at h
        cases h
        simp -implicitDefEqProofs -dsimp only [go_sem, ↓reduceIte, ↓dreduceIte, reduceCtorEq, Nat.reduceMul, Nat.reduceAdd, Nat.reduceSub, Nat.reduceDiv, Nat.reduceLT, Nat.reduceLeDiff, Nat.reduceEqDiff, Nat.reduceBEq, Int.reduceNeg, Int.reduceLT, Int.reduceLE, Int.reduceEq, Int.reduceToNat, hc_v1.1, hc_v1.2, hm_v1, (eq_true h3), h5, h6, h7, (eq_true h9), (condZ_t h9)]
      · cases b2
        simp -implicitDefEqProofs -dsimp only [go_sem, ↓reduceIte, ↓dreduceIte, reduceCtorEq, Nat.reduceMul, Nat.reduceAdd, Nat.reduceSub, Nat.reduceDiv, Nat.reduceLT, Nat.reduceLeDiff, Nat.reduceEqDiff, Nat.reduceBEq, Int.reduceNeg, Int.reduceLT, Int.reduceLE, Int.reduceEq, Int.reduceToNat, hc_v1.1, hc_v1.2, hm_v1, (eq_true h3), h5, h6, h7, (eq_false h9), (condZ_f h9)]
        refine next_of gb2 ?_
        simp -implicitDefEqProofs -dsimp only [go_sem, ↓reduceIte, ↓dreduceIte, reduceCtorEq, Nat.reduceMul, Nat.reduceAdd, Nat.reduceSub, Nat.reduceDiv, Nat.reduceLT, Nat.reduceLeDiff, Nat.reduceEqDiff, Nat.reduceBEq, Int.reduceNeg, Int.reduceLT, Int.reduceLE, Int.reduceEq, Int.reduceToNat, hc_v1.1, hc_v1.2, hm_v1, (eq_true h3), h5, h6, h7, (eq_false h9), (condZ_f h9)]
    · cases b2
      have e11 := done_of gb2
      subst e11
      try dsimp only at h
      cases h
      simp -implicitDefEqProofs -dsimp only [go_sem, ↓reduceIte, ↓dreduceIte, reduceCtorEq, Nat.reduceMul, Nat.reduceAdd, Nat.reduceSub, Nat.reduceDiv, Nat.reduceLT, Nat.reduceLeDiff, Nat.reduceEqDiff, Nat.reduceBEq, Int.reduceNeg, Int.reduceLT, Int.reduceLE, Int.reduceEq, Int.reduceToNat, hc_v1.1, hc_v1.2, hm_v1, (eq_false h3)]
/- 123 slices.ContainsFunc[[]loop.example/g00827/impl.Take,loop.example/g00827/impl.Take] -/
def hi123 : Hint where
  acts := fun _ => []
  draws := fun
    | _ => ⟨[], [], []⟩
theorem hi123a (i : Nat) : hi123.acts i = [] := rfl
theorem hi123v (i : Nat) : hi123.views i = none := rfl
attribute [go_sem] hi123a hi123v Go.Proofs.Try.ntmps123 Go.Proofs.Try.results123
theorem c_slices_ContainsFunc_Take {v0 : List GTake} {v1 : GTake → Option Bool} {f_v1 : Nat} {k_v1 : List AV} (hp_v1 : ∀ y0 r, v1 y0 = some r → CallOk Go.Proofs.Try.prog f_v1 ([.agg [.lit (.int .i64 y0.tie), .lit (.int .i64 y0.length)]] ++ k_v1) [] (.lit (.bool r)) []) (hc_v1 : KC k_v1) (hm_v1 : mdT f_v1 = ⟨[], false⟩) {res : Bool} (h : m_slices_ContainsFunc_Take v0 v1 = some res) : CallOk Go.Proofs.Try.prog 123 [.sl (rowsOf GTake.enc v0), .fn f_v1 k_v1] [] (.lit (.bool res)) [] := by
  refine callOk_of (ra := []) (md := mdT) hT (hi := hi123) Go.Proofs.Try.func123 rfl rfl (by decide +kernel) (by simp) ?_
  unfold m_slices_ContainsFunc_Take at h
  obtain ⟨r1001, g1, h⟩ := obnd_some h
  simp -implicitDefEqProofs -dsimp only [go_sem, ↓reduceIte, ↓dreduceIte, reduceCtorEq, Nat.reduceMul, Nat.reduceAdd, Nat.reduceSub, Nat.reduceDiv, Nat.reduceLT, Nat.reduceLeDiff, Nat.reduceEqDiff, Nat.reduceBEq, Int.reduceNeg, Int.reduceLT, Int.reduceLE, Int.reduceEq, Int.reduceToNat, hc_v1.1, hc_v1.2, hm_v1]
  refine callW_of (c_slices_IndexFunc_Take hp_v1 hc_v1 hm_v1 g1) ?_
  cases h
  simp -implicitDefEqProofs -dsimp only [go_sem, ↓reduceIte, ↓dreduceIte, reduceCtorEq, Nat.reduceMul, Nat.reduceAdd, Nat.reduceSub, Nat.reduceDiv, Nat.reduceLT, Nat.reduceLeDiff, Nat.reduceEqDiff, Nat.reduceBEq, Int.reduceNeg, Int.reduceLT, Int.reduceLE, Int.reduceEq, Int.reduceToNat, hc_v1.1, hc_v1.2, hm_v1]
/- 124 loop.example/g00827/impl.TakesOk$1 -/
def hi124 : Hint where
  acts := fun _ => []
  draws := fun
    | 1 => ⟨[⟨0, false, []⟩, ⟨1, false, []⟩, ⟨2, false, []⟩, ⟨3, false, []⟩, ⟨4, false, []⟩, ⟨5, false, []⟩, ⟨6, false, []⟩, ⟨7, false, []⟩, ⟨8, false, []⟩, ⟨9, false, []⟩, ⟨10, false, []⟩, ⟨11, false, []⟩, ⟨12, false, []⟩, ⟨13, false, []⟩, ⟨14, false, []⟩, ⟨15, false, []⟩, ⟨16, false, []⟩, ⟨17, false, []⟩, ⟨18, false, []⟩, ⟨19, false, []⟩, ⟨20, false, []⟩, ⟨21, false, []⟩, ⟨22, false, []⟩, ⟨23, false, []⟩, ⟨24, false, []⟩, ⟨25, false, []⟩, ⟨26, false, []⟩, ⟨27, false, []⟩, ⟨28, false, []⟩, ⟨29, false, []⟩, ⟨30, false, []⟩, ⟨31, false, []⟩, ⟨32, false, []⟩, ⟨33, false, []⟩, ⟨34, false, []⟩, ⟨35, false, []⟩, ⟨36, false, []⟩, ⟨37, false, []⟩, ⟨38, false, []⟩, ⟨39, false, []⟩, ⟨40, false, []⟩, ⟨41, false, []⟩], [[], [0], [0, 1], [], [3], [0, 1, 2, 3, 4], [0, 1, 2, 3, 4, 5], [0, 1, 2, 3, 4, 5, 6], [0, 1, 2, 3, 4, 5, 6, 7], [0, 1, 2, 3, 4, 5, 6, 7, 8], [0, 1, 2, 3, 4, 5, 6, 7], [0, 1, 2, 3, 4, 5, 6, 7, 10], [0, 1, 2, 3, 4, 5, 6, 7, 8, 9, 10, 11], [0, 1, 2, 3, 4, 5, 6, 7, 8, 9, 10, 11, 12], [0, 1, 2, 3, 4, 5, 6, 7, 8, 9, 10, 11, 12, 13], [0, 1, 2, 3, 4, 5, 6, 7, 8, 9, 10, 11, 12, 13, 14], [0, 1, 2, 3, 4, 5, 6, 7, 8, 9, 10, 11, 12, 13, 14, 15], [0, 1, 2, 3, 4, 5, 6, 7, 8, 9, 10, 11, 12, 13, 14, 15, 16], [0, 1, 2, 3, 4, 5, 6, 7, 8, 9, 10, 11, 12, 13, 14, 15, 16, 17], [0, 1, 2, 3, 4, 5, 6, 7, 8, 9, 10, 11, 12, 13, 14, 15, 16, 17, 18], [0, 1, 2, 3, 4, 5, 6, 7, 8, 9, 10, 11, 12, 13, 14, 15, 16, 17], [0, 1, 2, 3, 4, 5, 6, 7, 8, 9, 10, 11, 12, 13, 14, 15, 16, 17, 20], [0, 1, 2, 3, 4, 5, 6, 7, 8, 9, 10, 11, 12, 13, 14, 15, 16, 17], [0, 1, 2, 3, 4, 5, 6, 7, 8, 9, 10, 11, 12, 13, 14, 15, 16, 17, 22], [0, 1, 2, 3, 4, 5, 6, 7, 8, 9, 10, 11, 12, 13, 14, 15, 16, 17, 20, 21, 22, 23], [0, 1, 2, 3, 4, 5, 6, 7, 8, 9, 10, 11, 12, 13, 14, 15, 16, 17, 20, 21, 22, 23, 24], [0, 1, 2, 3, 4, 5, 6, 7, 8, 9, 10, 11, 12, 13, 14, 15, 16, 17, 20, 21, 22, 23, 24, 25], [0, 1, 2, 3, 4, 5, 6, 7, 8, 9, 10, 11, 12, 13, 14, 15, 16, 17, 18, 19, 20, 21, 22, 23, 24, 25, 26], [0, 1, 2, 3, 4, 5, 6, 7, 8, 9, 10, 11, 12, 13, 14, 15, 16, 17, 18, 19, 20, 21, 22, 23, 24, 25, 26, 27], [0, 1, 2, 3, 4, 5, 6, 7, 8, 9, 10, 11, 12, 13, 14, 15, 16, 17, 18, 19, 20, 21, 22, 23, 24, 25, 26, 27, 28], [0, 1, 2, 3, 4, 5, 6, 7, 8, 9, 10, 11, 12, 13, 14, 15, 16, 17, 18, 19, 20, 21, 22, 23, 24, 25, 26, 27, 28, 29], [0, 1, 2, 3, 4, 5, 6, 7, 8, 9, 10, 11, 12, 13, 14, 15, 16, 17, 18, 19, 20, 21, 22, 23, 24, 25, 26, 27, 28, 29, 30], [0, 1, 2, 3, 4, 5, 6, 7, 8, 9, 10, 11, 12, 13, 14, 15, 16, 17, 18, 19, 20, 21, 22, 23, 24, 25, 26, 27, 28, 29], [0, 1, 2, 3, 4, 5, 6, 7, 8, 9, 10, 11, 12, 13, 14, 15, 16, 17, 18, 19, 20, 21, 22, 23, 24, 25, 26, 27, 28, 29, 32], [0, 1, 2, 3, 4, 5, 6, 7, 8, 9, 10, 11, 12, 13, 14, 15, 16, 17, 18, 19, 20, 21, 22, 23, 24, 25, 26, 27, 28, 29], [0, 1, 2, 3, 4, 5, 6, 7, 8, 9, 10, 11, 12, 13, 14, 15, 16, 17, 18, 19, 20, 21, 22, 23, 24, 25, 26, 27, 28, 29, 34], [0, 1, 2, 3, 4, 5, 6, 7, 8, 9, 10, 11, 12, 13, 14, 15, 16, 17, 18, 19, 20, 21, 22, 23, 24, 25, 26, 27, 28, 29, 32, 33, 34, 35], [0, 1, 2, 3, 4, 5, 6, 7, 8, 9, 10, 11, 12, 13, 14, 15, 16, 17, 18, 19, 20, 21, 22, 23, 24, 25, 26, 27, 28, 29, 32, 33, 34, 35, 36], [0, 1, 2, 3, 4, 5, 6, 7, 8, 9, 10, 11, 12, 13, 14, 15, 16, 17, 18, 19, 20, 21, 22, 23, 24, 25, 26, 27, 28, 29, 32, 33, 34, 35, 36, 37], [0, 1, 2, 3, 4, 5, 6, 7, 8, 9, 10, 11, 12, 13, 14, 15, 16, 17, 18, 19, 20, 21, 22, 23, 24, 25, 26, 27, 28, 29, 30, 31, 32, 33, 34, 35, 36, 37, 38], [0, 1, 2, 3, 4, 5, 6, 7, 8, 9, 10, 11, 12, 13, 14, 15, 16, 17, 18, 19, 20, 21, 22, 23, 24, 25, 26, 27, 28, 29, 30, 31, 32, 33, 34, 35, 36, 37, 38, 39], [0, 1, 2, 3, 4, 5, 6, 7, 8, 9, 10, 11, 12, 13, 14, 15, 16, 17, 18, 19, 20, 21, 22, 23, 24, 25, 26, 27, 28, 29, 30, 31, 32, 33, 34, 35, 36, 37, 38, 39, 40]], [0, 1, 2, 3, 4, 5, 6, 7, 8, 9, 10, 11, 12, 13, 14, 15, 16, 17, 18, 19, 20, 21, 22, 23, 24, 25, 26, 27, 28, 29, 30, 31, 32, 33, 34, 35, 36, 37, 38, 39, 40, 41]⟩
    | _ => ⟨[], [], []⟩
theorem hi124a (i : Nat) : hi124.acts i = [] := rfl
theorem hi124v (i : Nat) : hi124.views i = none := rfl
attribute [go_sem] hi124a hi124v Go.Proofs.Try.ntmps124 Go.Proofs.Try.results124
@[go_sem] theorem hi124d1 : (hi124.draws 1).order = [⟨0, false, []⟩, ⟨1, false, []⟩, ⟨2, false, []⟩, ⟨3, false, []⟩, ⟨4, false, []⟩, ⟨5, false, []⟩, ⟨6, false, []⟩, ⟨7, false, []⟩, ⟨8, false, []⟩, ⟨9, false, []⟩, ⟨10, false, []⟩, ⟨11, false, []⟩, ⟨12, false, []⟩, ⟨13, false, []⟩, ⟨14, false, []⟩, ⟨15, false, []⟩, ⟨16, false, []⟩, ⟨17, false, []⟩, ⟨18, false, []⟩, ⟨19, false, []⟩, ⟨20, false, []⟩, ⟨21, false, []⟩, ⟨22, false, []⟩, ⟨23, false, []⟩, ⟨24, false, []⟩, ⟨25, false, []⟩, ⟨26, false, []⟩, ⟨27, false, []⟩, ⟨28, false, []⟩, ⟨29, false, []⟩, ⟨30, false, []⟩, ⟨31, false, []⟩, ⟨32, false, []⟩, ⟨33, false, []⟩, ⟨34, false, []⟩, ⟨35, false, []⟩, ⟨36, false, []⟩, ⟨37, false, []⟩, ⟨38, false, []⟩, ⟨39, false, []⟩, ⟨40, false, []⟩, ⟨41, false, []⟩] := rfl
theorem c_impl_TakesOk_c1 {t : GTake} {s : GShow} {res : Bool} (h : m_impl_TakesOk_c1 t s = some res) : CallOk Go.Proofs.Try.prog 124 [.agg [.lit (.int .i64 t.tie), .lit (.int .i64 t.length)], .loc [.sl (rowsOf GNode.encS s.nodes), .sl (rowsOf GTie.enc s.ties), .lit (.int .i64 s.horizon)]] [] (.lit (.bool res)) [] := by
  refine callOk_of (ra := []) (md := mdT) hT (hi := hi124) Go.Proofs.Try.func124 rfl rfl (by decide +kernel) (by simp) ?_
  unfold m_impl_TakesOk_c1 at h
  obtain ⟨r1001, g1, h⟩ := obnd_some h
  simp -implicitDefEqProofs -dsimp only [go_sem, ↓reduceIte, ↓dreduceIte, reduceCtorEq, Nat.reduceMul, Nat.reduceAdd, Nat.reduceSub, Nat.reduceDiv, Nat.reduceLT, Nat.reduceLeDiff, Nat.reduceEqDiff, Nat.reduceBEq, Int.reduceNeg, Int.reduceLT, Int.reduceLE, Int.reduceEq, Int.reduceToNat]
  refine callW_of (c_impl_isNode g1) ?_
  rcases ite_some h with ⟨h2, h⟩ | ⟨h2, h⟩
  · obtain ⟨x1002, g3, h⟩ := obnd_some h
    obtain ⟨h4, h5, h6⟩ := getI_some g3
    rcases ite_some h with ⟨h7, h⟩ | ⟨h7, h⟩
    · rcases ite_some h with ⟨h8, h⟩ | ⟨h8, h⟩
      · cases h
        simp -implicitDefEqProofs -dsimp only [go_sem, ↓reduceIte, ↓dreduceIte, reduceCtorEq, Nat.reduceMul, Nat.reduceAdd, Nat.reduceSub, Nat.reduceDiv, Nat.reduceLT, Nat.reduceLeDiff, Nat.reduceEqDiff, Nat.reduceBEq, Int.reduceNeg, Int.reduceLT, Int.reduceLE, Int.reduceEq, Int.reduceToNat, (eq_true h2), (condZ_t h2), h4, h5, h6, (eq_true h7), (condZ_t h7), (eq_true h8)]
      · cases h
        simp -implicitDefEqProofs -dsimp only [go_sem, ↓reduceIte, ↓dreduceIte, reduceCtorEq, Nat.reduceMul, Nat.reduceAdd, Nat.reduceSub, Nat.reduceDiv, Nat.reduceLT, Nat.reduceLeDiff, Nat.reduceEqDiff, Nat.reduceBEq, Int.reduceNeg, Int.reduceLT, Int.reduceLE, Int.reduceEq, Int.reduceToNat, (eq_true h2), (condZ_t h2), h4, h5, h6, (eq_true h7), (condZ_t h7), (eq_false h8)]
    · cases h
      simp -implicitDefEqProofs -dsimp only [go_sem, ↓reduceIte, ↓dreduceIte, reduceCtorEq, Nat.reduceMul, Nat.reduceAdd, Nat.reduceSub, Nat.reduceDiv, Nat.reduceLT, Nat.reduceLeDiff, Nat.reduceEqDiff, Nat.reduceBEq, Int.reduceNeg, Int.reduceLT, Int.reduceLE, Int.reduceEq, Int.reduceToNat, (eq_true h2), (condZ_t h2), h4, h5, h6, (eq_false h7), (condZ_f h7)]
  · cases h
    simp -implicitDefEqProofs -dsimp only [go_sem, ↓reduceIte, ↓dreduceIte, reduceCtorEq, Nat.reduceMul, Nat.reduceAdd, Nat.reduceSub, Nat.reduceDiv, Nat.reduceLT, Nat.reduceLeDiff, Nat.reduceEqDiff, Nat.reduceBEq, Int.reduceNeg, Int.reduceLT, Int.reduceLE, Int.reduceEq, Int.reduceToNat, (eq_false h2), (condZ_f h2)]
/- 48 loop.example/g00827/impl.TakesOk -/
def hi48 : Hint where
  acts := fun _ => []
  draws := fun
    | _ => ⟨[], [], []⟩
theorem hi48a (i : Nat) : hi48.acts i = [] := rfl
theorem hi48v (i : Nat) : hi48.views i = none := rfl
attribute [go_sem] hi48a hi48v Go.Proofs.Try.ntmps48 Go.Proofs.Try.results48
theorem c_impl_TakesOk {s : GShow} {list : List GTake} {res : Bool} (h : m_impl_TakesOk s list = some res) : CallOk Go.Proofs.Try.prog 48 [.agg [.sl (rowsOf GNode.encS s.nodes), .sl (rowsOf GTie.enc s.ties), .lit (.int .i64 s.horizon)], .sl (rowsOf GTake.enc list)] [] (.lit (.bool res)) [] := by
  refine callOk_of (ra := []) (md := mdT) hT (hi := hi48) Go.Proofs.Try.func48 rfl rfl (by decide +kernel) (by simp) ?_
  unfold m_impl_TakesOk at h
  obtain ⟨r1001, g1, h⟩ := obnd_some h
  simp -implicitDefEqProofs -dsimp only [go_sem, ↓reduceIte, ↓dreduceIte, reduceCtorEq, Nat.reduceMul, Nat.reduceAdd, Nat.reduceSub, Nat.reduceDiv, Nat.reduceLT, Nat.reduceLeDiff, Nat.reduceEqDiff, Nat.reduceBEq, Int.reduceNeg, Int.reduceLT, Int.reduceLE, Int.reduceEq, Int.reduceToNat]
  refine callW_of (c_impl_ShowOk g1) ?_
  rcases ite_some h with ⟨h2, h⟩ | ⟨h2, h⟩
  · rcases ite_some h with ⟨h3, h⟩ | ⟨h3, h⟩
    · cases h
      simp -implicitDefEqProofs -dsimp only [go_sem, ↓reduceIte, ↓dreduceIte, reduceCtorEq, Nat.reduceMul, Nat.reduceAdd, Nat.reduceSub, Nat.reduceDiv, Nat.reduceLT, Nat.reduceLeDiff, Nat.reduceEqDiff, Nat.reduceBEq, Int.reduceNeg, Int.reduceLT, Int.reduceLE, Int.reduceEq, Int.reduceToNat, (eq_true h2), (condZ_t h2), (eq_true h3)]
    · obtain ⟨r1002, g4, h⟩ := obnd_some h
      simp -implicitDefEqProofs -dsimp only [go_sem, ↓reduceIte, ↓dreduceIte, reduceCtorEq, Nat.reduceMul, Nat.reduceAdd, Nat.reduceSub, Nat.reduceDiv, Nat.reduceLT, Nat.reduceLeDiff, Nat.reduceEqDiff, Nat.reduceBEq, Int.reduceNeg, Int.reduceLT, Int.reduceLE, Int.reduceEq, Int.reduceToNat, (eq_true h2), (condZ_t h2), (eq_false h3)]
      refine callW_of (c_slices_ContainsFunc_Take (by exact fun _ _ hr => c_impl_TakesOk_c1 hr) (by refine ⟨fun _ => ?_, fun _ => ?_⟩ <;> simp only [go_sem]) (by rfl) g4) ?_
      cases h
      simp -implicitDefEqProofs -dsimp only [go_sem, ↓reduceIte, ↓dreduceIte, reduceCtorEq, Nat.reduceMul, Nat.reduceAdd, Nat.reduceSub, Nat.reduceDiv, Nat.reduceLT, Nat.reduceLeDiff, Nat.reduceEqDiff, Nat.reduceBEq, Int.reduceNeg, Int.reduceLT, Int.reduceLE, Int.reduceEq, Int.reduceToNat, (eq_true h2), (condZ_t h2), (eq_false h3)]
  · cases h
    simp -implicitDefEqProofs -dsimp only [go_sem, ↓reduceIte, ↓dreduceIte, reduceCtorEq, Nat.reduceMul, Nat.reduceAdd, Nat.reduceSub, Nat.reduceDiv, Nat.reduceLT, Nat.reduceLeDiff, Nat.reduceEqDiff, Nat.reduceBEq, Int.reduceNeg, Int.reduceLT, Int.reduceLE, Int.reduceEq, Int.reduceToNat, (eq_false h2), (condZ_f h2)]
/- 127 slices.Min[[]int,int] -/
def m_slices_Min_int_L1_St (v0 : List Int) : (Int × Int) → St
  | (v3, v4) => ⟨[(0, .sl (rowsOf eI v0)), (3, .lit (.int .i64 v3)), (4, .lit (.int .i64 v4))], [], 2⟩
attribute [go_sem] m_slices_Min_int_L1_St
def hi127 : Hint where
  acts := fun _ => []
  draws := fun
    | _ => ⟨[], [], []⟩
theorem hi127a (i : Nat) : hi127.acts i = [] := rfl
theorem hi127v (i : Nat) : hi127.views i = none := rfl
attribute [go_sem] hi127a hi127v Go.Proofs.Try.ntmps127 Go.Proofs.Try.results127
theorem c_slices_Min_int {v0 : List Int} {res : Int} (h : m_slices_Min_int v0 = some res) : CallOk Go.Proofs.Try.prog 127 [.sl (rowsOf eI v0)] [] (.lit (.int .i64 res)) [] := by
  refine callOk_of (ra := []) (md := mdT) hT (hi := hi127) Go.Proofs.Try.func127 rfl rfl (by decide +kernel) (by simp) ?_
  unfold m_slices_Min_int at h
  rcases ite_some h with ⟨h1, h⟩ | ⟨h1, h⟩
  · cases h
  · obtain ⟨x1001, g2, h⟩ := obnd_some h
    obtain ⟨h4, h5⟩ := getI_nat (k := 0) g2
    obtain ⟨q1003, l6, h⟩ := obnd_some h
    simp -implicitDefEqProofs -dsimp only [go_sem, ↓reduceIte, ↓dreduceIte, reduceCtorEq, Nat.reduceMul, Nat.reduceAdd, Nat.reduceSub, Nat.reduceDiv, Nat.reduceLT, Nat.reduceLeDiff, Nat.reduceEqDiff, Nat.reduceBEq, Int.reduceNeg, Int.reduceLT, Int.reduceLE, Int.reduceEq, Int.reduceToNat, (eq_false h1), h4, h5]
    refine loopW_loopO (m1 := .mk) (m2 := .mk) [.nf [0, 3, 4] []] (m_slices_Min_int_L1_St v0) l6 ?_ ?_
    · simp -implicitDefEqProofs -dsimp only [go_sem, ↓reduceIte, ↓dreduceIte, reduceCtorEq, Nat.reduceMul, Nat.reduceAdd, Nat.reduceSub, Nat.reduceDiv, Nat.reduceLT, Nat.reduceLeDiff, Nat.reduceEqDiff, Nat.reduceBEq, Int.reduceNeg, Int.reduceLT, Int.reduceLE, Int.reduceEq, Int.reduceToNat, (eq_false h1), h4, h5]
    · intro nb7 sb7 bb7 b7 gb7
      obtain ⟨v3_1, v4_1⟩ := sb7
      unfold m_slices_Min_int_L1 at b7
      try dsimp only at b7
      rcases ite_some b7 with ⟨h8, b7⟩ | ⟨h8, b7⟩
      · obtain ⟨x1002, g9, b7⟩ := obnd_some b7
        obtain ⟨h10, h11, h12⟩ := getI_some g9
        cases b7
        simp -implicitDefEqProofs -dsimp only [go_sem, ↓reduceIte, ↓dreduceIte, reduceCtorEq, Nat.reduceMul, Nat.reduceAdd, Nat.reduceSub, Nat.reduceDiv, Nat.reduceLT, Nat.reduceLeDiff, Nat.reduceEqDiff, Nat.reduceBEq, Int.reduceNeg, Int.reduceLT, Int.reduceLE, Int.reduceEq, Int.reduceToNat, (eq_false h1), h4, h5, (eq_true h8), h10, h11, h12]
        refine next_of gb7 ?_
        simp -implicitDefEqProofs -dsimp only [go_sem, ↓reduceIte, ↓dreduceIte, reduceCtorEq, Nat.reduceMul, Nat.reduceAdd, Nat.reduceSub, Nat.reduceDiv, Nat.reduceLT, Nat.reduceLeDiff, Nat.reduceEqDiff, Nat.reduceBEq, Int.reduceNeg, Int.reduceLT, Int.reduceLE, Int.reduceEq, Int.reduceToNat, (eq_false h1), h4, h5, (eq_true h8), h10, h11, h12]
      · cases b7
        have e13 := done_of gb7
        subst e13
        try dsimp only at h
        cases h
        simp -implicitDefEqProofs -dsimp only [go_sem, ↓reduceIte, ↓dreduceIte, reduceCtorEq, Nat.reduceMul, Nat.reduceAdd, Nat.reduceSub, Nat.reduceDiv, Nat.reduceLT, Nat.reduceLeDiff, Nat.reduceEqDiff, Nat.reduceBEq, Int.reduceNeg, Int.reduceLT, Int.reduceLE, Int.reduceEq, Int.reduceToNat, (eq_false h1), h4, h5, (eq_false h8)]
/- 128 slices.Max[[]int,int] -/
def m_slices_Max_int_L1_St (v0 : List Int) : (Int × Int) → St
  | (v3, v4) => ⟨[(0, .sl (rowsOf eI v0)), (3, .lit (.int .i64 v3)), (4, .lit (.int .i64 v4))], [], 2⟩
attribute [go_sem] m_slices_Max_int_L1_St
def hi128 : Hint where
  acts := fun _ => []
  draws := fun
    | _ => ⟨[], [], []⟩
theorem hi128a (i : Nat) : hi128.acts i = [] := rfl
theorem hi128v (i : Nat) : hi128.views i = none := rfl
attribute [go_sem] hi128a hi128v Go.Proofs.Try.ntmps128 Go.Proofs.Try.results128
theorem c_slices_Max_int {v0 : List Int} {res : Int} (h : m_slices_Max_int v0 = some res) : CallOk Go.Proofs.Try.prog 128 [.sl (rowsOf eI v0)] [] (.lit (.int .i64 res)) [] := by
  refine callOk_of (ra := []) (md := mdT) hT (hi := hi128) Go.Proofs.Try.func128 rfl rfl (by decide +kernel) (by simp) ?_
  unfold m_slices_Max_int at h
  rcases ite_some h with ⟨h1, h⟩ | ⟨h1, h⟩
  · cases h
  · obtain ⟨x1001, g2, h⟩ := obnd_some h
    obtain ⟨h4, h5⟩ := getI_nat (k := 0) g2
    obtain ⟨q1003, l6, h⟩ := obnd_some h
    simp -implicitDefEqProofs -dsimp only [go_sem, ↓reduceIte, ↓dreduceIte, reduceCtorEq, Nat.reduceMul, Nat.reduceAdd, Nat.reduceSub, Nat.reduceDiv, Nat.reduceLT, Nat.reduceLeDiff, Nat.reduceEqDiff, Nat.reduceBEq, Int.reduceNeg, Int.reduceLT, Int.reduceLE, Int.reduceEq, Int.reduceToNat, (eq_false h1), h4, h5]
    refine loopW_loopO (m1 := .mk) (m2 := .mk) [.nf [0, 3, 4] []] (m_slices_Max_int_L1_St v0) l6 ?_ ?_
    · simp -implicitDefEqProofs -dsimp only [go_sem, ↓reduceIte, ↓dreduceIte, reduceCtorEq, Nat.reduceMul, Nat.reduceAdd, Nat.reduceSub, Nat.reduceDiv, Nat.reduceLT, Nat.reduceLeDiff, Nat.reduceEqDiff, Nat.reduceBEq, Int.reduceNeg, Int.reduceLT, Int.reduceLE, Int.reduceEq, Int.reduceToNat, (eq_false h1), h4, h5]
    · intro nb7 sb7 bb7 b7 gb7
      obtain ⟨v3_1, v4_1⟩ := sb7
      unfold m_slices_Max_int_L1 at b7
      try dsimp only at b7
      rcases ite_some b7 with ⟨h8, b7⟩ | ⟨h8, b7⟩
      · obtain ⟨x1002, g9, b7⟩ := obnd_some b7
        obtain ⟨h10, h11, h12⟩ := getI_some g9
        cases b7
        simp -implicitDefEqProofs -dsimp only [go_sem, ↓reduceIte, ↓dreduceIte, reduceCtorEq, Nat.reduceMul, Nat.reduceAdd, Nat.reduceSub, Nat.reduceDiv, Nat.reduceLT, Nat.reduceLeDiff, Nat.reduceEqDiff, Nat.reduceBEq, Int.reduceNeg, Int.reduceLT, Int.reduceLE, Int.reduceEq, Int.reduceToNat, (eq_false h1), h4, h5, (eq_true h8), h10, h11, h12]
        refine next_of gb7 ?_
        simp -implicitDefEqProofs -dsimp only [go_sem, ↓reduceIte, ↓dreduceIte, reduceCtorEq, Nat.reduceMul, Nat.reduceAdd, Nat.reduceSub, Nat.reduceDiv, Nat.reduceLT, Nat.reduceLeDiff, Nat.reduceEqDiff, Nat.reduceBEq, Int.reduceNeg, Int.reduceLT, Int.reduceLE, Int.reduceEq, Int.reduceToNat, (eq_false h1), h4, h5, (eq_true h8), h10, h11, h12]
      · cases b7
        have e13 := done_of gb7
        subst e13
        try dsimp only at h
        cases h
        simp -implicitDefEqProofs -dsimp only [go_sem, ↓reduceIte, ↓dreduceIte, reduceCtorEq, Nat.reduceMul, Nat.reduceAdd, Nat.reduceSub, Nat.reduceDiv, Nat.reduceLT, Nat.reduceLeDiff, Nat.reduceEqDiff, Nat.reduceBEq, Int.reduceNeg, Int.reduceLT, Int.reduceLE, Int.reduceEq, Int.reduceToNat, (eq_false h1), h4, h5, (eq_false h8)]
/- 54 loop.example/g00827/impl.ObservedRange -/
def m_impl_ObservedRange_L1_St (tie : Int) (v16 : List GTake) (v17 : Int) : (Int × (List Int)) → St
  | (v18, lengths) => ⟨[(2, .lit (.int .i64 tie)), (6, .ptr 384 1 0 0), (8, .ref 575 1 0 lengths.length), (16, .sl (rowsOf GTake.enc v16)), (17, .lit (.int .i64 v17)), (18, .lit (.int .i64 v18))], [(384, 1, .var [.lit (.int .i64 0), .lit (.int .i64 0)]), (575, 1, .row true (rowsOf eI lengths))], 2⟩
attribute [go_sem] m_impl_ObservedRange_L1_St
def hi54 : Hint where
  acts := fun _ => []
  draws := fun
    | _ => ⟨[], [], []⟩
theorem hi54a (i : Nat) : hi54.acts i = [] := rfl
theorem hi54v (i : Nat) : hi54.views i = none := rfl
attribute [go_sem] hi54a hi54v Go.Proofs.Try.ntmps54 Go.Proofs.Try.results54
theorem c_impl_ObservedRange {s : GShow} {list : List GTake} {tie : Int} {res : GInterval × Bool} (h : m_impl_ObservedRange s list tie = some res) : CallOk Go.Proofs.Try.prog 54 [.agg [.sl (rowsOf GNode.encS s.nodes), .sl (rowsOf GTie.enc s.ties), .lit (.int .i64 s.horizon)], .sl (rowsOf GTake.enc list), .lit (.int .i64 tie)] [] (.tup [.agg [.lit (.int .i64 res.1.low), .lit (.int .i64 res.1.high)], .lit (.bool res.2)]) [] := by
  refine callOk_of (ra := []) (md := mdT) hT (hi := hi54) Go.Proofs.Try.func54 rfl rfl (by decide +kernel) (by simp) ?_
  unfold m_impl_ObservedRange at h
  obtain ⟨r1001, g1, h⟩ := obnd_some h
  simp -implicitDefEqProofs -dsimp only [go_sem, ↓reduceIte, ↓dreduceIte, reduceCtorEq, Nat.reduceMul, Nat.reduceAdd, Nat.reduceSub, Nat.reduceDiv, Nat.reduceLT, Nat.reduceLeDiff, Nat.reduceEqDiff, Nat.reduceBEq, Int.reduceNeg, Int.reduceLT, Int.reduceLE, Int.reduceEq, Int.reduceToNat]
  refine callW_of (c_impl_TakesOk g1) ?_
  rcases ite_some h with ⟨h2, h⟩ | ⟨h2, h⟩
  · obtain ⟨q1005, l3, h⟩ := obnd_some h
    simp -implicitDefEqProofs -dsimp only [go_sem, ↓reduceIte, ↓dreduceIte, reduceCtorEq, Nat.reduceMul, Nat.reduceAdd, Nat.reduceSub, Nat.reduceDiv, Nat.reduceLT, Nat.reduceLeDiff, Nat.reduceEqDiff, Nat.reduceBEq, Int.reduceNeg, Int.reduceLT, Int.reduceLE, Int.reduceEq, Int.reduceToNat, (eq_true h2), (condZ_t h2)]
    refine loopW_loopO (m1 := .mk) (m2 := .mk) [.home 8, .nf [2, 6, 8, 16, 17, 18] [384, 575]] (m_impl_ObservedRange_L1_St tie list ((list.length : Nat) : Int)) l3 ?_ ?_
    · simp -implicitDefEqProofs -dsimp only [go_sem, ↓reduceIte, ↓dreduceIte, reduceCtorEq, Nat.reduceMul, Nat.reduceAdd, Nat.reduceSub, Nat.reduceDiv, Nat.reduceLT, Nat.reduceLeDiff, Nat.reduceEqDiff, Nat.reduceBEq, Int.reduceNeg, Int.reduceLT, Int.reduceLE, Int.reduceEq, Int.reduceToNat, (eq_true h2), (condZ_t h2)]
    · intro nb4 sb4 bb4 b4 gb4
      obtain ⟨v18_1, lengths_1⟩ := sb4
      unfold m_impl_ObservedRange_L1 at b4
      try dsimp only at b4
      rcases ite_some b4 with ⟨h5, b4⟩ | ⟨h5, b4⟩
      · obtain ⟨x1002, g6, b4⟩ := obnd_some b4
        obtain ⟨h7, h8, h9⟩ := getI_some g6
        rcases ite_some b4 with ⟨h10, b4⟩ | ⟨h10, b4⟩
        · obtain ⟨h11, b4⟩ := chk_some b4
          obtain ⟨h12, b4⟩ := chk_some b4
          cases b4
          simp -implicitDefEqProofs -dsimp only [go_sem, ↓reduceIte, ↓dreduceIte, reduceCtorEq, Nat.reduceMul, Nat.reduceAdd, Nat.reduceSub, Nat.reduceDiv, Nat.reduceLT, Nat.reduceLeDiff, Nat.reduceEqDiff, Nat.reduceBEq, Int.reduceNeg, Int.reduceLT, Int.reduceLE, Int.reduceEq, Int.reduceToNat, (eq_true h2), (condZ_t h2), (eq_true h5), h7, h8, h9, (eq_true h10), (eq_true h11), (eq_true h12)]
          refine next_of gb4 ?_
          simp -implicitDefEqProofs -dsimp only [go_sem, ↓reduceIte, ↓dreduceIte, reduceCtorEq, Nat.reduceMul, Nat.reduceAdd, Nat.reduceSub, Nat.reduceDiv, Nat.reduceLT, Nat.reduceLeDiff, Nat.reduceEqDiff, Nat.reduceBEq, Int.reduceNeg, Int.reduceLT, Int.reduceLE, Int.reduceEq, Int.reduceToNat, (eq_true h2), (condZ_t h2), (eq_true h5), h7, h8, h9, (eq_true h10), (eq_true h11), (eq_true h12)]
        · cases b4
          simp -implicitDefEqProofs -dsimp only [go_sem, ↓reduceIte, ↓dreduceIte, reduceCtorEq, Nat.reduceMul, Nat.reduceAdd, Nat.reduceSub, Nat.reduceDiv, Nat.reduceLT, Nat.reduceLeDiff, Nat.reduceEqDiff, Nat.reduceBEq, Int.reduceNeg, Int.reduceLT, Int.reduceLE, Int.reduceEq, Int.reduceToNat, (eq_true h2), (condZ_t h2), (eq_true h5), h7, h8, h9, (eq_false h10)]
          refine next_of gb4 ?_
          simp -implicitDefEqProofs -dsimp only [go_sem, ↓reduceIte, ↓dreduceIte, reduceCtorEq, Nat.reduceMul, Nat.reduceAdd, Nat.reduceSub, Nat.reduceDiv, Nat.reduceLT, Nat.reduceLeDiff, Nat.reduceEqDiff, Nat.reduceBEq, Int.reduceNeg, Int.reduceLT, Int.reduceLE, Int.reduceEq, Int.reduceToNat, (eq_true h2), (condZ_t h2), (eq_true h5), h7, h8, h9, (eq_false h10)]
      · cases b4
        have e13 := done_of gb4
        subst e13
        try dsimp only at h
        rcases ite_some h with ⟨h14, h⟩ | ⟨h14, h⟩
        · cases h
          simp -implicitDefEqProofs -dsimp only [go_sem, ↓reduceIte, ↓dreduceIte, reduceCtorEq, Nat.reduceMul, Nat.reduceAdd, Nat.reduceSub, Nat.reduceDiv, Nat.reduceLT, Nat.reduceLeDiff, Nat.reduceEqDiff, Nat.reduceBEq, Int.reduceNeg, Int.reduceLT, Int.reduceLE, Int.reduceEq, Int.reduceToNat, (eq_true h2), (condZ_t h2), (eq_false h5), (eq_true h14)]
        · obtain ⟨r1003, g15, h⟩ := obnd_some h
          simp -implicitDefEqProofs -dsimp only [go_sem, ↓reduceIte, ↓dreduceIte, reduceCtorEq, Nat.reduceMul, Nat.reduceAdd, Nat.reduceSub, Nat.reduceDiv, Nat.reduceLT, Nat.reduceLeDiff, Nat.reduceEqDiff, Nat.reduceBEq, Int.reduceNeg, Int.reduceLT, Int.reduceLE, Int.reduceEq, Int.reduceToNat, (eq_true h2), (condZ_t h2), (eq_false h5), (eq_false h14)]
          refine callW_of (c_slices_Min_int g15) ?_
          obtain ⟨r1004, g16, h⟩ := obnd_some h
          simp -implicitDefEqProofs -dsimp only [go_sem, ↓reduceIte, ↓dreduceIte, reduceCtorEq, Nat.reduceMul, Nat.reduceAdd, Nat.reduceSub, Nat.reduceDiv, Nat.reduceLT, Nat.reduceLeDiff, Nat.reduceEqDiff, Nat.reduceBEq, Int.reduceNeg, Int.reduceLT, Int.reduceLE, Int.reduceEq, Int.reduceToNat, (eq_true h2), (condZ_t h2), (eq_false h5), (eq_false h14)]
          refine callW_of (c_slices_Max_int g16) ?_
          cases h
          simp -implicitDefEqProofs -dsimp only [go_sem, ↓reduceIte, ↓dreduceIte, reduceCtorEq, Nat.reduceMul, Nat.reduceAdd, Nat.reduceSub, Nat.reduceDiv, Nat.reduceLT, Nat.reduceLeDiff, Nat.reduceEqDiff, Nat.reduceBEq, Int.reduceNeg, Int.reduceLT, Int.reduceLE, Int.reduceEq, Int.reduceToNat, (eq_true h2), (condZ_t h2), (eq_false h5), (eq_false h14)]
  · cases h
    simp -implicitDefEqProofs -dsimp only [go_sem, ↓reduceIte, ↓dreduceIte, reduceCtorEq, Nat.reduceMul, Nat.reduceAdd, Nat.reduceSub, Nat.reduceDiv, Nat.reduceLT, Nat.reduceLeDiff, Nat.reduceEqDiff, Nat.reduceBEq, Int.reduceNeg, Int.reduceLT, Int.reduceLE, Int.reduceEq, Int.reduceToNat, (eq_false h2), (condZ_f h2)]
/- 55 loop.example/g00827/laws.eqInterval -/
def hi55 : Hint where
  acts := fun _ => []
  draws := fun
    | _ => ⟨[], [], []⟩
theorem hi55a (i : Nat) : hi55.acts i = [] := rfl
theorem hi55v (i : Nat) : hi55.views i = none := rfl
attribute [go_sem] hi55a hi55v Go.Proofs.Try.ntmps55 Go.Proofs.Try.results55
theorem c_laws_eqInterval {a : GInterval} {b : GInterval} {res : Bool} (h : m_laws_eqInterval a b = some res) : CallOk Go.Proofs.Try.prog 55 [.agg [.lit (.int .i64 a.low), .lit (.int .i64 a.high)], .agg [.lit (.int .i64 b.low), .lit (.int .i64 b.high)]] [] (.lit (.bool res)) [] := by
  refine callOk_of (ra := []) (md := mdT) hT (hi := hi55) Go.Proofs.Try.func55 rfl rfl (by decide +kernel) (by simp) ?_
  unfold m_laws_eqInterval at h
  rcases ite_some h with ⟨h1, h⟩ | ⟨h1, h⟩
  · rcases ite_some h with ⟨h2, h⟩ | ⟨h2, h⟩
    · cases h
      simp -implicitDefEqProofs -dsimp only [go_sem, ↓reduceIte, ↓dreduceIte, reduceCtorEq, Nat.reduceMul, Nat.reduceAdd, Nat.reduceSub, Nat.reduceDiv, Nat.reduceLT, Nat.reduceLeDiff, Nat.reduceEqDiff, Nat.reduceBEq, Int.reduceNeg, Int.reduceLT, Int.reduceLE, Int.reduceEq, Int.reduceToNat, (eq_true h1), (eq_true h2)]
    · cases h
      simp -implicitDefEqProofs -dsimp only [go_sem, ↓reduceIte, ↓dreduceIte, reduceCtorEq, Nat.reduceMul, Nat.reduceAdd, Nat.reduceSub, Nat.reduceDiv, Nat.reduceLT, Nat.reduceLeDiff, Nat.reduceEqDiff, Nat.reduceBEq, Int.reduceNeg, Int.reduceLT, Int.reduceLE, Int.reduceEq, Int.reduceToNat, (eq_true h1), (eq_false h2)]
  · cases h
    simp -implicitDefEqProofs -dsimp only [go_sem, ↓reduceIte, ↓dreduceIte, reduceCtorEq, Nat.reduceMul, Nat.reduceAdd, Nat.reduceSub, Nat.reduceDiv, Nat.reduceLT, Nat.reduceLeDiff, Nat.reduceEqDiff, Nat.reduceBEq, Int.reduceNeg, Int.reduceLT, Int.reduceLE, Int.reduceEq, Int.reduceToNat, (eq_false h1)]
/- 125 loop.example/g00827/laws.eqTake -/
def hi125 : Hint where
  acts := fun _ => []
  draws := fun
    | _ => ⟨[], [], []⟩
theorem hi125a (i : Nat) : hi125.acts i = [] := rfl
theorem hi125v (i : Nat) : hi125.views i = none := rfl
attribute [go_sem] hi125a hi125v Go.Proofs.Try.ntmps125 Go.Proofs.Try.results125
theorem c_laws_eqTake {a : GTake} {b : GTake} {res : Bool} (h : m_laws_eqTake a b = some res) : CallOk Go.Proofs.Try.prog 125 [.agg [.lit (.int .i64 a.tie), .lit (.int .i64 a.length)], .agg [.lit (.int .i64 b.tie), .lit (.int .i64 b.length)]] [] (.lit (.bool res)) [] := by
  refine callOk_of (ra := []) (md := mdT) hT (hi := hi125) Go.Proofs.Try.func125 rfl rfl (by decide +kernel) (by simp) ?_
  unfold m_laws_eqTake at h
  rcases ite_some h with ⟨h1, h⟩ | ⟨h1, h⟩
  · rcases ite_some h with ⟨h2, h⟩ | ⟨h2, h⟩
    · cases h
      simp -implicitDefEqProofs -dsimp only [go_sem, ↓reduceIte, ↓dreduceIte, reduceCtorEq, Nat.reduceMul, Nat.reduceAdd, Nat.reduceSub, Nat.reduceDiv, Nat.reduceLT, Nat.reduceLeDiff, Nat.reduceEqDiff, Nat.reduceBEq, Int.reduceNeg, Int.reduceLT, Int.reduceLE, Int.reduceEq, Int.reduceToNat, (eq_true h1), (eq_true h2)]
    · cases h
      simp -implicitDefEqProofs -dsimp only [go_sem, ↓reduceIte, ↓dreduceIte, reduceCtorEq, Nat.reduceMul, Nat.reduceAdd, Nat.reduceSub, Nat.reduceDiv, Nat.reduceLT, Nat.reduceLeDiff, Nat.reduceEqDiff, Nat.reduceBEq, Int.reduceNeg, Int.reduceLT, Int.reduceLE, Int.reduceEq, Int.reduceToNat, (eq_true h1), (eq_false h2)]
  · cases h
    simp -implicitDefEqProofs -dsimp only [go_sem, ↓reduceIte, ↓dreduceIte, reduceCtorEq, Nat.reduceMul, Nat.reduceAdd, Nat.reduceSub, Nat.reduceDiv, Nat.reduceLT, Nat.reduceLeDiff, Nat.reduceEqDiff, Nat.reduceBEq, Int.reduceNeg, Int.reduceLT, Int.reduceLE, Int.reduceEq, Int.reduceToNat, (eq_false h1)]
/- 49 loop.example/g00827/laws.eqTakeS -/
def m_laws_eqTakeS_L1_St (a : List GTake) (b : List GTake) (i : Int) : St := ⟨[(0, .sl (rowsOf GTake.enc a)), (1, .sl (rowsOf GTake.enc b)), (5, .lit (.int .i64 i))], [], 2⟩
attribute [go_sem] m_laws_eqTakeS_L1_St
def hi49 : Hint where
  acts := fun _ => []
  draws := fun
    | 6 => ⟨[⟨0, false, []⟩, ⟨1, false, []⟩, ⟨2, false, []⟩, ⟨3, false, []⟩, ⟨4, false, []⟩, ⟨5, false, []⟩, ⟨6, false, []⟩, ⟨7, false, []⟩, ⟨8, false, []⟩, ⟨9, false, []⟩], [[], [], [0, 1], [0, 1, 2], [], [], [4, 5], [4, 5, 6], [0, 1, 2, 3, 4, 5, 6, 7], [0, 1, 2, 3, 4, 5, 6, 7, 8]], [0, 1, 2, 3, 4, 5, 6, 7, 8, 9]⟩
    | _ => ⟨[], [], []⟩
theorem hi49a (i : Nat) : hi49.acts i = [] := rfl
theorem hi49v (i : Nat) : hi49.views i = none := rfl
attribute [go_sem] hi49a hi49v Go.Proofs.Try.ntmps49 Go.Proofs.Try.results49
@[go_sem] theorem hi49d6 : (hi49.draws 6).order = [⟨0, false, []⟩, ⟨1, false, []⟩, ⟨2, false, []⟩, ⟨3, false, []⟩, ⟨4, false, []⟩, ⟨5, false, []⟩, ⟨6, false, []⟩, ⟨7, false, []⟩, ⟨8, false, []⟩, ⟨9, false, []⟩] := rfl
theorem c_laws_eqTakeS {a : List GTake} {b : List GTake} {res : Bool} (h : m_laws_eqTakeS a b = some res) : CallOk Go.Proofs.Try.prog 49 [.sl (rowsOf GTake.enc a), .sl (rowsOf GTake.enc b)] [] (.lit (.bool res)) [] := by
  refine callOk_of (ra := []) (md := mdT) hT (hi := hi49) Go.Proofs.Try.func49 rfl rfl (by decide +kernel) (by simp) ?_
  unfold m_laws_eqTakeS at h
  rcases ite_some h with ⟨h1, h⟩ | ⟨h1, h⟩
  · obtain ⟨q1004, l2, h⟩ := obnd_some h
    simp -implicitDefEqProofs -dsimp only [go_sem, ↓reduceIte, ↓dreduceIte, reduceCtorEq, Nat.reduceMul, Nat.reduceAdd, Nat.reduceSub, Nat.reduceDiv, Nat.reduceLT, Nat.reduceLeDiff, Nat.reduceEqDiff, Nat.reduceBEq, Int.reduceNeg, Int.reduceLT, Int.reduceLE, Int.reduceEq, Int.reduceToNat, (eq_true h1)]
    refine loopW_loopO (m1 := .mk) (m2 := .mk) [.nf [0, 1, 5] []] (m_laws_eqTakeS_L1_St a b) l2 ?_ ?_
    · simp -implicitDefEqProofs -dsimp only [go_sem, ↓reduceIte, ↓dreduceIte, reduceCtorEq, Nat.reduceMul, Nat.reduceAdd, Nat.reduceSub, Nat.reduceDiv, Nat.reduceLT, Nat.reduceLeDiff, Nat.reduceEqDiff, Nat.reduceBEq, Int.reduceNeg, Int.reduceLT, Int.reduceLE, Int.reduceEq, Int.reduceToNat, (eq_true h1)]
    · intro nb3 sb3 bb3 b3 gb3
      obtain ⟨i_1, eb3⟩ : ∃ v, v = sb3 := ⟨_, rfl⟩; subst eb3
      unfold m_laws_eqTakeS_L1 at b3
      try dsimp only at b3
      rcases ite_some b3 with ⟨h4, b3⟩ | ⟨h4, b3⟩
      · obtain ⟨x1001, g5, b3⟩ := obnd_some b3
        obtain ⟨h6, h7, h8⟩ := getI_some g5
        obtain ⟨x1002, g9, b3⟩ := obnd_some b3
        obtain ⟨h10, h11, h12⟩ := getI_some g9
        obtain ⟨r1003, g13, b3⟩ := obnd_some b3
        simp -implicitDefEqProofs -dsimp only [go_sem, ↓reduceIte, ↓dreduceIte, reduceCtorEq, Nat.reduceMul, Nat.reduceAdd, Nat.reduceSub, Nat.reduceDiv, Nat.reduceLT, Nat.reduceLeDiff, Nat.reduceEqDiff, Nat.reduceBEq, Int.reduceNeg, Int.reduceLT, Int.reduceLE, Int.reduceEq, Int.reduceToNat, (eq_true h1), (eq_true h4), h6, h7, h8, h10, h11, h12]
        refine callW_of (c_laws_eqTake g13) ?_
        rcases ite_some b3 with ⟨h14, b3⟩ | ⟨h14, b3⟩
        · cases b3
          simp -implicitDefEqProofs -dsimp only [go_sem, ↓reduceIte, ↓dreduceIte, reduceCtorEq, Nat.reduceMul, Nat.reduceAdd, Nat.reduceSub, Nat.reduceDiv, Nat.reduceLT, Nat.reduceLeDiff, Nat.reduceEqDiff, Nat.reduceBEq, Int.reduceNeg, Int.reduceLT, Int.reduceLE, Int.reduceEq, Int.reduceToNat, (eq_true h1), (eq_true h4), h6, h7, h8, h10, h11, h12, (eq_true h14), (condZ_t h14)]
          refine next_of gb3 ?_
          simp -implicitDefEqProofs -dsimp only [go_sem, ↓reduceIte, ↓dreduceIte, reduceCtorEq, Nat.reduceMul, Nat.reduceAdd, Nat.reduceSub, Nat.reduceDiv, Nat.reduceLT, Nat.reduceLeDiff, Nat.reduceEqDiff, Nat.reduceBEq, Int.reduceNeg, Int.reduceLT, Int.reduceLE, Int.reduceEq, Int.reduceToNat, (eq_true h1), (eq_true h4), h6, h7, h8, h10, h11, h12, (eq_true h14), (condZ_t h14)]
        · cases b3
          have e15 := done_of gb3
          subst e15
          try dsimp only at h
          cases h
          simp -implicitDefEqProofs -dsimp only [go_sem, ↓reduceIte, ↓dreduceIte, reduceCtorEq, Nat.reduceMul, Nat.reduceAdd, Nat.reduceSub, Nat.reduceDiv, Nat.reduceLT, Nat.reduceLeDiff, Nat.reduceEqDiff, Nat.reduceBEq, Int.reduceNeg, Int.reduceLT, Int.reduceLE, Int.reduceEq, Int.reduceToNat, (eq_true h1), (eq_true h4), h6, h7, h8, h10, h11, h12, (eq_false h14), (condZ_f h14)]
      · cases b3
        have e16 := done_of gb3
        subst e16
        try dsimp only at h
        cases h
        simp -implicitDefEqProofs -dsimp only [go_sem, ↓reduceIte, ↓dreduceIte, reduceCtorEq, Nat.reduceMul, Nat.reduceAdd, Nat.reduceSub, Nat.reduceDiv, Nat.reduceLT, Nat.reduceLeDiff, Nat.reduceEqDiff, Nat.reduceBEq, Int.reduceNeg, Int.reduceLT, Int.reduceLE, Int.reduceEq, Int.reduceToNat, (eq_true h1), (eq_false h4)]
  · cases h
    simp -implicitDefEqProofs -dsimp only [go_sem, ↓reduceIte, ↓dreduceIte, reduceCtorEq, Nat.reduceMul, Nat.reduceAdd, Nat.reduceSub, Nat.reduceDiv, Nat.reduceLT, Nat.reduceLeDiff, Nat.reduceEqDiff, Nat.reduceBEq, Int.reduceNeg, Int.reduceLT, Int.reduceLE, Int.reduceEq, Int.reduceToNat, (eq_false h1)]
/- 11 loop.example/g00827/laws.FnExactObservedRange -/
def hi11 : Hint where
  acts := fun _ => []
  draws := fun
    | 14 => ⟨[⟨0, true, []⟩, ⟨1, false, []⟩, ⟨2, false, [0]⟩, ⟨3, false, []⟩, ⟨4, false, []⟩], [[], [], [1], [0, 1, 2], [0, 1, 2, 3]], [0, 1, 2, 3, 4]⟩
    | _ => ⟨[], [], []⟩
theorem hi11a (i : Nat) : hi11.acts i = [] := rfl
theorem hi11v (i : Nat) : hi11.views i = none := rfl
attribute [go_sem] hi11a hi11v Go.Proofs.Try.ntmps11 Go.Proofs.Try.results11
@[go_sem] theorem hi11d14 : (hi11.draws 14).order = [⟨0, true, []⟩, ⟨1, false, []⟩, ⟨2, false, [0]⟩, ⟨3, false, []⟩, ⟨4, false, []⟩] := rfl
theorem c_laws_FnExactObservedRange {aS : GShow} {aList : List GTake} {aTie : Int} {res : Bool} (h : m_laws_FnExactObservedRange aS aList aTie = some res) : CallOk Go.Proofs.Try.prog 11 [.agg [.sl (rowsOf GNode.encS aS.nodes), .sl (rowsOf GTie.enc aS.ties), .lit (.int .i64 aS.horizon)], .sl (rowsOf GTake.enc aList), .lit (.int .i64 aTie)] [] (.lit (.bool res)) [] := by
  refine callOk_of (ra := []) (md := mdT) hT (hi := hi11) Go.Proofs.Try.func11 rfl rfl (by decide +kernel) (by simp) ?_
  unfold m_laws_FnExactObservedRange at h
  obtain ⟨r1001, g1, h⟩ := obnd_some h
  simp -implicitDefEqProofs -dsimp only [go_sem, ↓reduceIte, ↓dreduceIte, reduceCtorEq, Nat.reduceMul, Nat.reduceAdd, Nat.reduceSub, Nat.reduceDiv, Nat.reduceLT, Nat.reduceLeDiff, Nat.reduceEqDiff, Nat.reduceBEq, Int.reduceNeg, Int.reduceLT, Int.reduceLE, Int.reduceEq, Int.reduceToNat]
  refine callW_of (c_laws_szShow g1) ?_
  rcases ite_some h with ⟨h2, h⟩ | ⟨h2, h⟩
  · cases h
    simp -implicitDefEqProofs -dsimp only [go_sem, ↓reduceIte, ↓dreduceIte, reduceCtorEq, Nat.reduceMul, Nat.reduceAdd, Nat.reduceSub, Nat.reduceDiv, Nat.reduceLT, Nat.reduceLeDiff, Nat.reduceEqDiff, Nat.reduceBEq, Int.reduceNeg, Int.reduceLT, Int.reduceLE, Int.reduceEq, Int.reduceToNat, (eq_true h2)]
  · obtain ⟨r1002, g3, h⟩ := obnd_some h
    simp -implicitDefEqProofs -dsimp only [go_sem, ↓reduceIte, ↓dreduceIte, reduceCtorEq, Nat.reduceMul, Nat.reduceAdd, Nat.reduceSub, Nat.reduceDiv, Nat.reduceLT, Nat.reduceLeDiff, Nat.reduceEqDiff, Nat.reduceBEq, Int.reduceNeg, Int.reduceLT, Int.reduceLE, Int.reduceEq, Int.reduceToNat, (eq_false h2)]
    refine callW_of (c_laws_szTakeS g3) ?_
    rcases ite_some h with ⟨h4, h⟩ | ⟨h4, h⟩
    · cases h
      simp -implicitDefEqProofs -dsimp only [go_sem, ↓reduceIte, ↓dreduceIte, reduceCtorEq, Nat.reduceMul, Nat.reduceAdd, Nat.reduceSub, Nat.reduceDiv, Nat.reduceLT, Nat.reduceLeDiff, Nat.reduceEqDiff, Nat.reduceBEq, Int.reduceNeg, Int.reduceLT, Int.reduceLE, Int.reduceEq, Int.reduceToNat, (eq_false h2), (eq_true h4)]
    · obtain ⟨r1003, g5, h⟩ := obnd_some h
      simp -implicitDefEqProofs -dsimp only [go_sem, ↓reduceIte, ↓dreduceIte, reduceCtorEq, Nat.reduceMul, Nat.reduceAdd, Nat.reduceSub, Nat.reduceDiv, Nat.reduceLT, Nat.reduceLeDiff, Nat.reduceEqDiff, Nat.reduceBEq, Int.reduceNeg, Int.reduceLT, Int.reduceLE, Int.reduceEq, Int.reduceToNat, (eq_false h2), (eq_false h4)]
      refine callW_of (c_laws_toShow g5) ?_
      obtain ⟨r1004, g6, h⟩ := obnd_some h
      simp -implicitDefEqProofs -dsimp only [go_sem, ↓reduceIte, ↓dreduceIte, reduceCtorEq, Nat.reduceMul, Nat.reduceAdd, Nat.reduceSub, Nat.reduceDiv, Nat.reduceLT, Nat.reduceLeDiff, Nat.reduceEqDiff, Nat.reduceBEq, Int.reduceNeg, Int.reduceLT, Int.reduceLE, Int.reduceEq, Int.reduceToNat, (eq_false h2), (eq_false h4)]
      refine callW_of (c_laws_toTakeS g6) ?_
      obtain ⟨r1005, g7, h⟩ := obnd_some h
      simp -implicitDefEqProofs -dsimp only [go_sem, ↓reduceIte, ↓dreduceIte, reduceCtorEq, Nat.reduceMul, Nat.reduceAdd, Nat.reduceSub, Nat.reduceDiv, Nat.reduceLT, Nat.reduceLeDiff, Nat.reduceEqDiff, Nat.reduceBEq, Int.reduceNeg, Int.reduceLT, Int.reduceLE, Int.reduceEq, Int.reduceToNat, (eq_false h2), (eq_false h4)]
      refine callW_of (c_spec_ObservedRange g7) ?_
      obtain ⟨r1006, g8, h⟩ := obnd_some h
      simp -implicitDefEqProofs -dsimp only [go_sem, ↓reduceIte, ↓dreduceIte, reduceCtorEq, Nat.reduceMul, Nat.reduceAdd, Nat.reduceSub, Nat.reduceDiv, Nat.reduceLT, Nat.reduceLeDiff, Nat.reduceEqDiff, Nat.reduceBEq, Int.reduceNeg, Int.reduceLT, Int.reduceLE, Int.reduceEq, Int.reduceToNat, (eq_false h2), (eq_false h4)]
      refine callW_of (c_laws_toShow g8) ?_
      obtain ⟨r1007, g9, h⟩ := obnd_some h
      simp -implicitDefEqProofs -dsimp only [go_sem, ↓reduceIte, ↓dreduceIte, reduceCtorEq, Nat.reduceMul, Nat.reduceAdd, Nat.reduceSub, Nat.reduceDiv, Nat.reduceLT, Nat.reduceLeDiff, Nat.reduceEqDiff, Nat.reduceBEq, Int.reduceNeg, Int.reduceLT, Int.reduceLE, Int.reduceEq, Int.reduceToNat, (eq_false h2), (eq_false h4)]
      refine callW_of (c_laws_toTakeS g9) ?_
      obtain ⟨r1008, g10, h⟩ := obnd_some h
      simp -implicitDefEqProofs -dsimp only [go_sem, ↓reduceIte, ↓dreduceIte, reduceCtorEq, Nat.reduceMul, Nat.reduceAdd, Nat.reduceSub, Nat.reduceDiv, Nat.reduceLT, Nat.reduceLeDiff, Nat.reduceEqDiff, Nat.reduceBEq, Int.reduceNeg, Int.reduceLT, Int.reduceLE, Int.reduceEq, Int.reduceToNat, (eq_false h2), (eq_false h4)]
      refine callW_of (c_impl_ObservedRange g10) ?_
      obtain ⟨r1009, g11, h⟩ := obnd_some h
      simp -implicitDefEqProofs -dsimp only [go_sem, ↓reduceIte, ↓dreduceIte, reduceCtorEq, Nat.reduceMul, Nat.reduceAdd, Nat.reduceSub, Nat.reduceDiv, Nat.reduceLT, Nat.reduceLeDiff, Nat.reduceEqDiff, Nat.reduceBEq, Int.reduceNeg, Int.reduceLT, Int.reduceLE, Int.reduceEq, Int.reduceToNat, (eq_false h2), (eq_false h4)]
      refine callW_of (c_laws_eqInterval g11) ?_
      rcases ite_some h with ⟨h12, h⟩ | ⟨h12, h⟩
      · rcases ite_some h with ⟨h13, h⟩ | ⟨h13, h⟩
        · obtain ⟨r1010, g14, h⟩ := obnd_some h
          simp -implicitDefEqProofs -dsimp only [go_sem, ↓reduceIte, ↓dreduceIte, reduceCtorEq, Nat.reduceMul, Nat.reduceAdd, Nat.reduceSub, Nat.reduceDiv, Nat.reduceLT, Nat.reduceLeDiff, Nat.reduceEqDiff, Nat.reduceBEq, Int.reduceNeg, Int.reduceLT, Int.reduceLE, Int.reduceEq, Int.reduceToNat, (eq_false h2), (eq_false h4), (eq_true h12), (condZ_t h12), (eq_true h13)]
          refine callW_of (c_laws_toShow g14) ?_
          obtain ⟨r1011, g15, h⟩ := obnd_some h
          simp -implicitDefEqProofs -dsimp only [go_sem, ↓reduceIte, ↓dreduceIte, reduceCtorEq, Nat.reduceMul, Nat.reduceAdd, Nat.reduceSub, Nat.reduceDiv, Nat.reduceLT, Nat.reduceLeDiff, Nat.reduceEqDiff, Nat.reduceBEq, Int.reduceNeg, Int.reduceLT, Int.reduceLE, Int.reduceEq, Int.reduceToNat, (eq_false h2), (eq_false h4), (eq_true h12), (condZ_t h12), (eq_true h13)]
          refine callW_of (c_laws_eqShow g15) ?_
          rcases ite_some h with ⟨h16, h⟩ | ⟨h16, h⟩
          · obtain ⟨r1012, g17, h⟩ := obnd_some h
            simp -implicitDefEqProofs -dsimp only [go_sem, ↓reduceIte, ↓dreduceIte, reduceCtorEq, Nat.reduceMul, Nat.reduceAdd, Nat.reduceSub, Nat.reduceDiv, Nat.reduceLT, Nat.reduceLeDiff, Nat.reduceEqDiff, Nat.reduceBEq, Int.reduceNeg, Int.reduceLT, Int.reduceLE, Int.reduceEq, Int.reduceToNat, (eq_false h2), (eq_false h4), (eq_true h12), (condZ_t h12), (eq_true h13), (eq_true h16), (condZ_t h16)]
            refine callW_of (c_laws_toTakeS g17) ?_
            obtain ⟨r1013, g18, h⟩ := obnd_some h
            simp -implicitDefEqProofs -dsimp only [go_sem, ↓reduceIte, ↓dreduceIte, reduceCtorEq, Nat.reduceMul, Nat.reduceAdd, Nat.reduceSub, Nat.reduceDiv, Nat.reduceLT, Nat.reduceLeDiff, Nat.reduceEqDiff, Nat.reduceBEq, Int.reduceNeg, Int.reduceLT, Int.reduceLE, Int.reduceEq, Int.reduceToNat, (eq_false h2), (eq_false h4), (eq_true h12), (condZ_t h12), (eq_true h13), (eq_true h16), (condZ_t h16)]
            refine callW_of (c_laws_eqTakeS g18) ?_
            rcases ite_some h with ⟨h19, h⟩ | ⟨h19, h⟩
            · cases h
              simp -implicitDefEqProofs -dsimp only [go_sem, ↓reduceIte, ↓dreduceIte, reduceCtorEq, Nat.reduceMul, Nat.reduceAdd, Nat.reduceSub, Nat.reduceDiv, Nat.reduceLT, Nat.reduceLeDiff, Nat.reduceEqDiff, Nat.reduceBEq, Int.reduceNeg, Int.reduceLT, Int.reduceLE, Int.reduceEq, Int.reduceToNat, (eq_false h2), (eq_false h4), (eq_true h12), (condZ_t h12), (eq_true h13), (eq_true h16), (condZ_t h16), (eq_true h19), (condZ_t h19)]
            · cases h
              simp -implicitDefEqProofs -dsimp only [go_sem, ↓reduceIte, ↓dreduceIte, reduceCtorEq, Nat.reduceMul, Nat.reduceAdd, Nat.reduceSub, Nat.reduceDiv, Nat.reduceLT, Nat.reduceLeDiff, Nat.reduceEqDiff, Nat.reduceBEq, Int.reduceNeg, Int.reduceLT, Int.reduceLE, Int.reduceEq, Int.reduceToNat, (eq_false h2), (eq_false h4), (eq_true h12), (condZ_t h12), (eq_true h13), (eq_true h16), (condZ_t h16), (eq_false h19), (condZ_f h19)]
          · cases h
            simp -implicitDefEqProofs -dsimp only [go_sem, ↓reduceIte, ↓dreduceIte, reduceCtorEq, Nat.reduceMul, Nat.reduceAdd, Nat.reduceSub, Nat.reduceDiv, Nat.reduceLT, Nat.reduceLeDiff, Nat.reduceEqDiff, Nat.reduceBEq, Int.reduceNeg, Int.reduceLT, Int.reduceLE, Int.reduceEq, Int.reduceToNat, (eq_false h2), (eq_false h4), (eq_true h12), (condZ_t h12), (eq_true h13), (eq_false h16), (condZ_f h16)]
        · cases h
          simp -implicitDefEqProofs -dsimp only [go_sem, ↓reduceIte, ↓dreduceIte, reduceCtorEq, Nat.reduceMul, Nat.reduceAdd, Nat.reduceSub, Nat.reduceDiv, Nat.reduceLT, Nat.reduceLeDiff, Nat.reduceEqDiff, Nat.reduceBEq, Int.reduceNeg, Int.reduceLT, Int.reduceLE, Int.reduceEq, Int.reduceToNat, (eq_false h2), (eq_false h4), (eq_true h12), (condZ_t h12), (eq_false h13)]
      · cases h
        simp -implicitDefEqProofs -dsimp only [go_sem, ↓reduceIte, ↓dreduceIte, reduceCtorEq, Nat.reduceMul, Nat.reduceAdd, Nat.reduceSub, Nat.reduceDiv, Nat.reduceLT, Nat.reduceLeDiff, Nat.reduceEqDiff, Nat.reduceBEq, Int.reduceNeg, Int.reduceLT, Int.reduceLE, Int.reduceEq, Int.reduceToNat, (eq_false h2), (eq_false h4), (eq_false h12), (condZ_f h12)]
end Go.Proofs.YtgmiaokdnpaglaaV
