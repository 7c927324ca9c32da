/- Functions. -/
import Derived.Test.YtgmiaokdnpaglaaVM
set_option linter.all false
set_option linter.unusedVariables false
set_option linter.unusedSimpArgs false
set_option maxRecDepth 100000
set_option maxHeartbeats 400000
namespace Go.Proofs.YtgmiaokdnpaglaaV
open Go
/- 135 loop.example/g00827/laws.szIntS -/
def hi135 : Hint where
  acts := fun _ => []
  draws := fun
    | _ => ⟨[], [], []⟩
theorem hi135a (i : Nat) : hi135.acts i = [] := rfl
theorem hi135v (i : Nat) : hi135.views i = none := rfl
attribute [go_sem] hi135a hi135v Go.Proofs.Try.ntmps135 Go.Proofs.Try.results135
theorem c_laws_szIntS {a : List Int} {left : Int} {res : Int} (h : m_laws_szIntS a left = some res) : CallOk Go.Proofs.Try.prog 135 [.sl (rowsOf eI a), .lit (.int .i64 left)] [] (.lit (.int .i64 res)) [] := by
  refine callOk_of (ra := []) (md := mdT) hT (hi := hi135) Go.Proofs.Try.func135 rfl rfl (by decide +kernel) (by simp) ?_
  unfold m_laws_szIntS at h
  rcases ite_some h with ⟨h1, h⟩ | ⟨h1, h⟩
  · cases h
    simp -implicitDefEqProofs -dsimp only [go_sem, ↓reduceIte, ↓dreduceIte, reduceCtorEq, Nat.reduceMul, Nat.reduceAdd, Nat.reduceSub, Nat.reduceDiv, Nat.reduceLT, Nat.reduceLeDiff, Nat.reduceEqDiff, Nat.reduceBEq, Int.reduceNeg, Int.reduceLT, Int.reduceLE, Int.reduceEq, Int.reduceToNat, (eq_true h1)]
  · cases h
    simp -implicitDefEqProofs -dsimp only [go_sem, ↓reduceIte, ↓dreduceIte, reduceCtorEq, Nat.reduceMul, Nat.reduceAdd, Nat.reduceSub, Nat.reduceDiv, Nat.reduceLT, Nat.reduceLeDiff, Nat.reduceEqDiff, Nat.reduceBEq, Int.reduceNeg, Int.reduceLT, Int.reduceLE, Int.reduceEq, Int.reduceToNat, (eq_false h1)]
/- 152 loop.example/g00827/laws.szNode -/
def hi152 : Hint where
  acts := fun _ => []
  draws := fun
    | _ => ⟨[], [], []⟩
theorem hi152a (i : Nat) : hi152.acts i = [] := rfl
theorem hi152v (i : Nat) : hi152.views i = none := rfl
attribute [go_sem] hi152a hi152v Go.Proofs.Try.ntmps152 Go.Proofs.Try.results152
theorem c_laws_szNode {a : GNode} {left : Int} {res : Int} (h : m_laws_szNode a left = some res) : CallOk Go.Proofs.Try.prog 152 [.agg [.lit (.string a.name), .sl (rowsOf eI a.label), .lit (.int .i64 a.watch)], .lit (.int .i64 left)] [] (.lit (.int .i64 res)) [] := by
  refine callOk_of (ra := []) (md := mdT) hT (hi := hi152) Go.Proofs.Try.func152 rfl rfl (by decide +kernel) (by simp) ?_
  unfold m_laws_szNode at h
  rcases ite_some h with ⟨h1, h⟩ | ⟨h1, h⟩
  · cases h
    simp -implicitDefEqProofs -dsimp only [go_sem, ↓reduceIte, ↓dreduceIte, reduceCtorEq, Nat.reduceMul, Nat.reduceAdd, Nat.reduceSub, Nat.reduceDiv, Nat.reduceLT, Nat.reduceLeDiff, Nat.reduceEqDiff, Nat.reduceBEq, Int.reduceNeg, Int.reduceLT, Int.reduceLE, Int.reduceEq, Int.reduceToNat, (eq_true h1)]
  · obtain ⟨r1001, g2, h⟩ := obnd_some h
    simp -implicitDefEqProofs -dsimp only [go_sem, ↓reduceIte, ↓dreduceIte, reduceCtorEq, Nat.reduceMul, Nat.reduceAdd, Nat.reduceSub, Nat.reduceDiv, Nat.reduceLT, Nat.reduceLeDiff, Nat.reduceEqDiff, Nat.reduceBEq, Int.reduceNeg, Int.reduceLT, Int.reduceLE, Int.reduceEq, Int.reduceToNat, (eq_false h1)]
    refine callW_of (c_laws_szIntS g2) ?_
    rcases ite_some h with ⟨h3, h⟩ | ⟨h3, h⟩
    · cases h
      simp -implicitDefEqProofs -dsimp only [go_sem, ↓reduceIte, ↓dreduceIte, reduceCtorEq, Nat.reduceMul, Nat.reduceAdd, Nat.reduceSub, Nat.reduceDiv, Nat.reduceLT, Nat.reduceLeDiff, Nat.reduceEqDiff, Nat.reduceBEq, Int.reduceNeg, Int.reduceLT, Int.reduceLE, Int.reduceEq, Int.reduceToNat, (eq_false h1), (eq_true h3)]
    · cases h
      simp -implicitDefEqProofs -dsimp only [go_sem, ↓reduceIte, ↓dreduceIte, reduceCtorEq, Nat.reduceMul, Nat.reduceAdd, Nat.reduceSub, Nat.reduceDiv, Nat.reduceLT, Nat.reduceLeDiff, Nat.reduceEqDiff, Nat.reduceBEq, Int.reduceNeg, Int.reduceLT, Int.reduceLE, Int.reduceEq, Int.reduceToNat, (eq_false h1), (eq_false h3)]
/- 83 loop.example/g00827/laws.szNodeS -/
def m_laws_szNodeS_L1_St (a : List GNode) : (Int × Int) → St
  | (left, i) => ⟨[(0, .sl (rowsOf GNode.encS a)), (1, .lit (.int .i64 left)), (5, .lit (.int .i64 i))], [], 2⟩
attribute [go_sem] m_laws_szNodeS_L1_St
def hi83 : Hint where
  acts := fun _ => []
  draws := fun
    | _ => ⟨[], [], []⟩
theorem hi83a (i : Nat) : hi83.acts i = [] := rfl
theorem hi83v (i : Nat) : hi83.views i = none := rfl
attribute [go_sem] hi83a hi83v Go.Proofs.Try.ntmps83 Go.Proofs.Try.results83
theorem c_laws_szNodeS {a : List GNode} {left : Int} {res : Int} (h : m_laws_szNodeS a left = some res) : CallOk Go.Proofs.Try.prog 83 [.sl (rowsOf GNode.encS a), .lit (.int .i64 left)] [] (.lit (.int .i64 res)) [] := by
  refine callOk_of (ra := []) (md := mdT) hT (hi := hi83) Go.Proofs.Try.func83 rfl rfl (by decide +kernel) (by simp) ?_
  unfold m_laws_szNodeS at h
  rcases ite_some h with ⟨h1, h⟩ | ⟨h1, h⟩
  · cases h
    simp -implicitDefEqProofs -dsimp only [go_sem, ↓reduceIte, ↓dreduceIte, reduceCtorEq, Nat.reduceMul, Nat.reduceAdd, Nat.reduceSub, Nat.reduceDiv, Nat.reduceLT, Nat.reduceLeDiff, Nat.reduceEqDiff, Nat.reduceBEq, Int.reduceNeg, Int.reduceLT, Int.reduceLE, Int.reduceEq, Int.reduceToNat, (eq_true h1)]
  · obtain ⟨q1003, l2, h⟩ := obnd_some h
    simp -implicitDefEqProofs -dsimp only [go_sem, ↓reduceIte, ↓dreduceIte, reduceCtorEq, Nat.reduceMul, Nat.reduceAdd, Nat.reduceSub, Nat.reduceDiv, Nat.reduceLT, Nat.reduceLeDiff, Nat.reduceEqDiff, Nat.reduceBEq, Int.reduceNeg, Int.reduceLT, Int.reduceLE, Int.reduceEq, Int.reduceToNat, (eq_false h1)]
    refine loopW_loopO (m1 := .mk) (m2 := .mk) [.nf [0, 1, 5] []] (m_laws_szNodeS_L1_St a) l2 ?_ ?_
    · simp -implicitDefEqProofs -dsimp only [go_sem, ↓reduceIte, ↓dreduceIte, reduceCtorEq, Nat.reduceMul, Nat.reduceAdd, Nat.reduceSub, Nat.reduceDiv, Nat.reduceLT, Nat.reduceLeDiff, Nat.reduceEqDiff, Nat.reduceBEq, Int.reduceNeg, Int.reduceLT, Int.reduceLE, Int.reduceEq, Int.reduceToNat, (eq_false h1)]
    · intro nb3 sb3 bb3 b3 gb3
      obtain ⟨left_1, i_1⟩ := sb3
      unfold m_laws_szNodeS_L1 at b3
      try dsimp only at b3
      rcases ite_some b3 with ⟨h4, b3⟩ | ⟨h4, b3⟩
      · obtain ⟨x1001, g5, b3⟩ := obnd_some b3
        obtain ⟨h6, h7, h8⟩ := getI_some g5
        obtain ⟨r1002, g9, b3⟩ := obnd_some b3
        simp -implicitDefEqProofs -dsimp only [go_sem, ↓reduceIte, ↓dreduceIte, reduceCtorEq, Nat.reduceMul, Nat.reduceAdd, Nat.reduceSub, Nat.reduceDiv, Nat.reduceLT, Nat.reduceLeDiff, Nat.reduceEqDiff, Nat.reduceBEq, Int.reduceNeg, Int.reduceLT, Int.reduceLE, Int.reduceEq, Int.reduceToNat, (eq_false h1), (eq_true h4), h6, h7, h8]
        refine callW_of (c_laws_szNode g9) ?_
        rcases ite_some b3 with ⟨h10, b3⟩ | ⟨h10, b3⟩
        · cases b3
          have e11 := done_of gb3
          subst e11
          try dsimp only at h
          cases h
          simp -implicitDefEqProofs -dsimp only [go_sem, ↓reduceIte, ↓dreduceIte, reduceCtorEq, Nat.reduceMul, Nat.reduceAdd, Nat.reduceSub, Nat.reduceDiv, Nat.reduceLT, Nat.reduceLeDiff, Nat.reduceEqDiff, Nat.reduceBEq, Int.reduceNeg, Int.reduceLT, Int.reduceLE, Int.reduceEq, Int.reduceToNat, (eq_false h1), (eq_true h4), h6, h7, h8, (eq_true h10)]
        · cases b3
          simp -implicitDefEqProofs -dsimp only [go_sem, ↓reduceIte, ↓dreduceIte, reduceCtorEq, Nat.reduceMul, Nat.reduceAdd, Nat.reduceSub, Nat.reduceDiv, Nat.reduceLT, Nat.reduceLeDiff, Nat.reduceEqDiff, Nat.reduceBEq, Int.reduceNeg, Int.reduceLT, Int.reduceLE, Int.reduceEq, Int.reduceToNat, (eq_false h1), (eq_true h4), h6, h7, h8, (eq_false h10)]
          refine next_of gb3 ?_
          simp -implicitDefEqProofs -dsimp only [go_sem, ↓reduceIte, ↓dreduceIte, reduceCtorEq, Nat.reduceMul, Nat.reduceAdd, Nat.reduceSub, Nat.reduceDiv, Nat.reduceLT, Nat.reduceLeDiff, Nat.reduceEqDiff, Nat.reduceBEq, Int.reduceNeg, Int.reduceLT, Int.reduceLE, Int.reduceEq, Int.reduceToNat, (eq_false h1), (eq_true h4), h6, h7, h8, (eq_false h10)]
      · cases b3
        have e12 := done_of gb3
        subst e12
        try dsimp only at h
        cases h
        simp -implicitDefEqProofs -dsimp only [go_sem, ↓reduceIte, ↓dreduceIte, reduceCtorEq, Nat.reduceMul, Nat.reduceAdd, Nat.reduceSub, Nat.reduceDiv, Nat.reduceLT, Nat.reduceLeDiff, Nat.reduceEqDiff, Nat.reduceBEq, Int.reduceNeg, Int.reduceLT, Int.reduceLE, Int.reduceEq, Int.reduceToNat, (eq_false h1), (eq_false h4)]
/- 84 loop.example/g00827/laws.szTieS -/
def hi84 : Hint where
  acts := fun _ => []
  draws := fun
    | _ => ⟨[], [], []⟩
theorem hi84a (i : Nat) : hi84.acts i = [] := rfl
theorem hi84v (i : Nat) : hi84.views i = none := rfl
attribute [go_sem] hi84a hi84v Go.Proofs.Try.ntmps84 Go.Proofs.Try.results84
theorem c_laws_szTieS {a : List GTie} {left : Int} {res : Int} (h : m_laws_szTieS a left = some res) : CallOk Go.Proofs.Try.prog 84 [.sl (rowsOf GTie.enc a), .lit (.int .i64 left)] [] (.lit (.int .i64 res)) [] := by
  refine callOk_of (ra := []) (md := mdT) hT (hi := hi84) Go.Proofs.Try.func84 rfl rfl (by decide +kernel) (by simp) ?_
  unfold m_laws_szTieS at h
  rcases ite_some h with ⟨h1, h⟩ | ⟨h1, h⟩
  · cases h
    simp -implicitDefEqProofs -dsimp only [go_sem, ↓reduceIte, ↓dreduceIte, reduceCtorEq, Nat.reduceMul, Nat.reduceAdd, Nat.reduceSub, Nat.reduceDiv, Nat.reduceLT, Nat.reduceLeDiff, Nat.reduceEqDiff, Nat.reduceBEq, Int.reduceNeg, Int.reduceLT, Int.reduceLE, Int.reduceEq, Int.reduceToNat, (eq_true h1)]
  · cases h
    simp -implicitDefEqProofs -dsimp only [go_sem, ↓reduceIte, ↓dreduceIte, reduceCtorEq, Nat.reduceMul, Nat.reduceAdd, Nat.reduceSub, Nat.reduceDiv, Nat.reduceLT, Nat.reduceLeDiff, Nat.reduceEqDiff, Nat.reduceBEq, Int.reduceNeg, Int.reduceLT, Int.reduceLE, Int.reduceEq, Int.reduceToNat, (eq_false h1)]
/- 18 loop.example/g00827/laws.szShow -/
def hi18 : Hint where
  acts := fun _ => []
  draws := fun
    | _ => ⟨[], [], []⟩
theorem hi18a (i : Nat) : hi18.acts i = [] := rfl
theorem hi18v (i : Nat) : hi18.views i = none := rfl
attribute [go_sem] hi18a hi18v Go.Proofs.Try.ntmps18 Go.Proofs.Try.results18
theorem c_laws_szShow {a : GShow} {left : Int} {res : Int} (h : m_laws_szShow a left = some res) : CallOk Go.Proofs.Try.prog 18 [.agg [.sl (rowsOf GNode.encS a.nodes), .sl (rowsOf GTie.enc a.ties), .lit (.int .i64 a.horizon)], .lit (.int .i64 left)] [] (.lit (.int .i64 res)) [] := by
  refine callOk_of (ra := []) (md := mdT) hT (hi := hi18) Go.Proofs.Try.func18 rfl rfl (by decide +kernel) (by simp) ?_
  unfold m_laws_szShow at h
  obtain ⟨r1001, g1, h⟩ := obnd_some h
  simp -implicitDefEqProofs -dsimp only [go_sem, ↓reduceIte, ↓dreduceIte, reduceCtorEq, Nat.reduceMul, Nat.reduceAdd, Nat.reduceSub, Nat.reduceDiv, Nat.reduceLT, Nat.reduceLeDiff, Nat.reduceEqDiff, Nat.reduceBEq, Int.reduceNeg, Int.reduceLT, Int.reduceLE, Int.reduceEq, Int.reduceToNat]
  refine callW_of (c_laws_szNodeS g1) ?_
  rcases ite_some h with ⟨h2, h⟩ | ⟨h2, h⟩
  · cases h
    simp -implicitDefEqProofs -dsimp only [go_sem, ↓reduceIte, ↓dreduceIte, reduceCtorEq, Nat.reduceMul, Nat.reduceAdd, Nat.reduceSub, Nat.reduceDiv, Nat.reduceLT, Nat.reduceLeDiff, Nat.reduceEqDiff, Nat.reduceBEq, Int.reduceNeg, Int.reduceLT, Int.reduceLE, Int.reduceEq, Int.reduceToNat, (eq_true h2)]
  · obtain ⟨r1002, g3, h⟩ := obnd_some h
    simp -implicitDefEqProofs -dsimp only [go_sem, ↓reduceIte, ↓dreduceIte, reduceCtorEq, Nat.reduceMul, Nat.reduceAdd, Nat.reduceSub, Nat.reduceDiv, Nat.reduceLT, Nat.reduceLeDiff, Nat.reduceEqDiff, Nat.reduceBEq, Int.reduceNeg, Int.reduceLT, Int.reduceLE, Int.reduceEq, Int.reduceToNat, (eq_false h2)]
    refine callW_of (c_laws_szTieS g3) ?_
    rcases ite_some h with ⟨h4, h⟩ | ⟨h4, h⟩
    · cases h
      simp -implicitDefEqProofs -dsimp only [go_sem, ↓reduceIte, ↓dreduceIte, reduceCtorEq, Nat.reduceMul, Nat.reduceAdd, Nat.reduceSub, Nat.reduceDiv, Nat.reduceLT, Nat.reduceLeDiff, Nat.reduceEqDiff, Nat.reduceBEq, Int.reduceNeg, Int.reduceLT, Int.reduceLE, Int.reduceEq, Int.reduceToNat, (eq_false h2), (eq_true h4)]
    · cases h
      simp -implicitDefEqProofs -dsimp only [go_sem, ↓reduceIte, ↓dreduceIte, reduceCtorEq, Nat.reduceMul, Nat.reduceAdd, Nat.reduceSub, Nat.reduceDiv, Nat.reduceLT, Nat.reduceLeDiff, Nat.reduceEqDiff, Nat.reduceBEq, Int.reduceNeg, Int.reduceLT, Int.reduceLE, Int.reduceEq, Int.reduceToNat, (eq_false h2), (eq_false h4)]
/- 21 loop.example/g00827/laws.toIntS -/
def m_laws_toIntS_L1_St (a : List Int) : (Int × (List Int)) → St
  | (i, out) => ⟨[(0, .sl (rowsOf eI a)), (3, .ref 448 1 0 out.length), (4, .lit (.int .i64 i))], [(448, 1, .row true (rowsOf eI out))], 2⟩
attribute [go_sem] m_laws_toIntS_L1_St
def hi21 : Hint where
  acts := fun _ => []
  draws := fun
    | _ => ⟨[], [], []⟩
theorem hi21a (i : Nat) : hi21.acts i = [] := rfl
theorem hi21v (i : Nat) : hi21.views i = none := rfl
attribute [go_sem] hi21a hi21v Go.Proofs.Try.ntmps21 Go.Proofs.Try.results21
theorem c_laws_toIntS {a : List Int} {res : List Int} (h : m_laws_toIntS a = some res) : CallOk Go.Proofs.Try.prog 21 [.sl (rowsOf eI a)] [] (.ref 20000 1 0 res.length) [(20000, 1, .row true (rowsOf eI res))] := by
  refine callOk_of (ra := [.home 2]) (md := mdT) hT (hi := hi21) Go.Proofs.Try.func21 rfl rfl (by decide +kernel) (by simp) ?_
  unfold m_laws_toIntS at h
  obtain ⟨h1, h⟩ := chk_some h
  obtain ⟨h2, h⟩ := chk_some h
  obtain ⟨q1003, l3, h⟩ := obnd_some h
  simp -implicitDefEqProofs -dsimp only [go_sem, ↓reduceIte, ↓dreduceIte, reduceCtorEq, Nat.reduceMul, Nat.reduceAdd, Nat.reduceSub, Nat.reduceDiv, Nat.reduceLT, Nat.reduceLeDiff, Nat.reduceEqDiff, Nat.reduceBEq, Int.reduceNeg, Int.reduceLT, Int.reduceLE, Int.reduceEq, Int.reduceToNat, (eq_true h1), (eq_true h2)]
  refine loopW_loopO (m1 := .mk) (m2 := .mk) [.nf [0, 3, 4] [448]] (m_laws_toIntS_L1_St a) l3 ?_ ?_
  · simp -implicitDefEqProofs -dsimp only [go_sem, ↓reduceIte, ↓dreduceIte, reduceCtorEq, Nat.reduceMul, Nat.reduceAdd, Nat.reduceSub, Nat.reduceDiv, Nat.reduceLT, Nat.reduceLeDiff, Nat.reduceEqDiff, Nat.reduceBEq, Int.reduceNeg, Int.reduceLT, Int.reduceLE, Int.reduceEq, Int.reduceToNat, (eq_true h1), (eq_true h2)]
  · intro nb4 sb4 bb4 b4 gb4
    obtain ⟨i_1, out_1⟩ := sb4
    unfold m_laws_toIntS_L1 at b4
    try dsimp only at b4
    rcases ite_some b4 with ⟨h5, b4⟩ | ⟨h5, b4⟩
    · obtain ⟨x1001, g6, b4⟩ := obnd_some b4
      obtain ⟨h7, h8, h9⟩ := getI_some g6
      obtain ⟨x1002, g10, b4⟩ := obnd_some b4
      obtain ⟨h11, h12, h13⟩ := getI_some g10
      cases b4
      simp -implicitDefEqProofs -dsimp only [go_sem, ↓reduceIte, ↓dreduceIte, reduceCtorEq, Nat.reduceMul, Nat.reduceAdd, Nat.reduceSub, Nat.reduceDiv, Nat.reduceLT, Nat.reduceLeDiff, Nat.reduceEqDiff, Nat.reduceBEq, Int.reduceNeg, Int.reduceLT, Int.reduceLE, Int.reduceEq, Int.reduceToNat, (eq_true h1), (eq_true h2), (eq_true h5), h7, h8, h9, h11, h12, h13]
      refine next_of gb4 ?_
      simp -implicitDefEqProofs -dsimp only [go_sem, ↓reduceIte, ↓dreduceIte, reduceCtorEq, Nat.reduceMul, Nat.reduceAdd, Nat.reduceSub, Nat.reduceDiv, Nat.reduceLT, Nat.reduceLeDiff, Nat.reduceEqDiff, Nat.reduceBEq, Int.reduceNeg, Int.reduceLT, Int.reduceLE, Int.reduceEq, Int.reduceToNat, (eq_true h1), (eq_true h2), (eq_true h5), h7, h8, h9, h11, h12, h13]
    · cases b4
      have e14 := done_of gb4
      subst e14
      try dsimp only at h
      cases h
      simp -implicitDefEqProofs -dsimp only [go_sem, ↓reduceIte, ↓dreduceIte, reduceCtorEq, Nat.reduceMul, Nat.reduceAdd, Nat.reduceSub, Nat.reduceDiv, Nat.reduceLT, Nat.reduceLeDiff, Nat.reduceEqDiff, Nat.reduceBEq, Int.reduceNeg, Int.reduceLT, Int.reduceLE, Int.reduceEq, Int.reduceToNat, (eq_true h1), (eq_true h2), (eq_false h5)]
/- 153 loop.example/g00827/laws.toNode -/
def hi153 : Hint where
  acts := fun _ => []
  draws := fun
    | _ => ⟨[], [], []⟩
theorem hi153a (i : Nat) : hi153.acts i = [] := rfl
theorem hi153v (i : Nat) : hi153.views i = none := rfl
attribute [go_sem] hi153a hi153v Go.Proofs.Try.ntmps153 Go.Proofs.Try.results153
theorem c_laws_toNode {a : GNode} {res : GNode} (h : m_laws_toNode a = some res) : CallOk Go.Proofs.Try.prog 153 [.agg [.lit (.string a.name), .sl (rowsOf eI a.label), .lit (.int .i64 a.watch)]] [] (.agg [.lit (.string res.name), .ref 20000 1 0 res.label.length, .lit (.int .i64 res.watch)]) [(20000, 1, .row true (rowsOf eI res.label))] := by
  refine callOk_of (ra := [.homeCell 128 1]) (md := mdT) hT (hi := hi153) Go.Proofs.Try.func153 rfl rfl (by decide +kernel) (by simp) ?_
  unfold m_laws_toNode at h
  obtain ⟨r1001, g1, h⟩ := obnd_some h
  simp -implicitDefEqProofs -dsimp only [go_sem, ↓reduceIte, ↓dreduceIte, reduceCtorEq, Nat.reduceMul, Nat.reduceAdd, Nat.reduceSub, Nat.reduceDiv, Nat.reduceLT, Nat.reduceLeDiff, Nat.reduceEqDiff, Nat.reduceBEq, Int.reduceNeg, Int.reduceLT, Int.reduceLE, Int.reduceEq, Int.reduceToNat]
  refine callW_of (c_laws_toIntS g1) ?_
  cases h
  simp -implicitDefEqProofs -dsimp only [go_sem, ↓reduceIte, ↓dreduceIte, reduceCtorEq, Nat.reduceMul, Nat.reduceAdd, Nat.reduceSub, Nat.reduceDiv, Nat.reduceLT, Nat.reduceLeDiff, Nat.reduceEqDiff, Nat.reduceBEq, Int.reduceNeg, Int.reduceLT, Int.reduceLE, Int.reduceEq, Int.reduceToNat]
/- 86 loop.example/g00827/laws.toNodeS -/
def m_laws_toNodeS_L1_St (a : List GNode) : (Int × (List GNode)) → St
  | (i, out) => ⟨[(0, .sl (rowsOf GNode.encS a)), (3, .ref 448 1 0 out.length), (4, .lit (.int .i64 i))], [(448, 1, .row true (rowsOf GNode.encO out))], 2⟩
attribute [go_sem] m_laws_toNodeS_L1_St
def hi86 : Hint where
  acts := fun _ => []
  draws := fun
    | _ => ⟨[], [], []⟩
theorem hi86a (i : Nat) : hi86.acts i = [] := rfl
theorem hi86v (i : Nat) : hi86.views i = none := rfl
attribute [go_sem] hi86a hi86v Go.Proofs.Try.ntmps86 Go.Proofs.Try.results86
theorem c_laws_toNodeS {a : List GNode} {res : List GNode} (h : m_laws_toNodeS a = some res) : CallOk Go.Proofs.Try.prog 86 [.sl (rowsOf GNode.encS a)] [] (.ref 20000 1 0 res.length) [(20000, 1, .row true (rowsOf GNode.encO res))] := by
  refine callOk_of (ra := [.home 2]) (md := mdT) hT (hi := hi86) Go.Proofs.Try.func86 rfl rfl (by decide +kernel) (by simp) ?_
  unfold m_laws_toNodeS at h
  obtain ⟨h1, h⟩ := chk_some h
  obtain ⟨h2, h⟩ := chk_some h
  obtain ⟨q1004, l3, h⟩ := obnd_some h
  simp -implicitDefEqProofs -dsimp only [go_sem, ↓reduceIte, ↓dreduceIte, reduceCtorEq, Nat.reduceMul, Nat.reduceAdd, Nat.reduceSub, Nat.reduceDiv, Nat.reduceLT, Nat.reduceLeDiff, Nat.reduceEqDiff, Nat.reduceBEq, Int.reduceNeg, Int.reduceLT, Int.reduceLE, Int.reduceEq, Int.reduceToNat, (eq_true h1), (eq_true h2)]
  refine loopW_loopO (m1 := .mk) (m2 := .mk) [.nf [0, 3, 4] [448]] (m_laws_toNodeS_L1_St a) l3 ?_ ?_
  · simp -implicitDefEqProofs -dsimp only [go_sem, ↓reduceIte, ↓dreduceIte, reduceCtorEq, Nat.reduceMul, Nat.reduceAdd, Nat.reduceSub, Nat.reduceDiv, Nat.reduceLT, Nat.reduceLeDiff, Nat.reduceEqDiff, Nat.reduceBEq, Int.reduceNeg, Int.reduceLT, Int.reduceLE, Int.reduceEq, Int.reduceToNat, (eq_true h1), (eq_true h2)]
  · intro nb4 sb4 bb4 b4 gb4
    obtain ⟨i_1, out_1⟩ := sb4
    unfold m_laws_toNodeS_L1 at b4
    try dsimp only at b4
    rcases ite_some b4 with ⟨h5, b4⟩ | ⟨h5, b4⟩
    · obtain ⟨x1001, g6, b4⟩ := obnd_some b4
      obtain ⟨h7, h8, h9⟩ := getI_some g6
      obtain ⟨r1002, g10, b4⟩ := obnd_some b4
      simp -implicitDefEqProofs -dsimp only [go_sem, ↓reduceIte, ↓dreduceIte, reduceCtorEq, Nat.reduceMul, Nat.reduceAdd, Nat.reduceSub, Nat.reduceDiv, Nat.reduceLT, Nat.reduceLeDiff, Nat.reduceEqDiff, Nat.reduceBEq, Int.reduceNeg, Int.reduceLT, Int.reduceLE, Int.reduceEq, Int.reduceToNat, (eq_true h1), (eq_true h2), (eq_true h5), h7, h8, h9]
      refine callW_of (c_laws_toNode g10) ?_
      obtain ⟨x1003, g11, b4⟩ := obnd_some b4
      obtain ⟨h12, h13, h14⟩ := getI_some g11
      cases b4
      simp -implicitDefEqProofs -dsimp only [go_sem, ↓reduceIte, ↓dreduceIte, reduceCtorEq, Nat.reduceMul, Nat.reduceAdd, Nat.reduceSub, Nat.reduceDiv, Nat.reduceLT, Nat.reduceLeDiff, Nat.reduceEqDiff, Nat.reduceBEq, Int.reduceNeg, Int.reduceLT, Int.reduceLE, Int.reduceEq, Int.reduceToNat, (eq_true h1), (eq_true h2), (eq_true h5), h7, h8, h9, h12, h13, h14]
      refine next_of gb4 ?_
      simp -implicitDefEqProofs -dsimp only [go_sem, ↓reduceIte, ↓dreduceIte, reduceCtorEq, Nat.reduceMul, Nat.reduceAdd, Nat.reduceSub, Nat.reduceDiv, Nat.reduceLT, Nat.reduceLeDiff, Nat.reduceEqDiff, Nat.reduceBEq, Int.reduceNeg, Int.reduceLT, Int.reduceLE, Int.reduceEq, Int.reduceToNat, (eq_true h1), (eq_true h2), (eq_true h5), h7, h8, h9, h12, h13, h14]
    · cases b4
      have e15 := done_of gb4
      subst e15
      try dsimp only at h
      cases h
      simp -implicitDefEqProofs -dsimp only [go_sem, ↓reduceIte, ↓dreduceIte, reduceCtorEq, Nat.reduceMul, Nat.reduceAdd, Nat.reduceSub, Nat.reduceDiv, Nat.reduceLT, Nat.reduceLeDiff, Nat.reduceEqDiff, Nat.reduceBEq, Int.reduceNeg, Int.reduceLT, Int.reduceLE, Int.reduceEq, Int.reduceToNat, (eq_true h1), (eq_true h2), (eq_false h5)]
/- 154 loop.example/g00827/laws.toTie -/
def hi154 : Hint where
  acts := fun _ => []
  draws := fun
    | _ => ⟨[], [], []⟩
theorem hi154a (i : Nat) : hi154.acts i = [] := rfl
theorem hi154v (i : Nat) : hi154.views i = none := rfl
attribute [go_sem] hi154a hi154v Go.Proofs.Try.ntmps154 Go.Proofs.Try.results154
theorem c_laws_toTie {a : GTie} {res : GTie} (h : m_laws_toTie a = some res) : CallOk Go.Proofs.Try.prog 154 [.agg [.lit (.int .i64 a.from_), .lit (.int .i64 a.to), .lit (.int .i64 a.low), .lit (.int .i64 a.high), .lit (.bool a.free)]] [] (.agg [.lit (.int .i64 res.from_), .lit (.int .i64 res.to), .lit (.int .i64 res.low), .lit (.int .i64 res.high), .lit (.bool res.free)]) [] := by
  refine callOk_of (ra := []) (md := mdT) hT (hi := hi154) Go.Proofs.Try.func154 rfl rfl (by decide +kernel) (by simp) ?_
  unfold m_laws_toTie at h
  cases h
  simp -implicitDefEqProofs -dsimp only [go_sem, ↓reduceIte, ↓dreduceIte, reduceCtorEq, Nat.reduceMul, Nat.reduceAdd, Nat.reduceSub, Nat.reduceDiv, Nat.reduceLT, Nat.reduceLeDiff, Nat.reduceEqDiff, Nat.reduceBEq, Int.reduceNeg, Int.reduceLT, Int.reduceLE, Int.reduceEq, Int.reduceToNat]
/- 87 loop.example/g00827/laws.toTieS -/
def m_laws_toTieS_L1_St (a : List GTie) : (Int × (List GTie)) → St
  | (i, out) => ⟨[(0, .sl (rowsOf GTie.enc a)), (3, .ref 448 1 0 out.length), (4, .lit (.int .i64 i))], [(448, 1, .row true (rowsOf GTie.enc out))], 2⟩
attribute [go_sem] m_laws_toTieS_L1_St
def hi87 : Hint where
  acts := fun _ => []
  draws := fun
    | _ => ⟨[], [], []⟩
theorem hi87a (i : Nat) : hi87.acts i = [] := rfl
theorem hi87v (i : Nat) : hi87.views i = none := rfl
attribute [go_sem] hi87a hi87v Go.Proofs.Try.ntmps87 Go.Proofs.Try.results87
theorem c_laws_toTieS {a : List GTie} {res : List GTie} (h : m_laws_toTieS a = some res) : CallOk Go.Proofs.Try.prog 87 [.sl (rowsOf GTie.enc a)] [] (.ref 20000 1 0 res.length) [(20000, 1, .row true (rowsOf GTie.enc res))] := by
  refine callOk_of (ra := [.home 2]) (md := mdT) hT (hi := hi87) Go.Proofs.Try.func87 rfl rfl (by decide +kernel) (by simp) ?_
  unfold m_laws_toTieS at h
  obtain ⟨h1, h⟩ := chk_some h
  obtain ⟨h2, h⟩ := chk_some h
  obtain ⟨q1004, l3, h⟩ := obnd_some h
  simp -implicitDefEqProofs -dsimp only [go_sem, ↓reduceIte, ↓dreduceIte, reduceCtorEq, Nat.reduceMul, Nat.reduceAdd, Nat.reduceSub, Nat.reduceDiv, Nat.reduceLT, Nat.reduceLeDiff, Nat.reduceEqDiff, Nat.reduceBEq, Int.reduceNeg, Int.reduceLT, Int.reduceLE, Int.reduceEq, Int.reduceToNat, (eq_true h1), (eq_true h2)]
  refine loopW_loopO (m1 := .mk) (m2 := .mk) [.nf [0, 3, 4] [448]] (m_laws_toTieS_L1_St a) l3 ?_ ?_
  · simp -implicitDefEqProofs -dsimp only [go_sem, ↓reduceIte, ↓dreduceIte, reduceCtorEq, Nat.reduceMul, Nat.reduceAdd, Nat.reduceSub, Nat.reduceDiv, Nat.reduceLT, Nat.reduceLeDiff, Nat.reduceEqDiff, Nat.reduceBEq, Int.reduceNeg, Int.reduceLT, Int.reduceLE, Int.reduceEq, Int.reduceToNat, (eq_true h1), (eq_true h2)]
  · intro nb4 sb4 bb4 b4 gb4
    obtain ⟨i_1, out_1⟩ := sb4
    unfold m_laws_toTieS_L1 at b4
    try dsimp only at b4
    rcases ite_some b4 with ⟨h5, b4⟩ | ⟨h5, b4⟩
    · obtain ⟨x1001, g6, b4⟩ := obnd_some b4
      obtain ⟨h7, h8, h9⟩ := getI_some g6
      obtain ⟨r1002, g10, b4⟩ := obnd_some b4
      simp -implicitDefEqProofs -dsimp only [go_sem, ↓reduceIte, ↓dreduceIte, reduceCtorEq, Nat.reduceMul, Nat.reduceAdd, Nat.reduceSub, Nat.reduceDiv, Nat.reduceLT, Nat.reduceLeDiff, Nat.reduceEqDiff, Nat.reduceBEq, Int.reduceNeg, Int.reduceLT, Int.reduceLE, Int.reduceEq, Int.reduceToNat, (eq_true h1), (eq_true h2), (eq_true h5), h7, h8, h9]
      refine callW_of (c_laws_toTie g10) ?_
      obtain ⟨x1003, g11, b4⟩ := obnd_some b4
      obtain ⟨h12, h13, h14⟩ := getI_some g11
      cases b4
      simp -implicitDefEqProofs -dsimp only [go_sem, ↓reduceIte, ↓dreduceIte, reduceCtorEq, Nat.reduceMul, Nat.reduceAdd, Nat.reduceSub, Nat.reduceDiv, Nat.reduceLT, Nat.reduceLeDiff, Nat.reduceEqDiff, Nat.reduceBEq, Int.reduceNeg, Int.reduceLT, Int.reduceLE, Int.reduceEq, Int.reduceToNat, (eq_true h1), (eq_true h2), (eq_true h5), h7, h8, h9, h12, h13, h14]
      refine next_of gb4 ?_
      simp -implicitDefEqProofs -dsimp only [go_sem, ↓reduceIte, ↓dreduceIte, reduceCtorEq, Nat.reduceMul, Nat.reduceAdd, Nat.reduceSub, Nat.reduceDiv, Nat.reduceLT, Nat.reduceLeDiff, Nat.reduceEqDiff, Nat.reduceBEq, Int.reduceNeg, Int.reduceLT, Int.reduceLE, Int.reduceEq, Int.reduceToNat, (eq_true h1), (eq_true h2), (eq_true h5), h7, h8, h9, h12, h13, h14]
    · cases b4
      have e15 := done_of gb4
      subst e15
      try dsimp only at h
      cases h
      simp -implicitDefEqProofs -dsimp only [go_sem, ↓reduceIte, ↓dreduceIte, reduceCtorEq, Nat.reduceMul, Nat.reduceAdd, Nat.reduceSub, Nat.reduceDiv, Nat.reduceLT, Nat.reduceLeDiff, Nat.reduceEqDiff, Nat.reduceBEq, Int.reduceNeg, Int.reduceLT, Int.reduceLE, Int.reduceEq, Int.reduceToNat, (eq_true h1), (eq_true h2), (eq_false h5)]
/- 20 loop.example/g00827/laws.toShow -/
def hi20 : Hint where
  acts := fun _ => []
  draws := fun
    | _ => ⟨[], [], []⟩
theorem hi20a (i : Nat) : hi20.acts i = [] := rfl
theorem hi20v (i : Nat) : hi20.views i = none := rfl
attribute [go_sem] hi20a hi20v Go.Proofs.Try.ntmps20 Go.Proofs.Try.results20
theorem c_laws_toShow {a : GShow} {res : GShow} (h : m_laws_toShow a = some res) : CallOk Go.Proofs.Try.prog 20 [.agg [.sl (rowsOf GNode.encS a.nodes), .sl (rowsOf GTie.enc a.ties), .lit (.int .i64 a.horizon)]] [] (.agg [.ref 20000 1 0 res.nodes.length, .ref 20001 1 0 res.ties.length, .lit (.int .i64 res.horizon)]) [(20000, 1, .row true (rowsOf GNode.encO res.nodes)), (20001, 1, .row true (rowsOf GTie.enc res.ties))] := by
  refine callOk_of (ra := [.homeCell 128 0, .homeCell 128 1]) (md := mdT) hT (hi := hi20) Go.Proofs.Try.func20 rfl rfl (by decide +kernel) (by simp) ?_
  unfold m_laws_toShow at h
  obtain ⟨r1001, g1, h⟩ := obnd_some h
  simp -implicitDefEqProofs -dsimp only [go_sem, ↓reduceIte, ↓dreduceIte, reduceCtorEq, Nat.reduceMul, Nat.reduceAdd, Nat.reduceSub, Nat.reduceDiv, Nat.reduceLT, Nat.reduceLeDiff, Nat.reduceEqDiff, Nat.reduceBEq, Int.reduceNeg, Int.reduceLT, Int.reduceLE, Int.reduceEq, Int.reduceToNat]
  refine callW_of (c_laws_toNodeS g1) ?_
  obtain ⟨r1002, g2, h⟩ := obnd_some h
  simp -implicitDefEqProofs -dsimp only [go_sem, ↓reduceIte, ↓dreduceIte, reduceCtorEq, Nat.reduceMul, Nat.reduceAdd, Nat.reduceSub, Nat.reduceDiv, Nat.reduceLT, Nat.reduceLeDiff, Nat.reduceEqDiff, Nat.reduceBEq, Int.reduceNeg, Int.reduceLT, Int.reduceLE, Int.reduceEq, Int.reduceToNat]
  refine callW_of (c_laws_toTieS g2) ?_
  cases h
  simp -implicitDefEqProofs -dsimp only [go_sem, ↓reduceIte, ↓dreduceIte, reduceCtorEq, Nat.reduceMul, Nat.reduceAdd, Nat.reduceSub, Nat.reduceDiv, Nat.reduceLT, Nat.reduceLeDiff, Nat.reduceEqDiff, Nat.reduceBEq, Int.reduceNeg, Int.reduceLT, Int.reduceLE, Int.reduceEq, Int.reduceToNat]
/- 85 loop.example/g00827/spec.l07Has -/
def m_spec_l07Has_L1_St (n : Int) (v7 : List Int) (v8 : Int) (v9 : Int) : St := ⟨[(1, .lit (.int .i64 n)), (7, .sl (rowsOf eI v7)), (8, .lit (.int .i64 v8)), (9, .lit (.int .i64 v9))], [], 2⟩
attribute [go_sem] m_spec_l07Has_L1_St
def hi85 : Hint where
  acts := fun _ => []
  draws := fun
    | _ => ⟨[], [], []⟩
theorem hi85a (i : Nat) : hi85.acts i = [] := rfl
theorem hi85v (i : Nat) : hi85.views i = none := rfl
attribute [go_sem] hi85a hi85v Go.Proofs.Try.ntmps85 Go.Proofs.Try.results85
theorem c_spec_l07Has {l : List Int} {n : Int} {res : Bool} (h : m_spec_l07Has l n = some res) : CallOk Go.Proofs.Try.prog 85 [.sl (rowsOf eI l), .lit (.int .i64 n)] [] (.lit (.bool res)) [] := by
  refine callOk_of (ra := []) (md := mdT) hT (hi := hi85) Go.Proofs.Try.func85 rfl rfl (by decide +kernel) (by simp) ?_
  unfold m_spec_l07Has at h
  obtain ⟨q1002, l1, h⟩ := obnd_some h
  simp -implicitDefEqProofs -dsimp only [go_sem, ↓reduceIte, ↓dreduceIte, reduceCtorEq, Nat.reduceMul, Nat.reduceAdd, Nat.reduceSub, Nat.reduceDiv, Nat.reduceLT, Nat.reduceLeDiff, Nat.reduceEqDiff, Nat.reduceBEq, Int.reduceNeg, Int.reduceLT, Int.reduceLE, Int.reduceEq, Int.reduceToNat]
  refine loopW_loopO (m1 := .mk) (m2 := .mk) [.nf [1, 7, 8, 9] []] (m_spec_l07Has_L1_St n l ((l.length : Nat) : Int)) l1 ?_ ?_
  · simp -implicitDefEqProofs -dsimp only [go_sem, ↓reduceIte, ↓dreduceIte, reduceCtorEq, Nat.reduceMul, Nat.reduceAdd, Nat.reduceSub, Nat.reduceDiv, Nat.reduceLT, Nat.reduceLeDiff, Nat.reduceEqDiff, Nat.reduceBEq, Int.reduceNeg, Int.reduceLT, Int.reduceLE, Int.reduceEq, Int.reduceToNat]
  · intro nb2 sb2 bb2 b2 gb2
    obtain ⟨v9_1, eb2⟩ : ∃ v, v = sb2 := ⟨_, rfl⟩; subst eb2
    unfold m_spec_l07Has_L1 at b2
    try dsimp only at b2
    rcases ite_some b2 with ⟨h3, b2⟩ | ⟨h3, b2⟩
    · obtain ⟨x1001, g4, b2⟩ := obnd_some b2
      obtain ⟨h5, h6, h7⟩ := getI_some g4
      rcases ite_some b2 with ⟨h8, b2⟩ | ⟨h8, b2⟩
      · cases b2
        have e9 := done_of gb2
        subst e9
        try dsimp only at h
        cases h
        simp -implicitDefEqProofs -dsimp only [go_sem, ↓reduceIte, ↓dreduceIte, reduceCtorEq, Nat.reduceMul, Nat.reduceAdd, Nat.reduceSub, Nat.reduceDiv, Nat.reduceLT, Nat.reduceLeDiff, Nat.reduceEqDiff, Nat.reduceBEq, Int.reduceNeg, Int.reduceLT, Int.reduceLE, Int.reduceEq, Int.reduceToNat, (eq_true h3), h5, h6, h7, (eq_true h8)]
      · cases b2
        simp -implicitDefEqProofs -dsimp only [go_sem, ↓reduceIte, ↓dreduceIte, reduceCtorEq, Nat.reduceMul, Nat.reduceAdd, Nat.reduceSub, Nat.reduceDiv, Nat.reduceLT, Nat.reduceLeDiff, Nat.reduceEqDiff, Nat.reduceBEq, Int.reduceNeg, Int.reduceLT, Int.reduceLE, Int.reduceEq, Int.reduceToNat, (eq_true h3), h5, h6, h7, (eq_false h8)]
        refine next_of gb2 ?_
        simp -implicitDefEqProofs -dsimp only [go_sem, ↓reduceIte, ↓dreduceIte, reduceCtorEq, Nat.reduceMul, Nat.reduceAdd, Nat.reduceSub, Nat.reduceDiv, Nat.reduceLT, Nat.reduceLeDiff, Nat.reduceEqDiff, Nat.reduceBEq, Int.reduceNeg, Int.reduceLT, Int.reduceLE, Int.reduceEq, Int.reduceToNat, (eq_true h3), h5, h6, h7, (eq_false h8)]
    · cases b2
      have e10 := done_of gb2
      subst e10
      try dsimp only at h
      cases h
      simp -implicitDefEqProofs -dsimp only [go_sem, ↓reduceIte, ↓dreduceIte, reduceCtorEq, Nat.reduceMul, Nat.reduceAdd, Nat.reduceSub, Nat.reduceDiv, Nat.reduceLT, Nat.reduceLeDiff, Nat.reduceEqDiff, Nat.reduceBEq, Int.reduceNeg, Int.reduceLT, Int.reduceLE, Int.reduceEq, Int.reduceToNat, (eq_false h3)]
/- 19 loop.example/g00827/spec.ShiftTimes -/
def m_spec_ShiftTimes_L1_St (second : List Int) (by_ : Int) (v22 : Int) : (Int × (List Int)) → St
  | (v23, v21) => ⟨[(2, .sl (rowsOf eI second)), (3, .lit (.int .i64 by_)), (9, .ref 1152 1 0 v21.length), (21, .ref 1152 1 0 v21.length), (22, .lit (.int .i64 v22)), (23, .lit (.int .i64 v23))], [(1152, 1, .row true (rowsOf eI v21))], 2⟩
attribute [go_sem] m_spec_ShiftTimes_L1_St
def hi19 : Hint where
  acts := fun _ => []
  draws := fun
    | _ => ⟨[], [], []⟩
theorem hi19a (i : Nat) : hi19.acts i = [] := rfl
theorem hi19v (i : Nat) : hi19.views i = none := rfl
attribute [go_sem] hi19a hi19v Go.Proofs.Try.ntmps19 Go.Proofs.Try.results19
theorem c_spec_ShiftTimes {s : GShow} {times : List Int} {second : List Int} {by_ : Int} {res : List Int} (h : m_spec_ShiftTimes s times second by_ = some res) : CallOk Go.Proofs.Try.prog 19 [.agg [.sl (rowsOf GNode.encS s.nodes), .sl (rowsOf GTie.enc s.ties), .lit (.int .i64 s.horizon)], .sl (rowsOf eI times), .sl (rowsOf eI second), .lit (.int .i64 by_)] [] (.ref 20000 1 0 res.length) [(20000, 1, .row true (rowsOf eI res))] := by
  refine callOk_of (ra := [.home 8]) (md := mdT) hT (hi := hi19) Go.Proofs.Try.func19 rfl rfl (by decide +kernel) (by simp) ?_
  unfold m_spec_ShiftTimes at h
  rcases ite_some h with ⟨h1, h⟩ | ⟨h1, h⟩
  · obtain ⟨h2, h⟩ := chk_some h
    obtain ⟨h3, h⟩ := chk_some h
    obtain ⟨q1003, l4, h⟩ := obnd_some h
    simp -implicitDefEqProofs -dsimp only [go_sem, ↓reduceIte, ↓dreduceIte, reduceCtorEq, Nat.reduceMul, Nat.reduceAdd, Nat.reduceSub, Nat.reduceDiv, Nat.reduceLT, Nat.reduceLeDiff, Nat.reduceEqDiff, Nat.reduceBEq, Int.reduceNeg, Int.reduceLT, Int.reduceLE, Int.reduceEq, Int.reduceToNat, (eq_true h1), (eq_true h2), (eq_true h3)]
    refine loopW_loopO (m1 := .mk) (m2 := .mk) [.nf [2, 3, 9, 21, 22, 23] [1152]] (m_spec_ShiftTimes_L1_St second by_ ((times.length : Nat) : Int)) l4 ?_ ?_
    · simp -implicitDefEqProofs -dsimp only [go_sem, ↓reduceIte, ↓dreduceIte, reduceCtorEq, Nat.reduceMul, Nat.reduceAdd, Nat.reduceSub, Nat.reduceDiv, Nat.reduceLT, Nat.reduceLeDiff, Nat.reduceEqDiff, Nat.reduceBEq, Int.reduceNeg, Int.reduceLT, Int.reduceLE, Int.reduceEq, Int.reduceToNat, (eq_true h1), (eq_true h2), (eq_true h3)]
    · intro nb5 sb5 bb5 b5 gb5
      obtain ⟨v23_1, v21_1⟩ := sb5
      unfold m_spec_ShiftTimes_L1 at b5
      try dsimp only at b5
      rcases ite_some b5 with ⟨h6, b5⟩ | ⟨h6, b5⟩
      · obtain ⟨x1001, g7, b5⟩ := obnd_some b5
        obtain ⟨h8, h9, h10⟩ := getI_some g7
        rcases ite_some b5 with ⟨h11, b5⟩ | ⟨h11, b5⟩
        · cases b5
          simp -implicitDefEqProofs -dsimp only [go_sem, ↓reduceIte, ↓dreduceIte, reduceCtorEq, Nat.reduceMul, Nat.reduceAdd, Nat.reduceSub, Nat.reduceDiv, Nat.reduceLT, Nat.reduceLeDiff, Nat.reduceEqDiff, Nat.reduceBEq, Int.reduceNeg, Int.reduceLT, Int.reduceLE, Int.reduceEq, Int.reduceToNat, (eq_true h1), (eq_true h2), (eq_true h3), (eq_true h6), h8, h9, h10, (eq_true h11)]
          refine next_of gb5 ?_
          simp -implicitDefEqProofs -dsimp only [go_sem, ↓reduceIte, ↓dreduceIte, reduceCtorEq, Nat.reduceMul, Nat.reduceAdd, Nat.reduceSub, Nat.reduceDiv, Nat.reduceLT, Nat.reduceLeDiff, Nat.reduceEqDiff, Nat.reduceBEq, Int.reduceNeg, Int.reduceLT, Int.reduceLE, Int.reduceEq, Int.reduceToNat, (eq_true h1), (eq_true h2), (eq_true h3), (eq_true h6), h8, h9, h10, (eq_true h11)]
        · obtain ⟨r1002, g12, b5⟩ := obnd_some b5
          simp -implicitDefEqProofs -dsimp only [go_sem, ↓reduceIte, ↓dreduceIte, reduceCtorEq, Nat.reduceMul, Nat.reduceAdd, Nat.reduceSub, Nat.reduceDiv, Nat.reduceLT, Nat.reduceLeDiff, Nat.reduceEqDiff, Nat.reduceBEq, Int.reduceNeg, Int.reduceLT, Int.reduceLE, Int.reduceEq, Int.reduceToNat, (eq_true h1), (eq_true h2), (eq_true h3), (eq_true h6), h8, h9, h10, (eq_false h11)]
          refine callW_of (c_spec_l07Has g12) ?_
          rcases ite_some b5 with ⟨h13, b5⟩ | ⟨h13, b5⟩
          · cases b5
            simp -implicitDefEqProofs -dsimp only [go_sem, ↓reduceIte, ↓dreduceIte, reduceCtorEq, Nat.reduceMul, Nat.reduceAdd, Nat.reduceSub, Nat.reduceDiv, Nat.reduceLT, Nat.reduceLeDiff, Nat.reduceEqDiff, Nat.reduceBEq, Int.reduceNeg, Int.reduceLT, Int.reduceLE, Int.reduceEq, Int.reduceToNat, (eq_true h1), (eq_true h2), (eq_true h3), (eq_true h6), h8, h9, h10, (eq_false h11), (eq_true h13), (condZ_t h13)]
            refine next_of gb5 ?_
            simp -implicitDefEqProofs -dsimp only [go_sem, ↓reduceIte, ↓dreduceIte, reduceCtorEq, Nat.reduceMul, Nat.reduceAdd, Nat.reduceSub, Nat.reduceDiv, Nat.reduceLT, Nat.reduceLeDiff, Nat.reduceEqDiff, Nat.reduceBEq, Int.reduceNeg, Int.reduceLT, Int.reduceLE, Int.reduceEq, Int.reduceToNat, (eq_true h1), (eq_true h2), (eq_true h3), (eq_true h6), h8, h9, h10, (eq_false h11), (eq_true h13), (condZ_t h13)]
          · cases b5
            simp -implicitDefEqProofs -dsimp only [go_sem, ↓reduceIte, ↓dreduceIte, reduceCtorEq, Nat.reduceMul, Nat.reduceAdd, Nat.reduceSub, Nat.reduceDiv, Nat.reduceLT, Nat.reduceLeDiff, Nat.reduceEqDiff, Nat.reduceBEq, Int.reduceNeg, Int.reduceLT, Int.reduceLE, Int.reduceEq, Int.reduceToNat, (eq_true h1), (eq_true h2), (eq_true h3), (eq_true h6), h8, h9, h10, (eq_false h11), (eq_false h13), (condZ_f h13)]
            refine next_of gb5 ?_
            simp -implicitDefEqProofs -dsimp only [go_sem, ↓reduceIte, ↓dreduceIte, reduceCtorEq, Nat.reduceMul, Nat.reduceAdd, Nat.reduceSub, Nat.reduceDiv, Nat.reduceLT, Nat.reduceLeDiff, Nat.reduceEqDiff, Nat.reduceBEq, Int.reduceNeg, Int.reduceLT, Int.reduceLE, Int.reduceEq, Int.reduceToNat, (eq_true h1), (eq_true h2), (eq_true h3), (eq_true h6), h8, h9, h10, (eq_false h11), (eq_false h13), (condZ_f h13)]
      · cases b5
        have e14 := done_of gb5
        subst e14
        try dsimp only at h
        cases h
        simp -implicitDefEqProofs -dsimp only [go_sem, ↓reduceIte, ↓dreduceIte, reduceCtorEq, Nat.reduceMul, Nat.reduceAdd, Nat.reduceSub, Nat.reduceDiv, Nat.reduceLT, Nat.reduceLeDiff, Nat.reduceEqDiff, Nat.reduceBEq, Int.reduceNeg, Int.reduceLT, Int.reduceLE, Int.reduceEq, Int.reduceToNat, (eq_true h1), (eq_true h2), (eq_true h3), (eq_false h6)]
  · cases h
    simp -implicitDefEqProofs -dsimp only [go_sem, ↓reduceIte, ↓dreduceIte, reduceCtorEq, Nat.reduceMul, Nat.reduceAdd, Nat.reduceSub, Nat.reduceDiv, Nat.reduceLT, Nat.reduceLeDiff, Nat.reduceEqDiff, Nat.reduceBEq, Int.reduceNeg, Int.reduceLT, Int.reduceLE, Int.reduceEq, Int.reduceToNat, (eq_false h1)]
/- 88 slices.Clone[[]int,int] -/
def hi88 : Hint where
  acts := fun _ => []
  draws := fun
    | _ => ⟨[], [], []⟩
theorem hi88a (i : Nat) : hi88.acts i = [] := rfl
theorem hi88v (i : Nat) : hi88.views i = none := rfl
attribute [go_sem] hi88a hi88v Go.Proofs.Try.ntmps88 Go.Proofs.Try.results88
theorem c_slices_Clone_int {v0 : List Int} {res : List Int} (h : m_slices_Clone_int v0 = some res) : CallOk Go.Proofs.Try.prog 88 [.sl (rowsOf eI v0)] [] (.ref 20000 1 0 res.length) [(20000, 1, .row true (rowsOf eI res))] := by
  refine callOk_of (ra := [.home 2]) (md := mdT) hT (hi := hi88) Go.Proofs.Try.func88 rfl rfl (by decide +kernel) (by simp) ?_
  unfold m_slices_Clone_int at h
  rcases nilQ_some h with ⟨h1, h3, h2⟩ | ⟨h1, h3⟩
  · cases h3
    simp -implicitDefEqProofs -dsimp only [go_sem, ↓reduceIte, ↓dreduceIte, reduceCtorEq, Nat.reduceMul, Nat.reduceAdd, Nat.reduceSub, Nat.reduceDiv, Nat.reduceLT, Nat.reduceLeDiff, Nat.reduceEqDiff, Nat.reduceBEq, Int.reduceNeg, Int.reduceLT, Int.reduceLE, Int.reduceEq, Int.reduceToNat, h1]
  · obtain ⟨h4, h3⟩ := chk_some h3
    obtain ⟨h5, h3⟩ := chk_some h3
    cases h3
    simp -implicitDefEqProofs -dsimp only [go_sem, ↓reduceIte, ↓dreduceIte, reduceCtorEq, Nat.reduceMul, Nat.reduceAdd, Nat.reduceSub, Nat.reduceDiv, Nat.reduceLT, Nat.reduceLeDiff, Nat.reduceEqDiff, Nat.reduceBEq, Int.reduceNeg, Int.reduceLT, Int.reduceLE, Int.reduceEq, Int.reduceToNat, evIsNil_ne h1, (eq_true h4), (eq_true h5)]
/- 146 slices.Index[[]int,int] -/
def m_slices_Index_int_L1_St (v0 : List Int) (v1 : Int) (v7 : Int) (v8 : Int) : St := ⟨[(0, .sl (rowsOf eI v0)), (1, .lit (.int .i64 v1)), (7, .lit (.int .i64 v7)), (8, .lit (.int .i64 v8))], [], 2⟩
attribute [go_sem] m_slices_Index_int_L1_St
def hi146 : Hint where
  acts := fun _ => []
  draws := fun
    | _ => ⟨[], [], []⟩
theorem hi146a (i : Nat) : hi146.acts i = [] := rfl
theorem hi146v (i : Nat) : hi146.views i = none := rfl
attribute [go_sem] hi146a hi146v Go.Proofs.Try.ntmps146 Go.Proofs.Try.results146
theorem c_slices_Index_int {v0 : List Int} {v1 : Int} {res : Int} (h : m_slices_Index_int v0 v1 = some res) : CallOk Go.Proofs.Try.prog 146 [.sl (rowsOf eI v0), .lit (.int .i64 v1)] [] (.lit (.int .i64 res)) [] := by
  refine callOk_of (ra := []) (md := mdT) hT (hi := hi146) Go.Proofs.Try.func146 rfl rfl (by decide +kernel) (by simp) ?_
  unfold m_slices_Index_int at h
  obtain ⟨q1002, l1, h⟩ := obnd_some h
  simp -implicitDefEqProofs -dsimp only [go_sem, ↓reduceIte, ↓dreduceIte, reduceCtorEq, Nat.reduceMul, Nat.reduceAdd, Nat.reduceSub, Nat.reduceDiv, Nat.reduceLT, Nat.reduceLeDiff, Nat.reduceEqDiff, Nat.reduceBEq, Int.reduceNeg, Int.reduceLT, Int.reduceLE, Int.reduceEq, Int.reduceToNat]
  refine loopW_loopO (m1 := .mk) (m2 := .mk) [.nf [0, 1, 7, 8] []] (m_slices_Index_int_L1_St v0 v1 ((v0.length : Nat) : Int)) l1 ?_ ?_
  · simp -implicitDefEqProofs -dsimp only [go_sem, ↓reduceIte, ↓dreduceIte, reduceCtorEq, Nat.reduceMul, Nat.reduceAdd, Nat.reduceSub, Nat.reduceDiv, Nat.reduceLT, Nat.reduceLeDiff, Nat.reduceEqDiff, Nat.reduceBEq, Int.reduceNeg, Int.reduceLT, Int.reduceLE, Int.reduceEq, Int.reduceToNat]
  · intro nb2 sb2 bb2 b2 gb2
    obtain ⟨v8_1, eb2⟩ : ∃ v, v = sb2 := ⟨_, rfl⟩; subst eb2
    unfold m_slices_Index_int_L1 at b2
    try dsimp only at b2
    rcases ite_some b2 with ⟨h3, b2⟩ | ⟨h3, b2⟩
    · obtain ⟨x1001, g4, b2⟩ := obnd_some b2
      obtain ⟨h5, h6, h7⟩ := getI_some g4
      rcases ite_some b2 with ⟨h8, b2⟩ | ⟨h8, b2⟩
      · cases b2
        have e9 := done_of gb2
        subst e9
        try dsimp only at h
        cases h
        simp -implicitDefEqProofs -dsimp only [go_sem, ↓reduceIte, ↓dreduceIte, reduceCtorEq, Nat.reduceMul, Nat.reduceAdd, Nat.reduceSub, Nat.reduceDiv, Nat.reduceLT, Nat.reduceLeDiff, Nat.reduceEqDiff, Nat.reduceBEq, Int.reduceNeg, Int.reduceLT, Int.reduceLE, Int.reduceEq, Int.reduceToNat, (eq_true h3), h5, h6, h7, (eq_true h8)]
      · cases b2
        simp -implicitDefEqProofs -dsimp only [go_sem, ↓reduceIte, ↓dreduceIte, reduceCtorEq, Nat.reduceMul, Nat.reduceAdd, Nat.reduceSub, Nat.reduceDiv, Nat.reduceLT, Nat.reduceLeDiff, Nat.reduceEqDiff, Nat.reduceBEq, Int.reduceNeg, Int.reduceLT, Int.reduceLE, Int.reduceEq, Int.reduceToNat, (eq_true h3), h5, h6, h7, (eq_false h8)]
        refine next_of gb2 ?_
        simp -implicitDefEqProofs -dsimp only [go_sem, ↓reduceIte, ↓dreduceIte, reduceCtorEq, Nat.reduceMul, Nat.reduceAdd, Nat.reduceSub, Nat.reduceDiv, Nat.reduceLT, Nat.reduceLeDiff, Nat.reduceEqDiff, Nat.reduceBEq, Int.reduceNeg, Int.reduceLT, Int.reduceLE, Int.reduceEq, Int.reduceToNat, (eq_true h3), h5, h6, h7, (eq_false h8)]
    · cases b2
      have e10 := done_of gb2
      subst e10
      try dsimp only at h
      cases h
      simp -implicitDefEqProofs -dsimp only [go_sem, ↓reduceIte, ↓dreduceIte, reduceCtorEq, Nat.reduceMul, Nat.reduceAdd, Nat.reduceSub, Nat.reduceDiv, Nat.reduceLT, Nat.reduceLeDiff, Nat.reduceEqDiff, Nat.reduceBEq, Int.reduceNeg, Int.reduceLT, Int.reduceLE, Int.reduceEq, Int.reduceToNat, (eq_false h3)]
/- 89 slices.Contains[[]int,int] -/
def hi89 : Hint where
  acts := fun _ => []
  draws := fun
    | _ => ⟨[], [], []⟩
theorem hi89a (i : Nat) : hi89.acts i = [] := rfl
theorem hi89v (i : Nat) : hi89.views i = none := rfl
attribute [go_sem] hi89a hi89v Go.Proofs.Try.ntmps89 Go.Proofs.Try.results89
theorem c_slices_Contains_int {v0 : List Int} {v1 : Int} {res : Bool} (h : m_slices_Contains_int v0 v1 = some res) : CallOk Go.Proofs.Try.prog 89 [.sl (rowsOf eI v0), .lit (.int .i64 v1)] [] (.lit (.bool res)) [] := by
  refine callOk_of (ra := []) (md := mdT) hT (hi := hi89) Go.Proofs.Try.func89 rfl rfl (by decide +kernel) (by simp) ?_
  unfold m_slices_Contains_int at h
  obtain ⟨r1001, g1, h⟩ := obnd_some h
  simp -implicitDefEqProofs -dsimp only [go_sem, ↓reduceIte, ↓dreduceIte, reduceCtorEq, Nat.reduceMul, Nat.reduceAdd, Nat.reduceSub, Nat.reduceDiv, Nat.reduceLT, Nat.reduceLeDiff, Nat.reduceEqDiff, Nat.reduceBEq, Int.reduceNeg, Int.reduceLT, Int.reduceLE, Int.reduceEq, Int.reduceToNat]
  refine callW_of (c_slices_Index_int g1) ?_
  cases h
  simp -implicitDefEqProofs -dsimp only [go_sem, ↓reduceIte, ↓dreduceIte, reduceCtorEq, Nat.reduceMul, Nat.reduceAdd, Nat.reduceSub, Nat.reduceDiv, Nat.reduceLT, Nat.reduceLeDiff, Nat.reduceEqDiff, Nat.reduceBEq, Int.reduceNeg, Int.reduceLT, Int.reduceLE, Int.reduceEq, Int.reduceToNat]
/- 22 loop.example/g00827/impl.ShiftTimes -/
def m_impl_ShiftTimes_L1_St (second : List Int) (by_ : Int) (v20 : List Int) (v21 : Int) : (Int × (List Int)) → St
  | (v22, out) => ⟨[(2, .sl (rowsOf eI second)), (3, .lit (.int .i64 by_)), (9, .ref 1216 1 0 out.length), (20, .sl (rowsOf eI v20)), (21, .lit (.int .i64 v21)), (22, .lit (.int .i64 v22))], [(1216, 1, .row true (rowsOf eI out))], 2⟩
attribute [go_sem] m_impl_ShiftTimes_L1_St
def hi22 : Hint where
  acts := fun _ => []
  draws := fun
    | _ => ⟨[], [], []⟩
theorem hi22a (i : Nat) : hi22.acts i = [] := rfl
theorem hi22v (i : Nat) : hi22.views i = none := rfl
attribute [go_sem] hi22a hi22v Go.Proofs.Try.ntmps22 Go.Proofs.Try.results22
theorem c_impl_ShiftTimes {s : GShow} {times : List Int} {second : List Int} {by_ : Int} {res : List Int} (h : m_impl_ShiftTimes s times second by_ = some res) : CallOk Go.Proofs.Try.prog 22 [.agg [.sl (rowsOf GNode.encS s.nodes), .sl (rowsOf GTie.enc s.ties), .lit (.int .i64 s.horizon)], .sl (rowsOf eI times), .sl (rowsOf eI second), .lit (.int .i64 by_)] [] (.ref 20000 1 0 res.length) [(20000, 1, .row true (rowsOf eI res))] := by
  refine callOk_of (ra := [.home 8]) (md := mdT) hT (hi := hi22) Go.Proofs.Try.func22 rfl rfl (by decide +kernel) (by simp) ?_
  unfold m_impl_ShiftTimes at h
  rcases ite_some h with ⟨h1, h⟩ | ⟨h1, h⟩
  · obtain ⟨r1001, g2, h⟩ := obnd_some h
    simp -implicitDefEqProofs -dsimp only [go_sem, ↓reduceIte, ↓dreduceIte, reduceCtorEq, Nat.reduceMul, Nat.reduceAdd, Nat.reduceSub, Nat.reduceDiv, Nat.reduceLT, Nat.reduceLeDiff, Nat.reduceEqDiff, Nat.reduceBEq, Int.reduceNeg, Int.reduceLT, Int.reduceLE, Int.reduceEq, Int.reduceToNat, (eq_true h1)]
    refine callW_of (c_slices_Clone_int g2) ?_
    obtain ⟨q1005, l3, h⟩ := obnd_some h
    simp -implicitDefEqProofs -dsimp only [go_sem, ↓reduceIte, ↓dreduceIte, reduceCtorEq, Nat.reduceMul, Nat.reduceAdd, Nat.reduceSub, Nat.reduceDiv, Nat.reduceLT, Nat.reduceLeDiff, Nat.reduceEqDiff, Nat.reduceBEq, Int.reduceNeg, Int.reduceLT, Int.reduceLE, Int.reduceEq, Int.reduceToNat, (eq_true h1)]
    refine loopW_loopO (m1 := .mk) (m2 := .mk) [.nf [2, 3, 9, 20, 21, 22] [1216]] (m_impl_ShiftTimes_L1_St second by_ times ((times.length : Nat) : Int)) l3 ?_ ?_
    · simp -implicitDefEqProofs -dsimp only [go_sem, ↓reduceIte, ↓dreduceIte, reduceCtorEq, Nat.reduceMul, Nat.reduceAdd, Nat.reduceSub, Nat.reduceDiv, Nat.reduceLT, Nat.reduceLeDiff, Nat.reduceEqDiff, Nat.reduceBEq, Int.reduceNeg, Int.reduceLT, Int.reduceLE, Int.reduceEq, Int.reduceToNat, (eq_true h1)]
    · intro nb4 sb4 bb4 b4 gb4
      obtain ⟨v22_1, out_1⟩ := sb4
      unfold m_impl_ShiftTimes_L1 at b4
      try dsimp only at b4
      rcases ite_some b4 with ⟨h5, b4⟩ | ⟨h5, b4⟩
      · obtain ⟨x1002, g6, b4⟩ := obnd_some b4
        obtain ⟨h7, h8, h9⟩ := getI_some g6
        rcases ite_some b4 with ⟨h10, b4⟩ | ⟨h10, b4⟩
        · cases b4
          simp -implicitDefEqProofs -dsimp only [go_sem, ↓reduceIte, ↓dreduceIte, reduceCtorEq, Nat.reduceMul, Nat.reduceAdd, Nat.reduceSub, Nat.reduceDiv, Nat.reduceLT, Nat.reduceLeDiff, Nat.reduceEqDiff, Nat.reduceBEq, Int.reduceNeg, Int.reduceLT, Int.reduceLE, Int.reduceEq, Int.reduceToNat, (eq_true h1), (eq_true h5), h7, h8, h9, (eq_true h10)]
          refine next_of gb4 ?_
          simp -implicitDefEqProofs -dsimp only [go_sem, ↓reduceIte, ↓dreduceIte, reduceCtorEq, Nat.reduceMul, Nat.reduceAdd, Nat.reduceSub, Nat.reduceDiv, Nat.reduceLT, Nat.reduceLeDiff, Nat.reduceEqDiff, Nat.reduceBEq, Int.reduceNeg, Int.reduceLT, Int.reduceLE, Int.reduceEq, Int.reduceToNat, (eq_true h1), (eq_true h5), h7, h8, h9, (eq_true h10)]
        · obtain ⟨r1003, g11, b4⟩ := obnd_some b4
          simp -implicitDefEqProofs -dsimp only [go_sem, ↓reduceIte, ↓dreduceIte, reduceCtorEq, Nat.reduceMul, Nat.reduceAdd, Nat.reduceSub, Nat.reduceDiv, Nat.reduceLT, Nat.reduceLeDiff, Nat.reduceEqDiff, Nat.reduceBEq, Int.reduceNeg, Int.reduceLT, Int.reduceLE, Int.reduceEq, Int.reduceToNat, (eq_true h1), (eq_true h5), h7, h8, h9, (eq_false h10)]
          refine callW_of (c_slices_Contains_int g11) ?_
          rcases ite_some b4 with ⟨h12, b4⟩ | ⟨h12, b4⟩
          · obtain ⟨x1004, g13, b4⟩ := obnd_some b4
            obtain ⟨h14, h15, h16⟩ := getI_some g13
            cases b4
            simp -implicitDefEqProofs -dsimp only [go_sem, ↓reduceIte, ↓dreduceIte, reduceCtorEq, Nat.reduceMul, Nat.reduceAdd, Nat.reduceSub, Nat.reduceDiv, Nat.reduceLT, Nat.reduceLeDiff, Nat.reduceEqDiff, Nat.reduceBEq, Int.reduceNeg, Int.reduceLT, Int.reduceLE, Int.reduceEq, Int.reduceToNat, (eq_true h1), (eq_true h5), h7, h8, h9, (eq_false h10), (eq_true h12), (condZ_t h12), h14, h15, h16]
            refine next_of gb4 ?_
            simp -implicitDefEqProofs -dsimp only [go_sem, ↓reduceIte, ↓dreduceIte, reduceCtorEq, Nat.reduceMul, Nat.reduceAdd, Nat.reduceSub, Nat.reduceDiv, Nat.reduceLT, Nat.reduceLeDiff, Nat.reduceEqDiff, Nat.reduceBEq, Int.reduceNeg, Int.reduceLT, Int.reduceLE, Int.reduceEq, Int.reduceToNat, (eq_true h1), (eq_true h5), h7, h8, h9, (eq_false h10), (eq_true h12), (condZ_t h12), h14, h15, h16]
          · cases b4
            simp -implicitDefEqProofs -dsimp only [go_sem, ↓reduceIte, ↓dreduceIte, reduceCtorEq, Nat.reduceMul, Nat.reduceAdd, Nat.reduceSub, Nat.reduceDiv, Nat.reduceLT, Nat.reduceLeDiff, Nat.reduceEqDiff, Nat.reduceBEq, Int.reduceNeg, Int.reduceLT, Int.reduceLE, Int.reduceEq, Int.reduceToNat, (eq_true h1), (eq_true h5), h7, h8, h9, (eq_false h10), (eq_false h12), (condZ_f h12)]
            refine next_of gb4 ?_
            simp -implicitDefEqProofs -dsimp only [go_sem, ↓reduceIte, ↓dreduceIte, reduceCtorEq, Nat.reduceMul, Nat.reduceAdd, Nat.reduceSub, Nat.reduceDiv, Nat.reduceLT, Nat.reduceLeDiff, Nat.reduceEqDiff, Nat.reduceBEq, Int.reduceNeg, Int.reduceLT, Int.reduceLE, Int.reduceEq, Int.reduceToNat, (eq_true h1), (eq_true h5), h7, h8, h9, (eq_false h10), (eq_false h12), (condZ_f h12)]
      · cases b4
        have e17 := done_of gb4
        subst e17
        try dsimp only at h
        cases h
        simp -implicitDefEqProofs -dsimp only [go_sem, ↓reduceIte, ↓dreduceIte, reduceCtorEq, Nat.reduceMul, Nat.reduceAdd, Nat.reduceSub, Nat.reduceDiv, Nat.reduceLT, Nat.reduceLeDiff, Nat.reduceEqDiff, Nat.reduceBEq, Int.reduceNeg, Int.reduceLT, Int.reduceLE, Int.reduceEq, Int.reduceToNat, (eq_true h1), (eq_false h5)]
  · cases h
    simp -implicitDefEqProofs -dsimp only [go_sem, ↓reduceIte, ↓dreduceIte, reduceCtorEq, Nat.reduceMul, Nat.reduceAdd, Nat.reduceSub, Nat.reduceDiv, Nat.reduceLT, Nat.reduceLeDiff, Nat.reduceEqDiff, Nat.reduceBEq, Int.reduceNeg, Int.reduceLT, Int.reduceLE, Int.reduceEq, Int.reduceToNat, (eq_false h1)]
/- 23 loop.example/g00827/laws.eqIntS -/
def m_laws_eqIntS_L1_St (a : List Int) (b : List Int) (i : Int) : St := ⟨[(0, .sl (rowsOf eI a)), (1, .sl (rowsOf eI b)), (5, .lit (.int .i64 i))], [], 2⟩
attribute [go_sem] m_laws_eqIntS_L1_St
def hi23 : Hint where
  acts := fun _ => []
  draws := fun
    | 6 => ⟨[⟨0, false, []⟩, ⟨1, false, []⟩, ⟨2, false, []⟩, ⟨3, false, []⟩, ⟨4, false, []⟩, ⟨5, false, []⟩, ⟨6, false, []⟩, ⟨7, false, []⟩, ⟨8, false, []⟩], [[], [], [0, 1], [0, 1, 2], [], [], [4, 5], [4, 5, 6], [0, 1, 2, 3, 4, 5, 6, 7]], [0, 1, 2, 3, 4, 5, 6, 7, 8]⟩
    | _ => ⟨[], [], []⟩
theorem hi23a (i : Nat) : hi23.acts i = [] := rfl
theorem hi23v (i : Nat) : hi23.views i = none := rfl
attribute [go_sem] hi23a hi23v Go.Proofs.Try.ntmps23 Go.Proofs.Try.results23
@[go_sem] theorem hi23d6 : (hi23.draws 6).order = [⟨0, false, []⟩, ⟨1, false, []⟩, ⟨2, false, []⟩, ⟨3, false, []⟩, ⟨4, false, []⟩, ⟨5, false, []⟩, ⟨6, false, []⟩, ⟨7, false, []⟩, ⟨8, false, []⟩] := rfl
theorem c_laws_eqIntS {a : List Int} {b : List Int} {res : Bool} (h : m_laws_eqIntS a b = some res) : CallOk Go.Proofs.Try.prog 23 [.sl (rowsOf eI a), .sl (rowsOf eI b)] [] (.lit (.bool res)) [] := by
  refine callOk_of (ra := []) (md := mdT) hT (hi := hi23) Go.Proofs.Try.func23 rfl rfl (by decide +kernel) (by simp) ?_
  unfold m_laws_eqIntS at h
  rcases ite_some h with ⟨h1, h⟩ | ⟨h1, h⟩
  · obtain ⟨q1003, l2, h⟩ := obnd_some h
    simp -implicitDefEqProofs -dsimp only [go_sem, ↓reduceIte, ↓dreduceIte, reduceCtorEq, Nat.reduceMul, Nat.reduceAdd, Nat.reduceSub, Nat.reduceDiv, Nat.reduceLT, Nat.reduceLeDiff, Nat.reduceEqDiff, Nat.reduceBEq, Int.reduceNeg, Int.reduceLT, Int.reduceLE, Int.reduceEq, Int.reduceToNat, (eq_true h1)]
    refine loopW_loopO (m1 := .mk) (m2 := .mk) [.nf [0, 1, 5] []] (m_laws_eqIntS_L1_St a b) l2 ?_ ?_
    · simp -implicitDefEqProofs -dsimp only [go_sem, ↓reduceIte, ↓dreduceIte, reduceCtorEq, Nat.reduceMul, Nat.reduceAdd, Nat.reduceSub, Nat.reduceDiv, Nat.reduceLT, Nat.reduceLeDiff, Nat.reduceEqDiff, Nat.reduceBEq, Int.reduceNeg, Int.reduceLT, Int.reduceLE, Int.reduceEq, Int.reduceToNat, (eq_true h1)]
    · intro nb3 sb3 bb3 b3 gb3
      obtain ⟨i_1, eb3⟩ : ∃ v, v = sb3 := ⟨_, rfl⟩; subst eb3
      unfold m_laws_eqIntS_L1 at b3
      try dsimp only at b3
      rcases ite_some b3 with ⟨h4, b3⟩ | ⟨h4, b3⟩
      · obtain ⟨x1001, g5, b3⟩ := obnd_some b3
        obtain ⟨h6, h7, h8⟩ := getI_some g5
        obtain ⟨x1002, g9, b3⟩ := obnd_some b3
        obtain ⟨h10, h11, h12⟩ := getI_some g9
        rcases ite_some b3 with ⟨h13, b3⟩ | ⟨h13, b3⟩
        · cases b3
          simp -implicitDefEqProofs -dsimp only [go_sem, ↓reduceIte, ↓dreduceIte, reduceCtorEq, Nat.reduceMul, Nat.reduceAdd, Nat.reduceSub, Nat.reduceDiv, Nat.reduceLT, Nat.reduceLeDiff, Nat.reduceEqDiff, Nat.reduceBEq, Int.reduceNeg, Int.reduceLT, Int.reduceLE, Int.reduceEq, Int.reduceToNat, (eq_true h1), (eq_true h4), h6, h7, h8, h10, h11, h12, (eq_true h13)]
          refine next_of gb3 ?_
          simp -implicitDefEqProofs -dsimp only [go_sem, ↓reduceIte, ↓dreduceIte, reduceCtorEq, Nat.reduceMul, Nat.reduceAdd, Nat.reduceSub, Nat.reduceDiv, Nat.reduceLT, Nat.reduceLeDiff, Nat.reduceEqDiff, Nat.reduceBEq, Int.reduceNeg, Int.reduceLT, Int.reduceLE, Int.reduceEq, Int.reduceToNat, (eq_true h1), (eq_true h4), h6, h7, h8, h10, h11, h12, (eq_true h13)]
        · cases b3
          have e14 := done_of gb3
          subst e14
          try dsimp only at h
          cases h
          simp -implicitDefEqProofs -dsimp only [go_sem, ↓reduceIte, ↓dreduceIte, reduceCtorEq, Nat.reduceMul, Nat.reduceAdd, Nat.reduceSub, Nat.reduceDiv, Nat.reduceLT, Nat.reduceLeDiff, Nat.reduceEqDiff, Nat.reduceBEq, Int.reduceNeg, Int.reduceLT, Int.reduceLE, Int.reduceEq, Int.reduceToNat, (eq_true h1), (eq_true h4), h6, h7, h8, h10, h11, h12, (eq_false h13)]
      · cases b3
        have e15 := done_of gb3
        subst e15
        try dsimp only at h
        cases h
        simp -implicitDefEqProofs -dsimp only [go_sem, ↓reduceIte, ↓dreduceIte, reduceCtorEq, Nat.reduceMul, Nat.reduceAdd, Nat.reduceSub, Nat.reduceDiv, Nat.reduceLT, Nat.reduceLeDiff, Nat.reduceEqDiff, Nat.reduceBEq, Int.reduceNeg, Int.reduceLT, Int.reduceLE, Int.reduceEq, Int.reduceToNat, (eq_true h1), (eq_false h4)]
  · cases h
    simp -implicitDefEqProofs -dsimp only [go_sem, ↓reduceIte, ↓dreduceIte, reduceCtorEq, Nat.reduceMul, Nat.reduceAdd, Nat.reduceSub, Nat.reduceDiv, Nat.reduceLT, Nat.reduceLeDiff, Nat.reduceEqDiff, Nat.reduceBEq, Int.reduceNeg, Int.reduceLT, Int.reduceLE, Int.reduceEq, Int.reduceToNat, (eq_false h1)]
/- 155 loop.example/g00827/laws.eqNode -/
def hi155 : Hint where
  acts := fun _ => []
  draws := fun
    | _ => ⟨[], [], []⟩
theorem hi155a (i : Nat) : hi155.acts i = [] := rfl
theorem hi155v (i : Nat) : hi155.views i = none := rfl
attribute [go_sem] hi155a hi155v Go.Proofs.Try.ntmps155 Go.Proofs.Try.results155
theorem c_laws_eqNode {a : GNode} {b : GNode} {res : Bool} (h : m_laws_eqNode a b = some res) : CallOk Go.Proofs.Try.prog 155 [.agg [.lit (.string a.name), .sl (rowsOf eI a.label), .lit (.int .i64 a.watch)], .agg [.lit (.string b.name), .sl (rowsOf eI b.label), .lit (.int .i64 b.watch)]] [] (.lit (.bool res)) [] := by
  refine callOk_of (ra := []) (md := mdT) hT (hi := hi155) Go.Proofs.Try.func155 rfl rfl (by decide +kernel) (by simp) ?_
  unfold m_laws_eqNode at h
  rcases ite_some h with ⟨h1, h⟩ | ⟨h1, h⟩
  · obtain ⟨r1001, g2, h⟩ := obnd_some h
    simp -implicitDefEqProofs -dsimp only [go_sem, ↓reduceIte, ↓dreduceIte, reduceCtorEq, Nat.reduceMul, Nat.reduceAdd, Nat.reduceSub, Nat.reduceDiv, Nat.reduceLT, Nat.reduceLeDiff, Nat.reduceEqDiff, Nat.reduceBEq, Int.reduceNeg, Int.reduceLT, Int.reduceLE, Int.reduceEq, Int.reduceToNat, (eq_true h1)]
    refine callW_of (c_laws_eqIntS g2) ?_
    rcases ite_some h with ⟨h3, h⟩ | ⟨h3, h⟩
    · rcases ite_some h with ⟨h4, h⟩ | ⟨h4, h⟩
      · cases h
        simp -implicitDefEqProofs -dsimp only [go_sem, ↓reduceIte, ↓dreduceIte, reduceCtorEq, Nat.reduceMul, Nat.reduceAdd, Nat.reduceSub, Nat.reduceDiv, Nat.reduceLT, Nat.reduceLeDiff, Nat.reduceEqDiff, Nat.reduceBEq, Int.reduceNeg, Int.reduceLT, Int.reduceLE, Int.reduceEq, Int.reduceToNat, (eq_true h1), (eq_true h3), (condZ_t h3), (eq_true h4)]
      · cases h
        simp -implicitDefEqProofs -dsimp only [go_sem, ↓reduceIte, ↓dreduceIte, reduceCtorEq, Nat.reduceMul, Nat.reduceAdd, Nat.reduceSub, Nat.reduceDiv, Nat.reduceLT, Nat.reduceLeDiff, Nat.reduceEqDiff, Nat.reduceBEq, Int.reduceNeg, Int.reduceLT, Int.reduceLE, Int.reduceEq, Int.reduceToNat, (eq_true h1), (eq_true h3), (condZ_t h3), (eq_false h4)]
    · cases h
      simp -implicitDefEqProofs -dsimp only [go_sem, ↓reduceIte, ↓dreduceIte, reduceCtorEq, Nat.reduceMul, Nat.reduceAdd, Nat.reduceSub, Nat.reduceDiv, Nat.reduceLT, Nat.reduceLeDiff, Nat.reduceEqDiff, Nat.reduceBEq, Int.reduceNeg, Int.reduceLT, Int.reduceLE, Int.reduceEq, Int.reduceToNat, (eq_true h1), (eq_false h3), (condZ_f h3)]
  · cases h
    simp -implicitDefEqProofs -dsimp only [go_sem, ↓reduceIte, ↓dreduceIte, reduceCtorEq, Nat.reduceMul, Nat.reduceAdd, Nat.reduceSub, Nat.reduceDiv, Nat.reduceLT, Nat.reduceLeDiff, Nat.reduceEqDiff, Nat.reduceBEq, Int.reduceNeg, Int.reduceLT, Int.reduceLE, Int.reduceEq, Int.reduceToNat, (eq_false h1)]
/- 90 loop.example/g00827/laws.eqNodeS -/
def m_laws_eqNodeS_L1_St (a : List GNode) (b : List GNode) (i : Int) : St := ⟨[(0, .sl (rowsOf GNode.encS a)), (1, .sl (rowsOf GNode.encS b)), (5, .lit (.int .i64 i))], [], 2⟩
attribute [go_sem] m_laws_eqNodeS_L1_St
def hi90 : Hint where
  acts := fun _ => []
  draws := fun
    | 6 => ⟨[⟨0, false, []⟩, ⟨1, false, []⟩, ⟨2, false, []⟩, ⟨3, false, []⟩, ⟨4, false, []⟩, ⟨5, false, []⟩, ⟨6, false, []⟩, ⟨7, false, []⟩, ⟨8, false, []⟩, ⟨9, false, []⟩], [[], [], [0, 1], [0, 1, 2], [], [], [4, 5], [4, 5, 6], [0, 1, 2, 3, 4, 5, 6, 7], [0, 1, 2, 3, 4, 5, 6, 7, 8]], [0, 1, 2, 3, 4, 5, 6, 7, 8, 9]⟩
    | _ => ⟨[], [], []⟩
theorem hi90a (i : Nat) : hi90.acts i = [] := rfl
theorem hi90v (i : Nat) : hi90.views i = none := rfl
attribute [go_sem] hi90a hi90v Go.Proofs.Try.ntmps90 Go.Proofs.Try.results90
@[go_sem] theorem hi90d6 : (hi90.draws 6).order = [⟨0, false, []⟩, ⟨1, false, []⟩, ⟨2, false, []⟩, ⟨3, false, []⟩, ⟨4, false, []⟩, ⟨5, false, []⟩, ⟨6, false, []⟩, ⟨7, false, []⟩, ⟨8, false, []⟩, ⟨9, false, []⟩] := rfl
theorem c_laws_eqNodeS {a : List GNode} {b : List GNode} {res : Bool} (h : m_laws_eqNodeS a b = some res) : CallOk Go.Proofs.Try.prog 90 [.sl (rowsOf GNode.encS a), .sl (rowsOf GNode.encS b)] [] (.lit (.bool res)) [] := by
  refine callOk_of (ra := []) (md := mdT) hT (hi := hi90) Go.Proofs.Try.func90 rfl rfl (by decide +kernel) (by simp) ?_
  unfold m_laws_eqNodeS at h
  rcases ite_some h with ⟨h1, h⟩ | ⟨h1, h⟩
  · obtain ⟨q1004, l2, h⟩ := obnd_some h
    simp -implicitDefEqProofs -dsimp only [go_sem, ↓reduceIte, ↓dreduceIte, reduceCtorEq, Nat.reduceMul, Nat.reduceAdd, Nat.reduceSub, Nat.reduceDiv, Nat.reduceLT, Nat.reduceLeDiff, Nat.reduceEqDiff, Nat.reduceBEq, Int.reduceNeg, Int.reduceLT, Int.reduceLE, Int.reduceEq, Int.reduceToNat, (eq_true h1)]
    refine loopW_loopO (m1 := .mk) (m2 := .mk) [.nf [0, 1, 5] []] (m_laws_eqNodeS_L1_St a b) l2 ?_ ?_
    · simp -implicitDefEqProofs -dsimp only [go_sem, ↓reduceIte, ↓dreduceIte, reduceCtorEq, Nat.reduceMul, Nat.reduceAdd, Nat.reduceSub, Nat.reduceDiv, Nat.reduceLT, Nat.reduceLeDiff, Nat.reduceEqDiff, Nat.reduceBEq, Int.reduceNeg, Int.reduceLT, Int.reduceLE, Int.reduceEq, Int.reduceToNat, (eq_true h1)]
    · intro nb3 sb3 bb3 b3 gb3
      obtain ⟨i_1, eb3⟩ : ∃ v, v = sb3 := ⟨_, rfl⟩; subst eb3
      unfold m_laws_eqNodeS_L1 at b3
      try dsimp only at b3
      rcases ite_some b3 with ⟨h4, b3⟩ | ⟨h4, b3⟩
      · obtain ⟨x1001, g5, b3⟩ := obnd_some b3
        obtain ⟨h6, h7, h8⟩ := getI_some g5
        obtain ⟨x1002, g9, b3⟩ := obnd_some b3
        obtain ⟨h10, h11, h12⟩ := getI_some g9
        obtain ⟨r1003, g13, b3⟩ := obnd_some b3
        simp -implicitDefEqProofs -dsimp only [go_sem, ↓reduceIte, ↓dreduceIte, reduceCtorEq, Nat.reduceMul, Nat.reduceAdd, Nat.reduceSub, Nat.reduceDiv, Nat.reduceLT, Nat.reduceLeDiff, Nat.reduceEqDiff, Nat.reduceBEq, Int.reduceNeg, Int.reduceLT, Int.reduceLE, Int.reduceEq, Int.reduceToNat, (eq_true h1), (eq_true h4), h6, h7, h8, h10, h11, h12]
        refine callW_of (c_laws_eqNode g13) ?_
        rcases ite_some b3 with ⟨h14, b3⟩ | ⟨h14, b3⟩
        · cases b3
          simp -implicitDefEqProofs -dsimp only [go_sem, ↓reduceIte, ↓dreduceIte, reduceCtorEq, Nat.reduceMul, Nat.reduceAdd, Nat.reduceSub, Nat.reduceDiv, Nat.reduceLT, Nat.reduceLeDiff, Nat.reduceEqDiff, Nat.reduceBEq, Int.reduceNeg, Int.reduceLT, Int.reduceLE, Int.reduceEq, Int.reduceToNat, (eq_true h1), (eq_true h4), h6, h7, h8, h10, h11, h12, (eq_true h14), (condZ_t h14)]
          refine next_of gb3 ?_
          simp -implicitDefEqProofs -dsimp only [go_sem, ↓reduceIte, ↓dreduceIte, reduceCtorEq, Nat.reduceMul, Nat.reduceAdd, Nat.reduceSub, Nat.reduceDiv, Nat.reduceLT, Nat.reduceLeDiff, Nat.reduceEqDiff, Nat.reduceBEq, Int.reduceNeg, Int.reduceLT, Int.reduceLE, Int.reduceEq, Int.reduceToNat, (eq_true h1), (eq_true h4), h6, h7, h8, h10, h11, h12, (eq_true h14), (condZ_t h14)]
        · cases b3
          have e15 := done_of gb3
          subst e15
          try dsimp only at h
          cases h
          simp -implicitDefEqProofs -dsimp only [go_sem, ↓reduceIte, ↓dreduceIte, reduceCtorEq, Nat.reduceMul, Nat.reduceAdd, Nat.reduceSub, Nat.reduceDiv, Nat.reduceLT, Nat.reduceLeDiff, Nat.reduceEqDiff, Nat.reduceBEq, Int.reduceNeg, Int.reduceLT, Int.reduceLE, Int.reduceEq, Int.reduceToNat, (eq_true h1), (eq_true h4), h6, h7, h8, h10, h11, h12, (eq_false h14), (condZ_f h14)]
      · cases b3
        have e16 := done_of gb3
        subst e16
        try dsimp only at h
        cases h
        simp -implicitDefEqProofs -dsimp only [go_sem, ↓reduceIte, ↓dreduceIte, reduceCtorEq, Nat.reduceMul, Nat.reduceAdd, Nat.reduceSub, Nat.reduceDiv, Nat.reduceLT, Nat.reduceLeDiff, Nat.reduceEqDiff, Nat.reduceBEq, Int.reduceNeg, Int.reduceLT, Int.reduceLE, Int.reduceEq, Int.reduceToNat, (eq_true h1), (eq_false h4)]
  · cases h
    simp -implicitDefEqProofs -dsimp only [go_sem, ↓reduceIte, ↓dreduceIte, reduceCtorEq, Nat.reduceMul, Nat.reduceAdd, Nat.reduceSub, Nat.reduceDiv, Nat.reduceLT, Nat.reduceLeDiff, Nat.reduceEqDiff, Nat.reduceBEq, Int.reduceNeg, Int.reduceLT, Int.reduceLE, Int.reduceEq, Int.reduceToNat, (eq_false h1)]
/- 156 loop.example/g00827/laws.eqTie -/
def hi156 : Hint where
  acts := fun _ => []
  draws := fun
    | _ => ⟨[], [], []⟩
theorem hi156a (i : Nat) : hi156.acts i = [] := rfl
theorem hi156v (i : Nat) : hi156.views i = none := rfl
attribute [go_sem] hi156a hi156v Go.Proofs.Try.ntmps156 Go.Proofs.Try.results156
theorem c_laws_eqTie {a : GTie} {b : GTie} {res : Bool} (h : m_laws_eqTie a b = some res) : CallOk Go.Proofs.Try.prog 156 [.agg [.lit (.int .i64 a.from_), .lit (.int .i64 a.to), .lit (.int .i64 a.low), .lit (.int .i64 a.high), .lit (.bool a.free)], .agg [.lit (.int .i64 b.from_), .lit (.int .i64 b.to), .lit (.int .i64 b.low), .lit (.int .i64 b.high), .lit (.bool b.free)]] [] (.lit (.bool res)) [] := by
  refine callOk_of (ra := []) (md := mdT) hT (hi := hi156) Go.Proofs.Try.func156 rfl rfl (by decide +kernel) (by simp) ?_
  unfold m_laws_eqTie at h
  rcases ite_some h with ⟨h1, h⟩ | ⟨h1, h⟩
  · rcases ite_some h with ⟨h2, h⟩ | ⟨h2, h⟩
    · rcases ite_some h with ⟨h3, h⟩ | ⟨h3, h⟩
      · rcases ite_some h with ⟨h4, h⟩ | ⟨h4, h⟩
        · rcases ite_some h with ⟨h5, h⟩ | ⟨h5, h⟩
          · cases h
            simp -implicitDefEqProofs -dsimp only [go_sem, ↓reduceIte, ↓dreduceIte, reduceCtorEq, Nat.reduceMul, Nat.reduceAdd, Nat.reduceSub, Nat.reduceDiv, Nat.reduceLT, Nat.reduceLeDiff, Nat.reduceEqDiff, Nat.reduceBEq, Int.reduceNeg, Int.reduceLT, Int.reduceLE, Int.reduceEq, Int.reduceToNat, (eq_true h1), (eq_true h2), (eq_true h3), (eq_true h4), (eq_true h5)]
          · cases h
            simp -implicitDefEqProofs -dsimp only [go_sem, ↓reduceIte, ↓dreduceIte, reduceCtorEq, Nat.reduceMul, Nat.reduceAdd, Nat.reduceSub, Nat.reduceDiv, Nat.reduceLT, Nat.reduceLeDiff, Nat.reduceEqDiff, Nat.reduceBEq, Int.reduceNeg, Int.reduceLT, Int.reduceLE, Int.reduceEq, Int.reduceToNat, (eq_true h1), (eq_true h2), (eq_true h3), (eq_true h4), (eq_false h5)]
        · cases h
          simp -implicitDefEqProofs -dsimp only [go_sem, ↓reduceIte, ↓dreduceIte, reduceCtorEq, Nat.reduceMul, Nat.reduceAdd, Nat.reduceSub, Nat.reduceDiv, Nat.reduceLT, Nat.reduceLeDiff, Nat.reduceEqDiff, Nat.reduceBEq, Int.reduceNeg, Int.reduceLT, Int.reduceLE, Int.reduceEq, Int.reduceToNat, (eq_true h1), (eq_true h2), (eq_true h3), (eq_false h4)]
      · cases h
        simp -implicitDefEqProofs -dsimp only [go_sem, ↓reduceIte, ↓dreduceIte, reduceCtorEq, Nat.reduceMul, Nat.reduceAdd, Nat.reduceSub, Nat.reduceDiv, Nat.reduceLT, Nat.reduceLeDiff, Nat.reduceEqDiff, Nat.reduceBEq, Int.reduceNeg, Int.reduceLT, Int.reduceLE, Int.reduceEq, Int.reduceToNat, (eq_true h1), (eq_true h2), (eq_false h3)]
    · cases h
      simp -implicitDefEqProofs -dsimp only [go_sem, ↓reduceIte, ↓dreduceIte, reduceCtorEq, Nat.reduceMul, Nat.reduceAdd, Nat.reduceSub, Nat.reduceDiv, Nat.reduceLT, Nat.reduceLeDiff, Nat.reduceEqDiff, Nat.reduceBEq, Int.reduceNeg, Int.reduceLT, Int.reduceLE, Int.reduceEq, Int.reduceToNat, (eq_true h1), (eq_false h2)]
  · cases h
    simp -implicitDefEqProofs -dsimp only [go_sem, ↓reduceIte, ↓dreduceIte, reduceCtorEq, Nat.reduceMul, Nat.reduceAdd, Nat.reduceSub, Nat.reduceDiv, Nat.reduceLT, Nat.reduceLeDiff, Nat.reduceEqDiff, Nat.reduceBEq, Int.reduceNeg, Int.reduceLT, Int.reduceLE, Int.reduceEq, Int.reduceToNat, (eq_false h1)]
/- 91 loop.example/g00827/laws.eqTieS -/
def m_laws_eqTieS_L1_St (a : List GTie) (b : List GTie) (i : Int) : St := ⟨[(0, .sl (rowsOf GTie.enc a)), (1, .sl (rowsOf GTie.enc b)), (5, .lit (.int .i64 i))], [], 2⟩
attribute [go_sem] m_laws_eqTieS_L1_St
def hi91 : Hint where
  acts := fun _ => []
  draws := fun
    | 6 => ⟨[⟨0, false, []⟩, ⟨1, false, []⟩, ⟨2, false, []⟩, ⟨3, false, []⟩, ⟨4, false, []⟩, ⟨5, false, []⟩, ⟨6, false, []⟩, ⟨7, false, []⟩, ⟨8, false, []⟩, ⟨9, false, []⟩], [[], [], [0, 1], [0, 1, 2], [], [], [4, 5], [4, 5, 6], [0, 1, 2, 3, 4, 5, 6, 7], [0, 1, 2, 3, 4, 5, 6, 7, 8]], [0, 1, 2, 3, 4, 5, 6, 7, 8, 9]⟩
    | _ => ⟨[], [], []⟩
theorem hi91a (i : Nat) : hi91.acts i = [] := rfl
theorem hi91v (i : Nat) : hi91.views i = none := rfl
attribute [go_sem] hi91a hi91v Go.Proofs.Try.ntmps91 Go.Proofs.Try.results91
@[go_sem] theorem hi91d6 : (hi91.draws 6).order = [⟨0, false, []⟩, ⟨1, false, []⟩, ⟨2, false, []⟩, ⟨3, false, []⟩, ⟨4, false, []⟩, ⟨5, false, []⟩, ⟨6, false, []⟩, ⟨7, false, []⟩, ⟨8, false, []⟩, ⟨9, false, []⟩] := rfl
theorem c_laws_eqTieS {a : List GTie} {b : List GTie} {res : Bool} (h : m_laws_eqTieS a b = some res) : CallOk Go.Proofs.Try.prog 91 [.sl (rowsOf GTie.enc a), .sl (rowsOf GTie.enc b)] [] (.lit (.bool res)) [] := by
  refine callOk_of (ra := []) (md := mdT) hT (hi := hi91) Go.Proofs.Try.func91 rfl rfl (by decide +kernel) (by simp) ?_
  unfold m_laws_eqTieS at h
  rcases ite_some h with ⟨h1, h⟩ | ⟨h1, h⟩
  · obtain ⟨q1004, l2, h⟩ := obnd_some h
    simp -implicitDefEqProofs -dsimp only [go_sem, ↓reduceIte, ↓dreduceIte, reduceCtorEq, Nat.reduceMul, Nat.reduceAdd, Nat.reduceSub, Nat.reduceDiv, Nat.reduceLT, Nat.reduceLeDiff, Nat.reduceEqDiff, Nat.reduceBEq, Int.reduceNeg, Int.reduceLT, Int.reduceLE, Int.reduceEq, Int.reduceToNat, (eq_true h1)]
    refine loopW_loopO (m1 := .mk) (m2 := .mk) [.nf [0, 1, 5] []] (m_laws_eqTieS_L1_St a b) l2 ?_ ?_
    · simp -implicitDefEqProofs -dsimp only [go_sem, ↓reduceIte, ↓dreduceIte, reduceCtorEq, Nat.reduceMul, Nat.reduceAdd, Nat.reduceSub, Nat.reduceDiv, Nat.reduceLT, Nat.reduceLeDiff, Nat.reduceEqDiff, Nat.reduceBEq, Int.reduceNeg, Int.reduceLT, Int.reduceLE, Int.reduceEq, Int.reduceToNat, (eq_true h1)]
    · intro nb3 sb3 bb3 b3 gb3
      obtain ⟨i_1, eb3⟩ : ∃ v, v = sb3 := ⟨_, rfl⟩; subst eb3
      unfold m_laws_eqTieS_L1 at b3
      try dsimp only at b3
      rcases ite_some b3 with ⟨h4, b3⟩ | ⟨h4, b3⟩
      · obtain ⟨x1001, g5, b3⟩ := obnd_some b3
        obtain ⟨h6, h7, h8⟩ := getI_some g5
        obtain ⟨x1002, g9, b3⟩ := obnd_some b3
        obtain ⟨h10, h11, h12⟩ := getI_some g9
        obtain ⟨r1003, g13, b3⟩ := obnd_some b3
        simp -implicitDefEqProofs -dsimp only [go_sem, ↓reduceIte, ↓dreduceIte, reduceCtorEq, Nat.reduceMul, Nat.reduceAdd, Nat.reduceSub, Nat.reduceDiv, Nat.reduceLT, Nat.reduceLeDiff, Nat.reduceEqDiff, Nat.reduceBEq, Int.reduceNeg, Int.reduceLT, Int.reduceLE, Int.reduceEq, Int.reduceToNat, (eq_true h1), (eq_true h4), h6, h7, h8, h10, h11, h12]
        refine callW_of (c_laws_eqTie g13) ?_
        rcases ite_some b3 with ⟨h14, b3⟩ | ⟨h14, b3⟩
        · cases b3
          simp -implicitDefEqProofs -dsimp only [go_sem, ↓reduceIte, ↓dreduceIte, reduceCtorEq, Nat.reduceMul, Nat.reduceAdd, Nat.reduceSub, Nat.reduceDiv, Nat.reduceLT, Nat.reduceLeDiff, Nat.reduceEqDiff, Nat.reduceBEq, Int.reduceNeg, Int.reduceLT, Int.reduceLE, Int.reduceEq, Int.reduceToNat, (eq_true h1), (eq_true h4), h6, h7, h8, h10, h11, h12, (eq_true h14), (condZ_t h14)]
          refine next_of gb3 ?_
          simp -implicitDefEqProofs -dsimp only [go_sem, ↓reduceIte, ↓dreduceIte, reduceCtorEq, Nat.reduceMul, Nat.reduceAdd, Nat.reduceSub, Nat.reduceDiv, Nat.reduceLT, Nat.reduceLeDiff, Nat.reduceEqDiff, Nat.reduceBEq, Int.reduceNeg, Int.reduceLT, Int.reduceLE, Int.reduceEq, Int.reduceToNat, (eq_true h1), (eq_true h4), h6, h7, h8, h10, h11, h12, (eq_true h14), (condZ_t h14)]
        · cases b3
          have e15 := done_of gb3
          subst e15
          try dsimp only at h
          cases h
          simp -implicitDefEqProofs -dsimp only [go_sem, ↓reduceIte, ↓dreduceIte, reduceCtorEq, Nat.reduceMul, Nat.reduceAdd, Nat.reduceSub, Nat.reduceDiv, Nat.reduceLT, Nat.reduceLeDiff, Nat.reduceEqDiff, Nat.reduceBEq, Int.reduceNeg, Int.reduceLT, Int.reduceLE, Int.reduceEq, Int.reduceToNat, (eq_true h1), (eq_true h4), h6, h7, h8, h10, h11, h12, (eq_false h14), (condZ_f h14)]
      · cases b3
        have e16 := done_of gb3
        subst e16
        try dsimp only at h
        cases h
        simp -implicitDefEqProofs -dsimp only [go_sem, ↓reduceIte, ↓dreduceIte, reduceCtorEq, Nat.reduceMul, Nat.reduceAdd, Nat.reduceSub, Nat.reduceDiv, Nat.reduceLT, Nat.reduceLeDiff, Nat.reduceEqDiff, Nat.reduceBEq, Int.reduceNeg, Int.reduceLT, Int.reduceLE, Int.reduceEq, Int.reduceToNat, (eq_true h1), (eq_false h4)]
  · cases h
    simp -implicitDefEqProofs -dsimp only [go_sem, ↓reduceIte, ↓dreduceIte, reduceCtorEq, Nat.reduceMul, Nat.reduceAdd, Nat.reduceSub, Nat.reduceDiv, Nat.reduceLT, Nat.reduceLeDiff, Nat.reduceEqDiff, Nat.reduceBEq, Int.reduceNeg, Int.reduceLT, Int.reduceLE, Int.reduceEq, Int.reduceToNat, (eq_false h1)]
/- 24 loop.example/g00827/laws.eqShow -/
def hi24 : Hint where
  acts := fun _ => []
  draws := fun
    | _ => ⟨[], [], []⟩
theorem hi24a (i : Nat) : hi24.acts i = [] := rfl
theorem hi24v (i : Nat) : hi24.views i = none := rfl
attribute [go_sem] hi24a hi24v Go.Proofs.Try.ntmps24 Go.Proofs.Try.results24
theorem c_laws_eqShow {a : GShow} {b : GShow} {res : Bool} (h : m_laws_eqShow a b = some res) : CallOk Go.Proofs.Try.prog 24 [.agg [.sl (rowsOf GNode.encS a.nodes), .sl (rowsOf GTie.enc a.ties), .lit (.int .i64 a.horizon)], .agg [.sl (rowsOf GNode.encS b.nodes), .sl (rowsOf GTie.enc b.ties), .lit (.int .i64 b.horizon)]] [] (.lit (.bool res)) [] := by
  refine callOk_of (ra := []) (md := mdT) hT (hi := hi24) Go.Proofs.Try.func24 rfl rfl (by decide +kernel) (by simp) ?_
  unfold m_laws_eqShow at h
  obtain ⟨r1001, g1, h⟩ := obnd_some h
  simp -implicitDefEqProofs -dsimp only [go_sem, ↓reduceIte, ↓dreduceIte, reduceCtorEq, Nat.reduceMul, Nat.reduceAdd, Nat.reduceSub, Nat.reduceDiv, Nat.reduceLT, Nat.reduceLeDiff, Nat.reduceEqDiff, Nat.reduceBEq, Int.reduceNeg, Int.reduceLT, Int.reduceLE, Int.reduceEq, Int.reduceToNat]
  refine callW_of (c_laws_eqNodeS g1) ?_
  rcases ite_some h with ⟨h2, h⟩ | ⟨h2, h⟩
  · obtain ⟨r1002, g3, h⟩ := obnd_some h
    simp -implicitDefEqProofs -dsimp only [go_sem, ↓reduceIte, ↓dreduceIte, reduceCtorEq, Nat.reduceMul, Nat.reduceAdd, Nat.reduceSub, Nat.reduceDiv, Nat.reduceLT, Nat.reduceLeDiff, Nat.reduceEqDiff, Nat.reduceBEq, Int.reduceNeg, Int.reduceLT, Int.reduceLE, Int.reduceEq, Int.reduceToNat, (eq_true h2), (condZ_t h2)]
    refine callW_of (c_laws_eqTieS g3) ?_
    rcases ite_some h with ⟨h4, h⟩ | ⟨h4, h⟩
    · rcases ite_some h with ⟨h5, h⟩ | ⟨h5, h⟩
      · cases h
        simp -implicitDefEqProofs -dsimp only [go_sem, ↓reduceIte, ↓dreduceIte, reduceCtorEq, Nat.reduceMul, Nat.reduceAdd, Nat.reduceSub, Nat.reduceDiv, Nat.reduceLT, Nat.reduceLeDiff, Nat.reduceEqDiff, Nat.reduceBEq, Int.reduceNeg, Int.reduceLT, Int.reduceLE, Int.reduceEq, Int.reduceToNat, (eq_true h2), (condZ_t h2), (eq_true h4), (condZ_t h4), (eq_true h5)]
      · cases h
        simp -implicitDefEqProofs -dsimp only [go_sem, ↓reduceIte, ↓dreduceIte, reduceCtorEq, Nat.reduceMul, Nat.reduceAdd, Nat.reduceSub, Nat.reduceDiv, Nat.reduceLT, Nat.reduceLeDiff, Nat.reduceEqDiff, Nat.reduceBEq, Int.reduceNeg, Int.reduceLT, Int.reduceLE, Int.reduceEq, Int.reduceToNat, (eq_true h2), (condZ_t h2), (eq_true h4), (condZ_t h4), (eq_false h5)]
    · cases h
      simp -implicitDefEqProofs -dsimp only [go_sem, ↓reduceIte, ↓dreduceIte, reduceCtorEq, Nat.reduceMul, Nat.reduceAdd, Nat.reduceSub, Nat.reduceDiv, Nat.reduceLT, Nat.reduceLeDiff, Nat.reduceEqDiff, Nat.reduceBEq, Int.reduceNeg, Int.reduceLT, Int.reduceLE, Int.reduceEq, Int.reduceToNat, (eq_true h2), (condZ_t h2), (eq_false h4), (condZ_f h4)]
  · cases h
    simp -implicitDefEqProofs -dsimp only [go_sem, ↓reduceIte, ↓dreduceIte, reduceCtorEq, Nat.reduceMul, Nat.reduceAdd, Nat.reduceSub, Nat.reduceDiv, Nat.reduceLT, Nat.reduceLeDiff, Nat.reduceEqDiff, Nat.reduceBEq, Int.reduceNeg, Int.reduceLT, Int.reduceLE, Int.reduceEq, Int.reduceToNat, (eq_false h2), (condZ_f h2)]
/- 157 loop.example/g00827/laws.markText -/
def m_laws_markText_L1_St  : (Int × ByteArray) → St
  | (k, out) => ⟨[(0, .lit (.int .i64 k)), (3, .lit (.string out))], [], 2⟩
attribute [go_sem] m_laws_markText_L1_St
def hi157 : Hint where
  acts := fun _ => []
  draws := fun
    | _ => ⟨[], [], []⟩
theorem hi157a (i : Nat) : hi157.acts i = [] := rfl
theorem hi157v (i : Nat) : hi157.views i = none := rfl
attribute [go_sem] hi157a hi157v Go.Proofs.Try.ntmps157 Go.Proofs.Try.results157
theorem c_laws_markText {k : Int} {res : ByteArray} (h : m_laws_markText k = some res) : CallOk Go.Proofs.Try.prog 157 [.lit (.int .i64 k)] [] (.lit (.string res)) [] := by
  refine callOk_of (ra := []) (md := mdT) hT (hi := hi157) Go.Proofs.Try.func157 rfl rfl (by decide +kernel) (by simp) ?_
  unfold m_laws_markText at h
  rcases ite_some h with ⟨h1, h⟩ | ⟨h1, h⟩
  · cases h
    simp -implicitDefEqProofs -dsimp only [go_sem, ↓reduceIte, ↓dreduceIte, reduceCtorEq, Nat.reduceMul, Nat.reduceAdd, Nat.reduceSub, Nat.reduceDiv, Nat.reduceLT, Nat.reduceLeDiff, Nat.reduceEqDiff, Nat.reduceBEq, Int.reduceNeg, Int.reduceLT, Int.reduceLE, Int.reduceEq, Int.reduceToNat, (eq_true h1)]
  · obtain ⟨q1001, l2, h⟩ := obnd_some h
    simp -implicitDefEqProofs -dsimp only [go_sem, ↓reduceIte, ↓dreduceIte, reduceCtorEq, Nat.reduceMul, Nat.reduceAdd, Nat.reduceSub, Nat.reduceDiv, Nat.reduceLT, Nat.reduceLeDiff, Nat.reduceEqDiff, Nat.reduceBEq, Int.reduceNeg, Int.reduceLT, Int.reduceLE, Int.reduceEq, Int.reduceToNat, (eq_false h1)]
    refine loopW_loopO (m1 := .mk) (m2 := .mk) [.nf [0, 3] []] (m_laws_markText_L1_St) l2 ?_ ?_
    · simp -implicitDefEqProofs -dsimp only [go_sem, ↓reduceIte, ↓dreduceIte, reduceCtorEq, Nat.reduceMul, Nat.reduceAdd, Nat.reduceSub, Nat.reduceDiv, Nat.reduceLT, Nat.reduceLeDiff, Nat.reduceEqDiff, Nat.reduceBEq, Int.reduceNeg, Int.reduceLT, Int.reduceLE, Int.reduceEq, Int.reduceToNat, (eq_false h1)]
    · intro nb3 sb3 bb3 b3 gb3
      obtain ⟨k_1, out_1⟩ := sb3
      unfold m_laws_markText_L1 at b3
      try dsimp only at b3
      rcases ite_some b3 with ⟨h4, b3⟩ | ⟨h4, b3⟩
      · obtain ⟨h5, b3⟩ := chk_some b3
        cases b3
        simp -implicitDefEqProofs -dsimp only [go_sem, ↓reduceIte, ↓dreduceIte, reduceCtorEq, Nat.reduceMul, Nat.reduceAdd, Nat.reduceSub, Nat.reduceDiv, Nat.reduceLT, Nat.reduceLeDiff, Nat.reduceEqDiff, Nat.reduceBEq, Int.reduceNeg, Int.reduceLT, Int.reduceLE, Int.reduceEq, Int.reduceToNat, (eq_false h1), (eq_true h4), (eq_true h5)]
        refine next_of gb3 ?_
        simp -implicitDefEqProofs -dsimp only [go_sem, ↓reduceIte, ↓dreduceIte, reduceCtorEq, Nat.reduceMul, Nat.reduceAdd, Nat.reduceSub, Nat.reduceDiv, Nat.reduceLT, Nat.reduceLeDiff, Nat.reduceEqDiff, Nat.reduceBEq, Int.reduceNeg, Int.reduceLT, Int.reduceLE, Int.reduceEq, Int.reduceToNat, (eq_false h1), (eq_true h4), (eq_true h5)]
      · cases b3
        have e6 := done_of gb3
        subst e6
        try dsimp only at h
        obtain ⟨h7, h⟩ := chk_some h
        cases h
        simp -implicitDefEqProofs -dsimp only [go_sem, ↓reduceIte, ↓dreduceIte, reduceCtorEq, Nat.reduceMul, Nat.reduceAdd, Nat.reduceSub, Nat.reduceDiv, Nat.reduceLT, Nat.reduceLeDiff, Nat.reduceEqDiff, Nat.reduceBEq, Int.reduceNeg, Int.reduceLT, Int.reduceLE, Int.reduceEq, Int.reduceToNat, (eq_false h1), (eq_false h4), (eq_true h7)]
/- 26 loop.example/g00827/laws.markIntS -/
def m_laws_markIntS_L1_St  : (Int × Int × (List Int)) → St
  | (k, i, a) => ⟨[(0, .ref 10000 0 0 a.length), (1, .lit (.int .i64 k)), (5, .lit (.int .i64 i))], [(10000, 0, .row true (rowsOf eI a))], 2⟩
attribute [go_sem] m_laws_markIntS_L1_St
def hi26 : Hint where
  acts := fun _ => []
  draws := fun
    | _ => ⟨[], [], []⟩
theorem hi26a (i : Nat) : hi26.acts i = [] := rfl
theorem hi26v (i : Nat) : hi26.views i = none := rfl
attribute [go_sem] hi26a hi26v Go.Proofs.Try.ntmps26 Go.Proofs.Try.results26
theorem c_laws_markIntS {a : List Int} {k : Int} {res : Int × (List Int)} (h : m_laws_markIntS a k = some res) : CallOk Go.Proofs.Try.prog 26 [.ref 10000 0 0 a.length, .lit (.int .i64 k)] [(10000, 0, .row true (rowsOf eI a))] (.lit (.int .i64 res.1)) [(10000, 0, .row true (rowsOf eI res.2))] := by
  refine callOk_of (ra := []) (md := mdT) hT (hi := hi26) Go.Proofs.Try.func26 rfl rfl (by decide +kernel) (by simp) ?_
  unfold m_laws_markIntS at h
  obtain ⟨q1002, l1, h⟩ := obnd_some h
  simp -implicitDefEqProofs -dsimp only [go_sem, ↓reduceIte, ↓dreduceIte, reduceCtorEq, Nat.reduceMul, Nat.reduceAdd, Nat.reduceSub, Nat.reduceDiv, Nat.reduceLT, Nat.reduceLeDiff, Nat.reduceEqDiff, Nat.reduceBEq, Int.reduceNeg, Int.reduceLT, Int.reduceLE, Int.reduceEq, Int.reduceToNat]
  refine loopW_loopO (m1 := .mk) (m2 := .mk) [.nf [0, 1, 5] [10000]] (m_laws_markIntS_L1_St) l1 ?_ ?_
  · simp -implicitDefEqProofs -dsimp only [go_sem, ↓reduceIte, ↓dreduceIte, reduceCtorEq, Nat.reduceMul, Nat.reduceAdd, Nat.reduceSub, Nat.reduceDiv, Nat.reduceLT, Nat.reduceLeDiff, Nat.reduceEqDiff, Nat.reduceBEq, Int.reduceNeg, Int.reduceLT, Int.reduceLE, Int.reduceEq, Int.reduceToNat]
  · intro nb2 sb2 bb2 b2 gb2
    obtain ⟨k_1, i_1, a_1⟩ := sb2
    unfold m_laws_markIntS_L1 at b2
    try dsimp only at b2
    rcases ite_some b2 with ⟨h3, b2⟩ | ⟨h3, b2⟩
    · obtain ⟨x1001, g4, b2⟩ := obnd_some b2
      obtain ⟨h5, h6, h7⟩ := getI_some g4
      cases b2
      simp -implicitDefEqProofs -dsimp only [go_sem, ↓reduceIte, ↓dreduceIte, reduceCtorEq, Nat.reduceMul, Nat.reduceAdd, Nat.reduceSub, Nat.reduceDiv, Nat.reduceLT, Nat.reduceLeDiff, Nat.reduceEqDiff, Nat.reduceBEq, Int.reduceNeg, Int.reduceLT, Int.reduceLE, Int.reduceEq, Int.reduceToNat, (eq_true h3), h5, h6, h7]
      refine next_of gb2 ?_
      simp -implicitDefEqProofs -dsimp only [go_sem, ↓reduceIte, ↓dreduceIte, reduceCtorEq, Nat.reduceMul, Nat.reduceAdd, Nat.reduceSub, Nat.reduceDiv, Nat.reduceLT, Nat.reduceLeDiff, Nat.reduceEqDiff, Nat.reduceBEq, Int.reduceNeg, Int.reduceLT, Int.reduceLE, Int.reduceEq, Int.reduceToNat, (eq_true h3), h5, h6, h7]
    · cases b2
      have e8 := done_of gb2
      subst e8
      try dsimp only at h
      cases h
      simp -implicitDefEqProofs -dsimp only [go_sem, ↓reduceIte, ↓dreduceIte, reduceCtorEq, Nat.reduceMul, Nat.reduceAdd, Nat.reduceSub, Nat.reduceDiv, Nat.reduceLT, Nat.reduceLeDiff, Nat.reduceEqDiff, Nat.reduceBEq, Int.reduceNeg, Int.reduceLT, Int.reduceLE, Int.reduceEq, Int.reduceToNat, (eq_false h3)]
/- 92 loop.example/g00827/laws.markNodeS -/
def m_laws_markNodeS_L1_St  : (Int × Int × (List GNode)) → St
  | (k, i, a) => ⟨[(0, .ref 10000 0 0 a.length), (1, .lit (.int .i64 k)), (5, .lit (.int .i64 i))], [(10000, 0, .row true (rowsOf GNode.encO a))], 2⟩
attribute [go_sem] m_laws_markNodeS_L1_St
def hi92 : Hint where
  acts := fun _ => []
  views := fun
    | 6 => some (4, 1)
    | _ => none
  draws := fun
    | _ => ⟨[], [], []⟩
theorem hi92a (i : Nat) : hi92.acts i = [] := rfl
@[go_sem] theorem hi92v0 : hi92.views 0 = none := rfl
@[go_sem] theorem hi92v1 : hi92.views 1 = none := rfl
@[go_sem] theorem hi92v2 : hi92.views 2 = none := rfl
@[go_sem] theorem hi92v4 : hi92.views 4 = none := rfl
@[go_sem] theorem hi92v5 : hi92.views 5 = none := rfl
@[go_sem] theorem hi92v6 : hi92.views 6 = some (4, 1) := rfl
@[go_sem] theorem hi92v7 : hi92.views 7 = none := rfl
@[go_sem] theorem hi92v8 : hi92.views 8 = none := rfl
@[go_sem] theorem hi92v3 : hi92.views 3 = none := rfl
@[go_sem] theorem hi92v9 : hi92.views 9 = none := rfl
attribute [go_sem] hi92a Go.Proofs.Try.ntmps92 Go.Proofs.Try.results92
theorem c_laws_markNodeS {a : List GNode} {k : Int} {res : Int × (List GNode)} (h : m_laws_markNodeS a k = some res) : CallOk Go.Proofs.Try.prog 92 [.ref 10000 0 0 a.length, .lit (.int .i64 k)] [(10000, 0, .row true (rowsOf GNode.encO a))] (.lit (.int .i64 res.1)) [(10000, 0, .row true (rowsOf GNode.encO res.2))] := by
  refine callOk_of (ra := []) (md := mdT) hT (hi := hi92) Go.Proofs.Try.func92 rfl rfl (by decide +kernel) (by simp) ?_
  unfold m_laws_markNodeS at h
  obtain ⟨q1006, l1, h⟩ := obnd_some h
  simp -implicitDefEqProofs -dsimp only [go_sem, ↓reduceIte, ↓dreduceIte, reduceCtorEq, Nat.reduceMul, Nat.reduceAdd, Nat.reduceSub, Nat.reduceDiv, Nat.reduceLT, Nat.reduceLeDiff, Nat.reduceEqDiff, Nat.reduceBEq, Int.reduceNeg, Int.reduceLT, Int.reduceLE, Int.reduceEq, Int.reduceToNat]
  refine loopW_loopO (m1 := .mk) (m2 := .mk) [.nf [0, 1, 5] [10000]] (m_laws_markNodeS_L1_St) l1 ?_ ?_
  · simp -implicitDefEqProofs -dsimp only [go_sem, ↓reduceIte, ↓dreduceIte, reduceCtorEq, Nat.reduceMul, Nat.reduceAdd, Nat.reduceSub, Nat.reduceDiv, Nat.reduceLT, Nat.reduceLeDiff, Nat.reduceEqDiff, Nat.reduceBEq, Int.reduceNeg, Int.reduceLT, Int.reduceLE, Int.reduceEq, Int.reduceToNat]
  · intro nb2 sb2 bb2 b2 gb2
    obtain ⟨k_1, i_1, a_1⟩ := sb2
    unfold m_laws_markNodeS_L1 at b2
    try dsimp only at b2
    rcases ite_some b2 with ⟨h3, b2⟩ | ⟨h3, b2⟩
    · obtain ⟨r1001, g4, b2⟩ := obnd_some b2
      simp -implicitDefEqProofs -dsimp only [go_sem, ↓reduceIte, ↓dreduceIte, reduceCtorEq, Nat.reduceMul, Nat.reduceAdd, Nat.reduceSub, Nat.reduceDiv, Nat.reduceLT, Nat.reduceLeDiff, Nat.reduceEqDiff, Nat.reduceBEq, Int.reduceNeg, Int.reduceLT, Int.reduceLE, Int.reduceEq, Int.reduceToNat, (eq_true h3)]
      refine callW_of (c_laws_markText g4) ?_
      obtain ⟨x1002, g5, b2⟩ := obnd_some b2
      obtain ⟨h6, h7, h8⟩ := getI_some g5
      obtain ⟨x1003, g9, b2⟩ := obnd_some b2
      obtain ⟨h10, h11, h12⟩ := getI_some g9
      obtain ⟨r1004, g13, b2⟩ := obnd_some b2
      obtain ⟨h14, b2⟩ := chk_some b2
      simp -implicitDefEqProofs -dsimp only [go_sem, ↓reduceIte, ↓dreduceIte, reduceCtorEq, Nat.reduceMul, Nat.reduceAdd, Nat.reduceSub, Nat.reduceDiv, Nat.reduceLT, Nat.reduceLeDiff, Nat.reduceEqDiff, Nat.reduceBEq, Int.reduceNeg, Int.reduceLT, Int.reduceLE, Int.reduceEq, Int.reduceToNat, (eq_true h3), h6, h7, h8, h10, h11, h12]
      refine viewW_of h14 (by simp only [go_sem]) (c_laws_markIntS g13) ?_
      obtain ⟨x1005, g15, b2⟩ := obnd_some b2
      obtain ⟨h16, h17, h18⟩ := getI_some g15
      cases b2
      simp -implicitDefEqProofs -dsimp only [go_sem, ↓reduceIte, ↓dreduceIte, reduceCtorEq, Nat.reduceMul, Nat.reduceAdd, Nat.reduceSub, Nat.reduceDiv, Nat.reduceLT, Nat.reduceLeDiff, Nat.reduceEqDiff, Nat.reduceBEq, Int.reduceNeg, Int.reduceLT, Int.reduceLE, Int.reduceEq, Int.reduceToNat, (eq_true h3), h6, h7, h8, h10, h11, h12, h16, h17, h18]
      refine next_of gb2 ?_
      simp -implicitDefEqProofs -dsimp only [go_sem, ↓reduceIte, ↓dreduceIte, reduceCtorEq, Nat.reduceMul, Nat.reduceAdd, Nat.reduceSub, Nat.reduceDiv, Nat.reduceLT, Nat.reduceLeDiff, Nat.reduceEqDiff, Nat.reduceBEq, Int.reduceNeg, Int.reduceLT, Int.reduceLE, Int.reduceEq, Int.reduceToNat, (eq_true h3), h6, h7, h8, h10, h11, h12, h16, h17, h18]
    · cases b2
      have e19 := done_of gb2
      subst e19
      try dsimp only at h
      cases h
      simp -implicitDefEqProofs -dsimp only [go_sem, ↓reduceIte, ↓dreduceIte, reduceCtorEq, Nat.reduceMul, Nat.reduceAdd, Nat.reduceSub, Nat.reduceDiv, Nat.reduceLT, Nat.reduceLeDiff, Nat.reduceEqDiff, Nat.reduceBEq, Int.reduceNeg, Int.reduceLT, Int.reduceLE, Int.reduceEq, Int.reduceToNat, (eq_false h3)]
/- 93 loop.example/g00827/laws.markTieS -/
def m_laws_markTieS_L1_St  : (Int × Int × (List GTie)) → St
  | (k, i, a) => ⟨[(0, .ref 10000 0 0 a.length), (1, .lit (.int .i64 k)), (5, .lit (.int .i64 i))], [(10000, 0, .row true (rowsOf GTie.enc a))], 2⟩
attribute [go_sem] m_laws_markTieS_L1_St
def hi93 : Hint where
  acts := fun _ => []
  draws := fun
    | _ => ⟨[], [], []⟩
theorem hi93a (i : Nat) : hi93.acts i = [] := rfl
theorem hi93v (i : Nat) : hi93.views i = none := rfl
attribute [go_sem] hi93a hi93v Go.Proofs.Try.ntmps93 Go.Proofs.Try.results93
theorem c_laws_markTieS {a : List GTie} {k : Int} {res : Int × (List GTie)} (h : m_laws_markTieS a k = some res) : CallOk Go.Proofs.Try.prog 93 [.ref 10000 0 0 a.length, .lit (.int .i64 k)] [(10000, 0, .row true (rowsOf GTie.enc a))] (.lit (.int .i64 res.1)) [(10000, 0, .row true (rowsOf GTie.enc res.2))] := by
  refine callOk_of (ra := []) (md := mdT) hT (hi := hi93) Go.Proofs.Try.func93 rfl rfl (by decide +kernel) (by simp) ?_
  unfold m_laws_markTieS at h
  obtain ⟨q1006, l1, h⟩ := obnd_some h
  simp -implicitDefEqProofs -dsimp only [go_sem, ↓reduceIte, ↓dreduceIte, reduceCtorEq, Nat.reduceMul, Nat.reduceAdd, Nat.reduceSub, Nat.reduceDiv, Nat.reduceLT, Nat.reduceLeDiff, Nat.reduceEqDiff, Nat.reduceBEq, Int.reduceNeg, Int.reduceLT, Int.reduceLE, Int.reduceEq, Int.reduceToNat]
  refine loopW_loopO (m1 := .mk) (m2 := .mk) [.nf [0, 1, 5] [10000]] (m_laws_markTieS_L1_St) l1 ?_ ?_
  · simp -implicitDefEqProofs -dsimp only [go_sem, ↓reduceIte, ↓dreduceIte, reduceCtorEq, Nat.reduceMul, Nat.reduceAdd, Nat.reduceSub, Nat.reduceDiv, Nat.reduceLT, Nat.reduceLeDiff, Nat.reduceEqDiff, Nat.reduceBEq, Int.reduceNeg, Int.reduceLT, Int.reduceLE, Int.reduceEq, Int.reduceToNat]
  · intro nb2 sb2 bb2 b2 gb2
    obtain ⟨k_1, i_1, a_1⟩ := sb2
    unfold m_laws_markTieS_L1 at b2
    try dsimp only at b2
    rcases ite_some b2 with ⟨h3, b2⟩ | ⟨h3, b2⟩
    · obtain ⟨x1001, g4, b2⟩ := obnd_some b2
      obtain ⟨h5, h6, h7⟩ := getI_some g4
      obtain ⟨x1002, g8, b2⟩ := obnd_some b2
      obtain ⟨h9, h10, h11⟩ := getI_some g8
      obtain ⟨x1003, g12, b2⟩ := obnd_some b2
      obtain ⟨h13, h14, h15⟩ := getI_some g12
      obtain ⟨x1004, g16, b2⟩ := obnd_some b2
      obtain ⟨h17, h18, h19⟩ := getI_some g16
      obtain ⟨x1005, g20, b2⟩ := obnd_some b2
      obtain ⟨h21, h22, h23⟩ := getI_some g20
      cases b2
      simp -implicitDefEqProofs -dsimp only [go_sem, ↓reduceIte, ↓dreduceIte, reduceCtorEq, Nat.reduceMul, Nat.reduceAdd, Nat.reduceSub, Nat.reduceDiv, Nat.reduceLT, Nat.reduceLeDiff, Nat.reduceEqDiff, Nat.reduceBEq, Int.reduceNeg, Int.reduceLT, Int.reduceLE, Int.reduceEq, Int.reduceToNat, (eq_true h3), h5, h6, h7, h9, h10, h11, h13, h14, h15, h17, h18, h19, h21, h22, h23]
      refine next_of gb2 ?_
      simp -implicitDefEqProofs -dsimp only [go_sem, ↓reduceIte, ↓dreduceIte, reduceCtorEq, Nat.reduceMul, Nat.reduceAdd, Nat.reduceSub, Nat.reduceDiv, Nat.reduceLT, Nat.reduceLeDiff, Nat.reduceEqDiff, Nat.reduceBEq, Int.reduceNeg, Int.reduceLT, Int.reduceLE, Int.reduceEq, Int.reduceToNat, (eq_true h3), h5, h6, h7, h9, h10, h11, h13, h14, h15, h17, h18, h19, h21, h22, h23]
    · cases b2
      have e24 := done_of gb2
      subst e24
      try dsimp only at h
      cases h
      simp -implicitDefEqProofs -dsimp only [go_sem, ↓reduceIte, ↓dreduceIte, reduceCtorEq, Nat.reduceMul, Nat.reduceAdd, Nat.reduceSub, Nat.reduceDiv, Nat.reduceLT, Nat.reduceLeDiff, Nat.reduceEqDiff, Nat.reduceBEq, Int.reduceNeg, Int.reduceLT, Int.reduceLE, Int.reduceEq, Int.reduceToNat, (eq_false h3)]
/- 25 loop.example/g00827/laws.markShow -/
def hi25 : Hint where
  acts := fun _ => []
  draws := fun
    | _ => ⟨[], [], []⟩
theorem hi25a (i : Nat) : hi25.acts i = [] := rfl
theorem hi25v (i : Nat) : hi25.views i = none := rfl
attribute [go_sem] hi25a hi25v Go.Proofs.Try.ntmps25 Go.Proofs.Try.results25
theorem c_laws_markShow {a : GShow} {k : Int} {res : Int × (List GNode) × (List GTie)} (h : m_laws_markShow a k = some res) : CallOk Go.Proofs.Try.prog 25 [.agg [.ref 10000 0 0 a.nodes.length, .ref 10001 0 0 a.ties.length, .lit (.int .i64 a.horizon)], .lit (.int .i64 k)] [(10000, 0, .row true (rowsOf GNode.encO a.nodes)), (10001, 0, .row true (rowsOf GTie.enc a.ties))] (.lit (.int .i64 res.1)) [(10000, 0, .row true (rowsOf GNode.encO res.2.1)), (10001, 0, .row true (rowsOf GTie.enc res.2.2))] := by
  refine callOk_of (ra := []) (md := mdT) hT (hi := hi25) Go.Proofs.Try.func25 rfl rfl (by decide +kernel) (by simp) ?_
  unfold m_laws_markShow at h
  obtain ⟨r1001, g1, h⟩ := obnd_some h
  simp -implicitDefEqProofs -dsimp only [go_sem, ↓reduceIte, ↓dreduceIte, reduceCtorEq, Nat.reduceMul, Nat.reduceAdd, Nat.reduceSub, Nat.reduceDiv, Nat.reduceLT, Nat.reduceLeDiff, Nat.reduceEqDiff, Nat.reduceBEq, Int.reduceNeg, Int.reduceLT, Int.reduceLE, Int.reduceEq, Int.reduceToNat]
  refine callW_of (c_laws_markNodeS g1) ?_
  obtain ⟨r1002, g2, h⟩ := obnd_some h
  simp -implicitDefEqProofs -dsimp only [go_sem, ↓reduceIte, ↓dreduceIte, reduceCtorEq, Nat.reduceMul, Nat.reduceAdd, Nat.reduceSub, Nat.reduceDiv, Nat.reduceLT, Nat.reduceLeDiff, Nat.reduceEqDiff, Nat.reduceBEq, Int.reduceNeg, Int.reduceLT, Int.reduceLE, Int.reduceEq, Int.reduceToNat]
  refine callW_of (c_laws_markTieS g2) ?_
  cases h
  simp -implicitDefEqProofs -dsimp only [go_sem, ↓reduceIte, ↓dreduceIte, reduceCtorEq, Nat.reduceMul, Nat.reduceAdd, Nat.reduceSub, Nat.reduceDiv, Nat.reduceLT, Nat.reduceLeDiff, Nat.reduceEqDiff, Nat.reduceBEq, Int.reduceNeg, Int.reduceLT, Int.reduceLE, Int.reduceEq, Int.reduceToNat]
/- 27 loop.example/g00827/laws.heldIntS -/
def m_laws_heldIntS_L1_St (a : List Int) : (Int × Int) → St
  | (k, i) => ⟨[(0, .sl (rowsOf eI a)), (1, .lit (.int .i64 k)), (5, .lit (.int .i64 i))], [], 2⟩
attribute [go_sem] m_laws_heldIntS_L1_St
def hi27 : Hint where
  acts := fun _ => []
  draws := fun
    | _ => ⟨[], [], []⟩
theorem hi27a (i : Nat) : hi27.acts i = [] := rfl
theorem hi27v (i : Nat) : hi27.views i = none := rfl
attribute [go_sem] hi27a hi27v Go.Proofs.Try.ntmps27 Go.Proofs.Try.results27
theorem c_laws_heldIntS {a : List Int} {k : Int} {res : Int} (h : m_laws_heldIntS a k = some res) : CallOk Go.Proofs.Try.prog 27 [.sl (rowsOf eI a), .lit (.int .i64 k)] [] (.lit (.int .i64 res)) [] := by
  refine callOk_of (ra := []) (md := mdT) hT (hi := hi27) Go.Proofs.Try.func27 rfl rfl (by decide +kernel) (by simp) ?_
  unfold m_laws_heldIntS at h
  obtain ⟨q1002, l1, h⟩ := obnd_some h
  simp -implicitDefEqProofs -dsimp only [go_sem, ↓reduceIte, ↓dreduceIte, reduceCtorEq, Nat.reduceMul, Nat.reduceAdd, Nat.reduceSub, Nat.reduceDiv, Nat.reduceLT, Nat.reduceLeDiff, Nat.reduceEqDiff, Nat.reduceBEq, Int.reduceNeg, Int.reduceLT, Int.reduceLE, Int.reduceEq, Int.reduceToNat]
  refine loopW_loopO (m1 := .mk) (m2 := .mk) [.nf [0, 1, 5] []] (m_laws_heldIntS_L1_St a) l1 ?_ ?_
  · simp -implicitDefEqProofs -dsimp only [go_sem, ↓reduceIte, ↓dreduceIte, reduceCtorEq, Nat.reduceMul, Nat.reduceAdd, Nat.reduceSub, Nat.reduceDiv, Nat.reduceLT, Nat.reduceLeDiff, Nat.reduceEqDiff, Nat.reduceBEq, Int.reduceNeg, Int.reduceLT, Int.reduceLE, Int.reduceEq, Int.reduceToNat]
  · intro nb2 sb2 bb2 b2 gb2
    obtain ⟨k_1, i_1⟩ := sb2
    unfold m_laws_heldIntS_L1 at b2
    try dsimp only at b2
    rcases ite_some b2 with ⟨h3, b2⟩ | ⟨h3, b2⟩
    · obtain ⟨x1001, g4, b2⟩ := obnd_some b2
      obtain ⟨h5, h6, h7⟩ := getI_some g4
      rcases ite_some b2 with ⟨h8, b2⟩ | ⟨h8, b2⟩
      · cases b2
        simp -implicitDefEqProofs -dsimp only [go_sem, ↓reduceIte, ↓dreduceIte, reduceCtorEq, Nat.reduceMul, Nat.reduceAdd, Nat.reduceSub, Nat.reduceDiv, Nat.reduceLT, Nat.reduceLeDiff, Nat.reduceEqDiff, Nat.reduceBEq, Int.reduceNeg, Int.reduceLT, Int.reduceLE, Int.reduceEq, Int.reduceToNat, (eq_true h3), h5, h6, h7, (eq_true h8)]
        refine next_of gb2 ?_
        simp -implicitDefEqProofs -dsimp only [go_sem, ↓reduceIte, ↓dreduceIte, reduceCtorEq, Nat.reduceMul, Nat.reduceAdd, Nat.reduceSub, Nat.reduceDiv, Nat.reduceLT, Nat.reduceLeDiff, Nat.reduceEqDiff, Nat.reduceBEq, Int.reduceNeg, Int.reduceLT, Int.reduceLE, Int.reduceEq, Int.reduceToNat, (eq_true h3), h5, h6, h7, (eq_true h8)]
      · cases b2
        have e9 := done_of gb2
        subst e9
        try dsimp only at h
        cases h
        simp -implicitDefEqProofs -dsimp only [go_sem, ↓reduceIte, ↓dreduceIte, reduceCtorEq, Nat.reduceMul, Nat.reduceAdd, Nat.reduceSub, Nat.reduceDiv, Nat.reduceLT, Nat.reduceLeDiff, Nat.reduceEqDiff, Nat.reduceBEq, Int.reduceNeg, Int.reduceLT, Int.reduceLE, Int.reduceEq, Int.reduceToNat, (eq_true h3), h5, h6, h7, (eq_false h8)]
    · cases b2
      have e10 := done_of gb2
      subst e10
      try dsimp only at h
      cases h
      simp -implicitDefEqProofs -dsimp only [go_sem, ↓reduceIte, ↓dreduceIte, reduceCtorEq, Nat.reduceMul, Nat.reduceAdd, Nat.reduceSub, Nat.reduceDiv, Nat.reduceLT, Nat.reduceLeDiff, Nat.reduceEqDiff, Nat.reduceBEq, Int.reduceNeg, Int.reduceLT, Int.reduceLE, Int.reduceEq, Int.reduceToNat, (eq_false h3)]
/- 3 loop.example/g00827/laws.FnExactShiftTimes -/
def hi3 : Hint where
  acts := fun _ => []
  draws := fun
    | 16 => ⟨[⟨0, true, []⟩, ⟨1, false, []⟩, ⟨2, false, [0]⟩, ⟨3, false, []⟩, ⟨4, false, []⟩], [[], [], [1], [0, 1, 2], [0, 1, 2, 3]], [0, 1, 2, 3, 4]⟩
    | _ => ⟨[], [], []⟩
theorem hi3a (i : Nat) : hi3.acts i = [] := rfl
theorem hi3v (i : Nat) : hi3.views i = none := rfl
attribute [go_sem] hi3a hi3v Go.Proofs.Try.ntmps3 Go.Proofs.Try.results3
@[go_sem] theorem hi3d16 : (hi3.draws 16).order = [⟨0, true, []⟩, ⟨1, false, []⟩, ⟨2, false, [0]⟩, ⟨3, false, []⟩, ⟨4, false, []⟩] := rfl
theorem c_laws_FnExactShiftTimes {aS : GShow} {aTimes : List Int} {aSecond : List Int} {aBy : Int} {res : Bool} (h : m_laws_FnExactShiftTimes aS aTimes aSecond aBy = some res) : CallOk Go.Proofs.Try.prog 3 [.agg [.sl (rowsOf GNode.encS aS.nodes), .sl (rowsOf GTie.enc aS.ties), .lit (.int .i64 aS.horizon)], .sl (rowsOf eI aTimes), .sl (rowsOf eI aSecond), .lit (.int .i64 aBy)] [] (.lit (.bool res)) [] := by
  refine callOk_of (ra := []) (md := mdT) hT (hi := hi3) Go.Proofs.Try.func3 rfl rfl (by decide +kernel) (by simp) ?_
  unfold m_laws_FnExactShiftTimes at h
  rcases ite_some h with ⟨h1, h⟩ | ⟨h1, h⟩
  · cases h
    simp -implicitDefEqProofs -dsimp only [go_sem, ↓reduceIte, ↓dreduceIte, reduceCtorEq, Nat.reduceMul, Nat.reduceAdd, Nat.reduceSub, Nat.reduceDiv, Nat.reduceLT, Nat.reduceLeDiff, Nat.reduceEqDiff, Nat.reduceBEq, Int.reduceNeg, Int.reduceLT, Int.reduceLE, Int.reduceEq, Int.reduceToNat, (eq_true h1)]
  · rcases ite_some h with ⟨h2, h⟩ | ⟨h2, h⟩
    · cases h
      simp -implicitDefEqProofs -dsimp only [go_sem, ↓reduceIte, ↓dreduceIte, reduceCtorEq, Nat.reduceMul, Nat.reduceAdd, Nat.reduceSub, Nat.reduceDiv, Nat.reduceLT, Nat.reduceLeDiff, Nat.reduceEqDiff, Nat.reduceBEq, Int.reduceNeg, Int.reduceLT, Int.reduceLE, Int.reduceEq, Int.reduceToNat, (eq_false h1), (eq_true h2)]
    · obtain ⟨r1001, g3, h⟩ := obnd_some h
      simp -implicitDefEqProofs -dsimp only [go_sem, ↓reduceIte, ↓dreduceIte, reduceCtorEq, Nat.reduceMul, Nat.reduceAdd, Nat.reduceSub, Nat.reduceDiv, Nat.reduceLT, Nat.reduceLeDiff, Nat.reduceEqDiff, Nat.reduceBEq, Int.reduceNeg, Int.reduceLT, Int.reduceLE, Int.reduceEq, Int.reduceToNat, (eq_false h1), (eq_false h2)]
      refine callW_of (c_laws_szShow g3) ?_
      rcases ite_some h with ⟨h4, h⟩ | ⟨h4, h⟩
      · cases h
        simp -implicitDefEqProofs -dsimp only [go_sem, ↓reduceIte, ↓dreduceIte, reduceCtorEq, Nat.reduceMul, Nat.reduceAdd, Nat.reduceSub, Nat.reduceDiv, Nat.reduceLT, Nat.reduceLeDiff, Nat.reduceEqDiff, Nat.reduceBEq, Int.reduceNeg, Int.reduceLT, Int.reduceLE, Int.reduceEq, Int.reduceToNat, (eq_false h1), (eq_false h2), (eq_true h4)]
      · obtain ⟨r1002, g5, h⟩ := obnd_some h
        simp -implicitDefEqProofs -dsimp only [go_sem, ↓reduceIte, ↓dreduceIte, reduceCtorEq, Nat.reduceMul, Nat.reduceAdd, Nat.reduceSub, Nat.reduceDiv, Nat.reduceLT, Nat.reduceLeDiff, Nat.reduceEqDiff, Nat.reduceBEq, Int.reduceNeg, Int.reduceLT, Int.reduceLE, Int.reduceEq, Int.reduceToNat, (eq_false h1), (eq_false h2), (eq_false h4)]
        refine callW_of (c_laws_toShow g5) ?_
        obtain ⟨r1003, g6, h⟩ := obnd_some h
        simp -implicitDefEqProofs -dsimp only [go_sem, ↓reduceIte, ↓dreduceIte, reduceCtorEq, Nat.reduceMul, Nat.reduceAdd, Nat.reduceSub, Nat.reduceDiv, Nat.reduceLT, Nat.reduceLeDiff, Nat.reduceEqDiff, Nat.reduceBEq, Int.reduceNeg, Int.reduceLT, Int.reduceLE, Int.reduceEq, Int.reduceToNat, (eq_false h1), (eq_false h2), (eq_false h4)]
        refine callW_of (c_laws_toIntS g6) ?_
        obtain ⟨r1004, g7, h⟩ := obnd_some h
        simp -implicitDefEqProofs -dsimp only [go_sem, ↓reduceIte, ↓dreduceIte, reduceCtorEq, Nat.reduceMul, Nat.reduceAdd, Nat.reduceSub, Nat.reduceDiv, Nat.reduceLT, Nat.reduceLeDiff, Nat.reduceEqDiff, Nat.reduceBEq, Int.reduceNeg, Int.reduceLT, Int.reduceLE, Int.reduceEq, Int.reduceToNat, (eq_false h1), (eq_false h2), (eq_false h4)]
        refine callW_of (c_laws_toIntS g7) ?_
        obtain ⟨r1005, g8, h⟩ := obnd_some h
        simp -implicitDefEqProofs -dsimp only [go_sem, ↓reduceIte, ↓dreduceIte, reduceCtorEq, Nat.reduceMul, Nat.reduceAdd, Nat.reduceSub, Nat.reduceDiv, Nat.reduceLT, Nat.reduceLeDiff, Nat.reduceEqDiff, Nat.reduceBEq, Int.reduceNeg, Int.reduceLT, Int.reduceLE, Int.reduceEq, Int.reduceToNat, (eq_false h1), (eq_false h2), (eq_false h4)]
        refine callW_of (c_spec_ShiftTimes g8) ?_
        obtain ⟨r1006, g9, h⟩ := obnd_some h
        simp -implicitDefEqProofs -dsimp only [go_sem, ↓reduceIte, ↓dreduceIte, reduceCtorEq, Nat.reduceMul, Nat.reduceAdd, Nat.reduceSub, Nat.reduceDiv, Nat.reduceLT, Nat.reduceLeDiff, Nat.reduceEqDiff, Nat.reduceBEq, Int.reduceNeg, Int.reduceLT, Int.reduceLE, Int.reduceEq, Int.reduceToNat, (eq_false h1), (eq_false h2), (eq_false h4)]
        refine callW_of (c_laws_toShow g9) ?_
        obtain ⟨r1007, g10, h⟩ := obnd_some h
        simp -implicitDefEqProofs -dsimp only [go_sem, ↓reduceIte, ↓dreduceIte, reduceCtorEq, Nat.reduceMul, Nat.reduceAdd, Nat.reduceSub, Nat.reduceDiv, Nat.reduceLT, Nat.reduceLeDiff, Nat.reduceEqDiff, Nat.reduceBEq, Int.reduceNeg, Int.reduceLT, Int.reduceLE, Int.reduceEq, Int.reduceToNat, (eq_false h1), (eq_false h2), (eq_false h4)]
        refine callW_of (c_laws_toIntS g10) ?_
        obtain ⟨r1008, g11, h⟩ := obnd_some h
        simp -implicitDefEqProofs -dsimp only [go_sem, ↓reduceIte, ↓dreduceIte, reduceCtorEq, Nat.reduceMul, Nat.reduceAdd, Nat.reduceSub, Nat.reduceDiv, Nat.reduceLT, Nat.reduceLeDiff, Nat.reduceEqDiff, Nat.reduceBEq, Int.reduceNeg, Int.reduceLT, Int.reduceLE, Int.reduceEq, Int.reduceToNat, (eq_false h1), (eq_false h2), (eq_false h4)]
        refine callW_of (c_laws_toIntS g11) ?_
        obtain ⟨r1009, g12, h⟩ := obnd_some h
        simp -implicitDefEqProofs -dsimp only [go_sem, ↓reduceIte, ↓dreduceIte, reduceCtorEq, Nat.reduceMul, Nat.reduceAdd, Nat.reduceSub, Nat.reduceDiv, Nat.reduceLT, Nat.reduceLeDiff, Nat.reduceEqDiff, Nat.reduceBEq, Int.reduceNeg, Int.reduceLT, Int.reduceLE, Int.reduceEq, Int.reduceToNat, (eq_false h1), (eq_false h2), (eq_false h4)]
        refine callW_of (c_impl_ShiftTimes g12) ?_
        obtain ⟨r1010, g13, h⟩ := obnd_some h
        simp -implicitDefEqProofs -dsimp only [go_sem, ↓reduceIte, ↓dreduceIte, reduceCtorEq, Nat.reduceMul, Nat.reduceAdd, Nat.reduceSub, Nat.reduceDiv, Nat.reduceLT, Nat.reduceLeDiff, Nat.reduceEqDiff, Nat.reduceBEq, Int.reduceNeg, Int.reduceLT, Int.reduceLE, Int.reduceEq, Int.reduceToNat, (eq_false h1), (eq_false h2), (eq_false h4)]
        refine callW_of (c_laws_eqIntS g13) ?_
        rcases ite_some h with ⟨h14, h⟩ | ⟨h14, h⟩
        · obtain ⟨r1011, g15, h⟩ := obnd_some h
          simp -implicitDefEqProofs -dsimp only [go_sem, ↓reduceIte, ↓dreduceIte, reduceCtorEq, Nat.reduceMul, Nat.reduceAdd, Nat.reduceSub, Nat.reduceDiv, Nat.reduceLT, Nat.reduceLeDiff, Nat.reduceEqDiff, Nat.reduceBEq, Int.reduceNeg, Int.reduceLT, Int.reduceLE, Int.reduceEq, Int.reduceToNat, (eq_false h1), (eq_false h2), (eq_false h4), (eq_true h14), (condZ_t h14)]
          refine callW_of (c_laws_toShow g15) ?_
          obtain ⟨r1012, g16, h⟩ := obnd_some h
          simp -implicitDefEqProofs -dsimp only [go_sem, ↓reduceIte, ↓dreduceIte, reduceCtorEq, Nat.reduceMul, Nat.reduceAdd, Nat.reduceSub, Nat.reduceDiv, Nat.reduceLT, Nat.reduceLeDiff, Nat.reduceEqDiff, Nat.reduceBEq, Int.reduceNeg, Int.reduceLT, Int.reduceLE, Int.reduceEq, Int.reduceToNat, (eq_false h1), (eq_false h2), (eq_false h4), (eq_true h14), (condZ_t h14)]
          refine callW_of (c_laws_eqShow g16) ?_
          rcases ite_some h with ⟨h17, h⟩ | ⟨h17, h⟩
          · obtain ⟨r1013, g18, h⟩ := obnd_some h
            simp -implicitDefEqProofs -dsimp only [go_sem, ↓reduceIte, ↓dreduceIte, reduceCtorEq, Nat.reduceMul, Nat.reduceAdd, Nat.reduceSub, Nat.reduceDiv, Nat.reduceLT, Nat.reduceLeDiff, Nat.reduceEqDiff, Nat.reduceBEq, Int.reduceNeg, Int.reduceLT, Int.reduceLE, Int.reduceEq, Int.reduceToNat, (eq_false h1), (eq_false h2), (eq_false h4), (eq_true h14), (condZ_t h14), (eq_true h17), (condZ_t h17)]
            refine callW_of (c_laws_toIntS g18) ?_
            obtain ⟨r1014, g19, h⟩ := obnd_some h
            simp -implicitDefEqProofs -dsimp only [go_sem, ↓reduceIte, ↓dreduceIte, reduceCtorEq, Nat.reduceMul, Nat.reduceAdd, Nat.reduceSub, Nat.reduceDiv, Nat.reduceLT, Nat.reduceLeDiff, Nat.reduceEqDiff, Nat.reduceBEq, Int.reduceNeg, Int.reduceLT, Int.reduceLE, Int.reduceEq, Int.reduceToNat, (eq_false h1), (eq_false h2), (eq_false h4), (eq_true h14), (condZ_t h14), (eq_true h17), (condZ_t h17)]
            refine callW_of (c_laws_eqIntS g19) ?_
            rcases ite_some h with ⟨h20, h⟩ | ⟨h20, h⟩
            · obtain ⟨r1015, g21, h⟩ := obnd_some h
              simp -implicitDefEqProofs -dsimp only [go_sem, ↓reduceIte, ↓dreduceIte, reduceCtorEq, Nat.reduceMul, Nat.reduceAdd, Nat.reduceSub, Nat.reduceDiv, Nat.reduceLT, Nat.reduceLeDiff, Nat.reduceEqDiff, Nat.reduceBEq, Int.reduceNeg, Int.reduceLT, Int.reduceLE, Int.reduceEq, Int.reduceToNat, (eq_false h1), (eq_false h2), (eq_false h4), (eq_true h14), (condZ_t h14), (eq_true h17), (condZ_t h17), (eq_true h20), (condZ_t h20)]
              refine callW_of (c_laws_toIntS g21) ?_
              obtain ⟨r1016, g22, h⟩ := obnd_some h
              simp -implicitDefEqProofs -dsimp only [go_sem, ↓reduceIte, ↓dreduceIte, reduceCtorEq, Nat.reduceMul, Nat.reduceAdd, Nat.reduceSub, Nat.reduceDiv, Nat.reduceLT, Nat.reduceLeDiff, Nat.reduceEqDiff, Nat.reduceBEq, Int.reduceNeg, Int.reduceLT, Int.reduceLE, Int.reduceEq, Int.reduceToNat, (eq_false h1), (eq_false h2), (eq_false h4), (eq_true h14), (condZ_t h14), (eq_true h17), (condZ_t h17), (eq_true h20), (condZ_t h20)]
              refine callW_of (c_laws_eqIntS g22) ?_
              rcases ite_some h with ⟨h23, h⟩ | ⟨h23, h⟩
              · obtain ⟨r1017, g24, h⟩ := obnd_some h
                simp -implicitDefEqProofs -dsimp only [go_sem, ↓reduceIte, ↓dreduceIte, reduceCtorEq, Nat.reduceMul, Nat.reduceAdd, Nat.reduceSub, Nat.reduceDiv, Nat.reduceLT, Nat.reduceLeDiff, Nat.reduceEqDiff, Nat.reduceBEq, Int.reduceNeg, Int.reduceLT, Int.reduceLE, Int.reduceEq, Int.reduceToNat, (eq_false h1), (eq_false h2), (eq_false h4), (eq_true h14), (condZ_t h14), (eq_true h17), (condZ_t h17), (eq_true h20), (condZ_t h20), (eq_true h23), (condZ_t h23)]
                refine callW_of (c_laws_markShow g24) ?_
                obtain ⟨r1018, g25, h⟩ := obnd_some h
                simp -implicitDefEqProofs -dsimp only [go_sem, ↓reduceIte, ↓dreduceIte, reduceCtorEq, Nat.reduceMul, Nat.reduceAdd, Nat.reduceSub, Nat.reduceDiv, Nat.reduceLT, Nat.reduceLeDiff, Nat.reduceEqDiff, Nat.reduceBEq, Int.reduceNeg, Int.reduceLT, Int.reduceLE, Int.reduceEq, Int.reduceToNat, (eq_false h1), (eq_false h2), (eq_false h4), (eq_true h14), (condZ_t h14), (eq_true h17), (condZ_t h17), (eq_true h20), (condZ_t h20), (eq_true h23), (condZ_t h23)]
                refine callW_of (c_laws_markIntS g25) ?_
                obtain ⟨r1019, g26, h⟩ := obnd_some h
                simp -implicitDefEqProofs -dsimp only [go_sem, ↓reduceIte, ↓dreduceIte, reduceCtorEq, Nat.reduceMul, Nat.reduceAdd, Nat.reduceSub, Nat.reduceDiv, Nat.reduceLT, Nat.reduceLeDiff, Nat.reduceEqDiff, Nat.reduceBEq, Int.reduceNeg, Int.reduceLT, Int.reduceLE, Int.reduceEq, Int.reduceToNat, (eq_false h1), (eq_false h2), (eq_false h4), (eq_true h14), (condZ_t h14), (eq_true h17), (condZ_t h17), (eq_true h20), (condZ_t h20), (eq_true h23), (condZ_t h23)]
                refine callW_of (c_laws_markIntS g26) ?_
                rcases ite_some h with ⟨h27, h⟩ | ⟨h27, h⟩
                · cases h
                  simp -implicitDefEqProofs -dsimp only [go_sem, ↓reduceIte, ↓dreduceIte, reduceCtorEq, Nat.reduceMul, Nat.reduceAdd, Nat.reduceSub, Nat.reduceDiv, Nat.reduceLT, Nat.reduceLeDiff, Nat.reduceEqDiff, Nat.reduceBEq, Int.reduceNeg, Int.reduceLT, Int.reduceLE, Int.reduceEq, Int.reduceToNat, (eq_false h1), (eq_false h2), (eq_false h4), (eq_true h14), (condZ_t h14), (eq_true h17), (condZ_t h17), (eq_true h20), (condZ_t h20), (eq_true h23), (condZ_t h23), (eq_true h27)]
                · obtain ⟨r1020, g28, h⟩ := obnd_some h
                  simp -implicitDefEqProofs -dsimp only [go_sem, ↓reduceIte, ↓dreduceIte, reduceCtorEq, Nat.reduceMul, Nat.reduceAdd, Nat.reduceSub, Nat.reduceDiv, Nat.reduceLT, Nat.reduceLeDiff, Nat.reduceEqDiff, Nat.reduceBEq, Int.reduceNeg, Int.reduceLT, Int.reduceLE, Int.reduceEq, Int.reduceToNat, (eq_false h1), (eq_false h2), (eq_false h4), (eq_true h14), (condZ_t h14), (eq_true h17), (condZ_t h17), (eq_true h20), (condZ_t h20), (eq_true h23), (condZ_t h23), (eq_false h27)]
                  refine callW_of (c_laws_eqIntS g28) ?_
                  rcases ite_some h with ⟨h29, h⟩ | ⟨h29, h⟩
                  · obtain ⟨r1021, g30, h⟩ := obnd_some h
                    simp -implicitDefEqProofs -dsimp only [go_sem, ↓reduceIte, ↓dreduceIte, reduceCtorEq, Nat.reduceMul, Nat.reduceAdd, Nat.reduceSub, Nat.reduceDiv, Nat.reduceLT, Nat.reduceLeDiff, Nat.reduceEqDiff, Nat.reduceBEq, Int.reduceNeg, Int.reduceLT, Int.reduceLE, Int.reduceEq, Int.reduceToNat, (eq_false h1), (eq_false h2), (eq_false h4), (eq_true h14), (condZ_t h14), (eq_true h17), (condZ_t h17), (eq_true h20), (condZ_t h20), (eq_true h23), (condZ_t h23), (eq_false h27), (eq_true h29), (condZ_t h29)]
                    refine callW_of (c_laws_markIntS g30) ?_
                    obtain ⟨h31, h⟩ := chk_some h
                    obtain ⟨r1022, g32, h⟩ := obnd_some h
                    simp -implicitDefEqProofs -dsimp only [go_sem, ↓reduceIte, ↓dreduceIte, reduceCtorEq, Nat.reduceMul, Nat.reduceAdd, Nat.reduceSub, Nat.reduceDiv, Nat.reduceLT, Nat.reduceLeDiff, Nat.reduceEqDiff, Nat.reduceBEq, Int.reduceNeg, Int.reduceLT, Int.reduceLE, Int.reduceEq, Int.reduceToNat, (eq_false h1), (eq_false h2), (eq_false h4), (eq_true h14), (condZ_t h14), (eq_true h17), (condZ_t h17), (eq_true h20), (condZ_t h20), (eq_true h23), (condZ_t h23), (eq_false h27), (eq_true h29), (condZ_t h29), (eq_true h31)]
                    refine callW_of (c_laws_heldIntS g32) ?_
                    rcases ite_some h with ⟨h33, h⟩ | ⟨h33, h⟩
                    · cases h
                      simp -implicitDefEqProofs -dsimp only [go_sem, ↓reduceIte, ↓dreduceIte, reduceCtorEq, Nat.reduceMul, Nat.reduceAdd, Nat.reduceSub, Nat.reduceDiv, Nat.reduceLT, Nat.reduceLeDiff, Nat.reduceEqDiff, Nat.reduceBEq, Int.reduceNeg, Int.reduceLT, Int.reduceLE, Int.reduceEq, Int.reduceToNat, (eq_false h1), (eq_false h2), (eq_false h4), (eq_true h14), (condZ_t h14), (eq_true h17), (condZ_t h17), (eq_true h20), (condZ_t h20), (eq_true h23), (condZ_t h23), (eq_false h27), (eq_true h29), (condZ_t h29), (eq_true h31), (eq_true h33)]
                    · rcases ite_some h with ⟨h34, h⟩ | ⟨h34, h⟩
                      · obtain ⟨r1023, g35, h⟩ := obnd_some h
                        simp -implicitDefEqProofs -dsimp only [go_sem, ↓reduceIte, ↓dreduceIte, reduceCtorEq, Nat.reduceMul, Nat.reduceAdd, Nat.reduceSub, Nat.reduceDiv, Nat.reduceLT, Nat.reduceLeDiff, Nat.reduceEqDiff, Nat.reduceBEq, Int.reduceNeg, Int.reduceLT, Int.reduceLE, Int.reduceEq, Int.reduceToNat, (eq_false h1), (eq_false h2), (eq_false h4), (eq_true h14), (condZ_t h14), (eq_true h17), (condZ_t h17), (eq_true h20), (condZ_t h20), (eq_true h23), (condZ_t h23), (eq_false h27), (eq_true h29), (condZ_t h29), (eq_true h31), (eq_false h33), (eq_true h34)]
                        refine callW_of (c_laws_toShow g35) ?_
                        obtain ⟨r1024, g36, h⟩ := obnd_some h
                        simp -implicitDefEqProofs -dsimp only [go_sem, ↓reduceIte, ↓dreduceIte, reduceCtorEq, Nat.reduceMul, Nat.reduceAdd, Nat.reduceSub, Nat.reduceDiv, Nat.reduceLT, Nat.reduceLeDiff, Nat.reduceEqDiff, Nat.reduceBEq, Int.reduceNeg, Int.reduceLT, Int.reduceLE, Int.reduceEq, Int.reduceToNat, (eq_false h1), (eq_false h2), (eq_false h4), (eq_true h14), (condZ_t h14), (eq_true h17), (condZ_t h17), (eq_true h20), (condZ_t h20), (eq_true h23), (condZ_t h23), (eq_false h27), (eq_true h29), (condZ_t h29), (eq_true h31), (eq_false h33), (eq_true h34)]
                        refine callW_of (c_laws_toIntS g36) ?_
                        obtain ⟨r1025, g37, h⟩ := obnd_some h
                        simp -implicitDefEqProofs -dsimp only [go_sem, ↓reduceIte, ↓dreduceIte, reduceCtorEq, Nat.reduceMul, Nat.reduceAdd, Nat.reduceSub, Nat.reduceDiv, Nat.reduceLT, Nat.reduceLeDiff, Nat.reduceEqDiff, Nat.reduceBEq, Int.reduceNeg, Int.reduceLT, Int.reduceLE, Int.reduceEq, Int.reduceToNat, (eq_false h1), (eq_false h2), (eq_false h4), (eq_true h14), (condZ_t h14), (eq_true h17), (condZ_t h17), (eq_true h20), (condZ_t h20), (eq_true h23), (condZ_t h23), (eq_false h27), (eq_true h29), (condZ_t h29), (eq_true h31), (eq_false h33), (eq_true h34)]
                        refine callW_of (c_laws_toIntS g37) ?_
                        obtain ⟨r1026, g38, h⟩ := obnd_some h
                        simp -implicitDefEqProofs -dsimp only [go_sem, ↓reduceIte, ↓dreduceIte, reduceCtorEq, Nat.reduceMul, Nat.reduceAdd, Nat.reduceSub, Nat.reduceDiv, Nat.reduceLT, Nat.reduceLeDiff, Nat.reduceEqDiff, Nat.reduceBEq, Int.reduceNeg, Int.reduceLT, Int.reduceLE, Int.reduceEq, Int.reduceToNat, (eq_false h1), (eq_false h2), (eq_false h4), (eq_true h14), (condZ_t h14), (eq_true h17), (condZ_t h17), (eq_true h20), (condZ_t h20), (eq_true h23), (condZ_t h23), (eq_false h27), (eq_true h29), (condZ_t h29), (eq_true h31), (eq_false h33), (eq_true h34)]
                        refine callW_of (c_impl_ShiftTimes g38) ?_
                        obtain ⟨r1027, g39, h⟩ := obnd_some h
                        simp -implicitDefEqProofs -dsimp only [go_sem, ↓reduceIte, ↓dreduceIte, reduceCtorEq, Nat.reduceMul, Nat.reduceAdd, Nat.reduceSub, Nat.reduceDiv, Nat.reduceLT, Nat.reduceLeDiff, Nat.reduceEqDiff, Nat.reduceBEq, Int.reduceNeg, Int.reduceLT, Int.reduceLE, Int.reduceEq, Int.reduceToNat, (eq_false h1), (eq_false h2), (eq_false h4), (eq_true h14), (condZ_t h14), (eq_true h17), (condZ_t h17), (eq_true h20), (condZ_t h20), (eq_true h23), (condZ_t h23), (eq_false h27), (eq_true h29), (condZ_t h29), (eq_true h31), (eq_false h33), (eq_true h34)]
                        refine callW_of (c_laws_eqIntS g39) ?_
                        rcases ite_some h with ⟨h40, h⟩ | ⟨h40, h⟩
                        · obtain ⟨r1028, g41, h⟩ := obnd_some h
                          simp -implicitDefEqProofs -dsimp only [go_sem, ↓reduceIte, ↓dreduceIte, reduceCtorEq, Nat.reduceMul, Nat.reduceAdd, Nat.reduceSub, Nat.reduceDiv, Nat.reduceLT, Nat.reduceLeDiff, Nat.reduceEqDiff, Nat.reduceBEq, Int.reduceNeg, Int.reduceLT, Int.reduceLE, Int.reduceEq, Int.reduceToNat, (eq_false h1), (eq_false h2), (eq_false h4), (eq_true h14), (condZ_t h14), (eq_true h17), (condZ_t h17), (eq_true h20), (condZ_t h20), (eq_true h23), (condZ_t h23), (eq_false h27), (eq_true h29), (condZ_t h29), (eq_true h31), (eq_false h33), (eq_true h34), (eq_true h40), (condZ_t h40)]
                          refine callW_of (c_laws_heldIntS g41) ?_
                          rcases ite_some h with ⟨h42, h⟩ | ⟨h42, h⟩
                          · cases h
                            simp -implicitDefEqProofs -dsimp only [go_sem, ↓reduceIte, ↓dreduceIte, reduceCtorEq, Nat.reduceMul, Nat.reduceAdd, Nat.reduceSub, Nat.reduceDiv, Nat.reduceLT, Nat.reduceLeDiff, Nat.reduceEqDiff, Nat.reduceBEq, Int.reduceNeg, Int.reduceLT, Int.reduceLE, Int.reduceEq, Int.reduceToNat, (eq_false h1), (eq_false h2), (eq_false h4), (eq_true h14), (condZ_t h14), (eq_true h17), (condZ_t h17), (eq_true h20), (condZ_t h20), (eq_true h23), (condZ_t h23), (eq_false h27), (eq_true h29), (condZ_t h29), (eq_true h31), (eq_false h33), (eq_true h34), (eq_true h40), (condZ_t h40), (eq_true h42)]
                          · rcases ite_some h with ⟨h43, h⟩ | ⟨h43, h⟩
                            · cases h
                              simp -implicitDefEqProofs -dsimp only [go_sem, ↓reduceIte, ↓dreduceIte, reduceCtorEq, Nat.reduceMul, Nat.reduceAdd, Nat.reduceSub, Nat.reduceDiv, Nat.reduceLT, Nat.reduceLeDiff, Nat.reduceEqDiff, Nat.reduceBEq, Int.reduceNeg, Int.reduceLT, Int.reduceLE, Int.reduceEq, Int.reduceToNat, (eq_false h1), (eq_false h2), (eq_false h4), (eq_true h14), (condZ_t h14), (eq_true h17), (condZ_t h17), (eq_true h20), (condZ_t h20), (eq_true h23), (condZ_t h23), (eq_false h27), (eq_true h29), (condZ_t h29), (eq_true h31), (eq_false h33), (eq_true h34), (eq_true h40), (condZ_t h40), (eq_false h42), (eq_true h43)]
                            · cases h
                              simp -implicitDefEqProofs -dsimp only [go_sem, ↓reduceIte, ↓dreduceIte, reduceCtorEq, Nat.reduceMul, Nat.reduceAdd, Nat.reduceSub, Nat.reduceDiv, Nat.reduceLT, Nat.reduceLeDiff, Nat.reduceEqDiff, Nat.reduceBEq, Int.reduceNeg, Int.reduceLT, Int.reduceLE, Int.reduceEq, Int.reduceToNat, (eq_false h1), (eq_false h2), (eq_false h4), (eq_true h14), (condZ_t h14), (eq_true h17), (condZ_t h17), (eq_true h20), (condZ_t h20), (eq_true h23), (condZ_t h23), (eq_false h27), (eq_true h29), (condZ_t h29), (eq_true h31), (eq_false h33), (eq_true h34), (eq_true h40), (condZ_t h40), (eq_false h42), (eq_false h43)]
                        · cases h
                          simp -implicitDefEqProofs -dsimp only [go_sem, ↓reduceIte, ↓dreduceIte, reduceCtorEq, Nat.reduceMul, Nat.reduceAdd, Nat.reduceSub, Nat.reduceDiv, Nat.reduceLT, Nat.reduceLeDiff, Nat.reduceEqDiff, Nat.reduceBEq, Int.reduceNeg, Int.reduceLT, Int.reduceLE, Int.reduceEq, Int.reduceToNat, (eq_false h1), (eq_false h2), (eq_false h4), (eq_true h14), (condZ_t h14), (eq_true h17), (condZ_t h17), (eq_true h20), (condZ_t h20), (eq_true h23), (condZ_t h23), (eq_false h27), (eq_true h29), (condZ_t h29), (eq_true h31), (eq_false h33), (eq_true h34), (eq_false h40), (condZ_f h40)]
                      · cases h
                        simp -implicitDefEqProofs -dsimp only [go_sem, ↓reduceIte, ↓dreduceIte, reduceCtorEq, Nat.reduceMul, Nat.reduceAdd, Nat.reduceSub, Nat.reduceDiv, Nat.reduceLT, Nat.reduceLeDiff, Nat.reduceEqDiff, Nat.reduceBEq, Int.reduceNeg, Int.reduceLT, Int.reduceLE, Int.reduceEq, Int.reduceToNat, (eq_false h1), (eq_false h2), (eq_false h4), (eq_true h14), (condZ_t h14), (eq_true h17), (condZ_t h17), (eq_true h20), (condZ_t h20), (eq_true h23), (condZ_t h23), (eq_false h27), (eq_true h29), (condZ_t h29), (eq_true h31), (eq_false h33), (eq_false h34)]
                  · cases h
                    simp -implicitDefEqProofs -dsimp only [go_sem, ↓reduceIte, ↓dreduceIte, reduceCtorEq, Nat.reduceMul, Nat.reduceAdd, Nat.reduceSub, Nat.reduceDiv, Nat.reduceLT, Nat.reduceLeDiff, Nat.reduceEqDiff, Nat.reduceBEq, Int.reduceNeg, Int.reduceLT, Int.reduceLE, Int.reduceEq, Int.reduceToNat, (eq_false h1), (eq_false h2), (eq_false h4), (eq_true h14), (condZ_t h14), (eq_true h17), (condZ_t h17), (eq_true h20), (condZ_t h20), (eq_true h23), (condZ_t h23), (eq_false h27), (eq_false h29), (condZ_f h29)]
              · cases h
                simp -implicitDefEqProofs -dsimp only [go_sem, ↓reduceIte, ↓dreduceIte, reduceCtorEq, Nat.reduceMul, Nat.reduceAdd, Nat.reduceSub, Nat.reduceDiv, Nat.reduceLT, Nat.reduceLeDiff, Nat.reduceEqDiff, Nat.reduceBEq, Int.reduceNeg, Int.reduceLT, Int.reduceLE, Int.reduceEq, Int.reduceToNat, (eq_false h1), (eq_false h2), (eq_false h4), (eq_true h14), (condZ_t h14), (eq_true h17), (condZ_t h17), (eq_true h20), (condZ_t h20), (eq_false h23), (condZ_f h23)]
            · cases h
              simp -implicitDefEqProofs -dsimp only [go_sem, ↓reduceIte, ↓dreduceIte, reduceCtorEq, Nat.reduceMul, Nat.reduceAdd, Nat.reduceSub, Nat.reduceDiv, Nat.reduceLT, Nat.reduceLeDiff, Nat.reduceEqDiff, Nat.reduceBEq, Int.reduceNeg, Int.reduceLT, Int.reduceLE, Int.reduceEq, Int.reduceToNat, (eq_false h1), (eq_false h2), (eq_false h4), (eq_true h14), (condZ_t h14), (eq_true h17), (condZ_t h17), (eq_false h20), (condZ_f h20)]
          · cases h
            simp -implicitDefEqProofs -dsimp only [go_sem, ↓reduceIte, ↓dreduceIte, reduceCtorEq, Nat.reduceMul, Nat.reduceAdd, Nat.reduceSub, Nat.reduceDiv, Nat.reduceLT, Nat.reduceLeDiff, Nat.reduceEqDiff, Nat.reduceBEq, Int.reduceNeg, Int.reduceLT, Int.reduceLE, Int.reduceEq, Int.reduceToNat, (eq_false h1), (eq_false h2), (eq_false h4), (eq_true h14), (condZ_t h14), (eq_false h17), (condZ_f h17)]
        · cases h
          simp -implicitDefEqProofs -dsimp only [go_sem, ↓reduceIte, ↓dreduceIte, reduceCtorEq, Nat.reduceMul, Nat.reduceAdd, Nat.reduceSub, Nat.reduceDiv, Nat.reduceLT, Nat.reduceLeDiff, Nat.reduceEqDiff, Nat.reduceBEq, Int.reduceNeg, Int.reduceLT, Int.reduceLE, Int.reduceEq, Int.reduceToNat, (eq_false h1), (eq_false h2), (eq_false h4), (eq_false h14), (condZ_f h14)]
end Go.Proofs.YtgmiaokdnpaglaaV
