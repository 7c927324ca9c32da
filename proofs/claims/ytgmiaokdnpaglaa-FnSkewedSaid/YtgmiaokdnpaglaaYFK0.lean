/- Functions. -/
import Derived.Test.YtgmiaokdnpaglaaYM
set_option linter.all false
set_option linter.unusedVariables false
set_option linter.unusedSimpArgs false
set_option maxRecDepth 100000
set_option maxHeartbeats 400000
namespace Go.Proofs.YtgmiaokdnpaglaaY
open Go
/- 135 loop.example/g00827/laws.szIntS -/
def hi135 : Hint where
  acts := fun _ => []
  draws := fun
    | _ => ⟨.nil, [], []⟩
theorem hi135a (i : Nat) : hi135.acts i = [] := rfl
theorem hi135v (i : Nat) : hi135.views i = none := rfl
attribute [go_sem] hi135a hi135v Go.Proofs.Try.ntmps135 Go.Proofs.Try.results135
theorem c_laws_szIntS {a : List Int} {left : Int} {res : Int} (h : m_laws_szIntS a left = some res) : CallOk Go.Proofs.Try.prog 135 [.sl (rowsOf eI a), .lit (.int .i64 left)] [] (.lit (.int .i64 res)) [] := by
  refine callOk_of (ra := []) (md := mdT) hT (hi := hi135) Go.Proofs.Try.func135 rfl rfl (by decide +kernel) (by simp) ?_
  unfold m_laws_szIntS at h
  rcases ite_some h with ⟨h1, h⟩ | ⟨h1, h⟩
  · cases h
    simp -implicitDefEqProofs -dsimp only [go_sem, (eq_true h1)]
  · cases h
    simp -implicitDefEqProofs -dsimp only [go_sem, (eq_false h1)]
/- 152 loop.example/g00827/laws.szNode -/
def hi152 : Hint where
  acts := fun _ => []
  draws := fun
    | _ => ⟨.nil, [], []⟩
theorem hi152a (i : Nat) : hi152.acts i = [] := rfl
theorem hi152v (i : Nat) : hi152.views i = none := rfl
attribute [go_sem] hi152a hi152v Go.Proofs.Try.ntmps152 Go.Proofs.Try.results152
theorem c_laws_szNode {a : GNode} {left : Int} {res : Int} (h : m_laws_szNode a left = some res) : CallOk Go.Proofs.Try.prog 152 [.agg [.lit (.string a.name), .sl (rowsOf eI a.label), .lit (.int .i64 a.watch)], .lit (.int .i64 left)] [] (.lit (.int .i64 res)) [] := by
  refine callOk_of (ra := []) (md := mdT) hT (hi := hi152) Go.Proofs.Try.func152 rfl rfl (by decide +kernel) (by simp) ?_
  unfold m_laws_szNode at h
  rcases ite_some h with ⟨h1, h⟩ | ⟨h1, h⟩
  · cases h
    simp -implicitDefEqProofs -dsimp only [go_sem, (eq_true h1)]
  · obtain ⟨r1001, g2, h⟩ := obnd_some h
    simp -implicitDefEqProofs -dsimp only [go_sem, (eq_false h1)]
    refine callW_of (c_laws_szIntS g2) ?_
    rcases ite_some h with ⟨h3, h⟩ | ⟨h3, h⟩
    · cases h
      simp -implicitDefEqProofs -dsimp only [go_sem, (eq_false h1), (eq_true h3)]
    · cases h
      simp -implicitDefEqProofs -dsimp only [go_sem, (eq_false h1), (eq_false h3)]
/- 83 loop.example/g00827/laws.szNodeS -/
def m_laws_szNodeS_L1_St (a : List GNode) : (Int × Int) → St
  | (left, i) => ⟨[(0, .sl (rowsOf GNode.encS a)), (1, .lit (.int .i64 left)), (5, .lit (.int .i64 i))], [], 2⟩
attribute [go_sem] m_laws_szNodeS_L1_St
def hi83 : Hint where
  acts := fun _ => []
  draws := fun
    | _ => ⟨.nil, [], []⟩
theorem hi83a (i : Nat) : hi83.acts i = [] := rfl
theorem hi83v (i : Nat) : hi83.views i = none := rfl
attribute [go_sem] hi83a hi83v Go.Proofs.Try.ntmps83 Go.Proofs.Try.results83
theorem c_laws_szNodeS {a : List GNode} {left : Int} {res : Int} (h : m_laws_szNodeS a left = some res) : CallOk Go.Proofs.Try.prog 83 [.sl (rowsOf GNode.encS a), .lit (.int .i64 left)] [] (.lit (.int .i64 res)) [] := by
  refine callOk_of (ra := []) (md := mdT) hT (hi := hi83) Go.Proofs.Try.func83 rfl rfl (by decide +kernel) (by simp) ?_
  unfold m_laws_szNodeS at h
  rcases ite_some h with ⟨h1, h⟩ | ⟨h1, h⟩
  · cases h
    simp -implicitDefEqProofs -dsimp only [go_sem, (eq_true h1)]
  · obtain ⟨q1003, l2, h⟩ := obnd_some h
    simp -implicitDefEqProofs -dsimp only [go_sem, (eq_false h1)]
    refine loopW_loopO (m1 := .mk) (m2 := .mk) [.nf [0, 1, 5] []] (m_laws_szNodeS_L1_St a) l2 ?_ ?_
    · simp -implicitDefEqProofs -dsimp only [go_sem, (eq_false h1)]
    · intro nb3 sb3 bb3 b3 gb3
      obtain ⟨left_1, i_1⟩ := sb3
      unfold m_laws_szNodeS_L1 at b3
      try dsimp only at b3
      rcases ite_some b3 with ⟨h4, b3⟩ | ⟨h4, b3⟩
      · obtain ⟨x1001, g5, b3⟩ := obnd_some b3
        obtain ⟨h6, h7, h8⟩ := getI_some g5
        obtain ⟨r1002, g9, b3⟩ := obnd_some b3
        simp -implicitDefEqProofs -dsimp only [go_sem, (eq_false h1), (eq_true h4), h6, h7, h8]
        refine callW_of (c_laws_szNode g9) ?_
        rcases ite_some b3 with ⟨h10, b3⟩ | ⟨h10, b3⟩
        · cases b3
          have e11 := (done_of gb3).symm
          subst e11
          try dsimp only at h
          cases h
          simp -implicitDefEqProofs -dsimp only [go_sem, (eq_false h1), (eq_true h4), h6, h7, h8, (eq_true h10)]
        · cases b3
          simp -implicitDefEqProofs -dsimp only [go_sem, (eq_false h1), (eq_true h4), h6, h7, h8, (eq_false h10)]
          refine next_of gb3 ?_
          simp -implicitDefEqProofs -dsimp only [go_sem, (eq_false h1), (eq_true h4), h6, h7, h8, (eq_false h10)]
      · cases b3
        have e12 := (done_of gb3).symm
        subst e12
        try dsimp only at h
        cases h
        simp -implicitDefEqProofs -dsimp only [go_sem, (eq_false h1), (eq_false h4)]
/- 84 loop.example/g00827/laws.szTieS -/
def hi84 : Hint where
  acts := fun _ => []
  draws := fun
    | _ => ⟨.nil, [], []⟩
theorem hi84a (i : Nat) : hi84.acts i = [] := rfl
theorem hi84v (i : Nat) : hi84.views i = none := rfl
attribute [go_sem] hi84a hi84v Go.Proofs.Try.ntmps84 Go.Proofs.Try.results84
theorem c_laws_szTieS {a : List GTie} {left : Int} {res : Int} (h : m_laws_szTieS a left = some res) : CallOk Go.Proofs.Try.prog 84 [.sl (rowsOf GTie.enc a), .lit (.int .i64 left)] [] (.lit (.int .i64 res)) [] := by
  refine callOk_of (ra := []) (md := mdT) hT (hi := hi84) Go.Proofs.Try.func84 rfl rfl (by decide +kernel) (by simp) ?_
  unfold m_laws_szTieS at h
  rcases ite_some h with ⟨h1, h⟩ | ⟨h1, h⟩
  · cases h
    simp -implicitDefEqProofs -dsimp only [go_sem, (eq_true h1)]
  · cases h
    simp -implicitDefEqProofs -dsimp only [go_sem, (eq_false h1)]
/- 18 loop.example/g00827/laws.szShow -/
def hi18 : Hint where
  acts := fun _ => []
  draws := fun
    | _ => ⟨.nil, [], []⟩
theorem hi18a (i : Nat) : hi18.acts i = [] := rfl
theorem hi18v (i : Nat) : hi18.views i = none := rfl
attribute [go_sem] hi18a hi18v Go.Proofs.Try.ntmps18 Go.Proofs.Try.results18
theorem c_laws_szShow {a : GShow} {left : Int} {res : Int} (h : m_laws_szShow a left = some res) : CallOk Go.Proofs.Try.prog 18 [.agg [.sl (rowsOf GNode.encS a.nodes), .sl (rowsOf GTie.enc a.ties), .lit (.int .i64 a.horizon)], .lit (.int .i64 left)] [] (.lit (.int .i64 res)) [] := by
  refine callOk_of (ra := []) (md := mdT) hT (hi := hi18) Go.Proofs.Try.func18 rfl rfl (by decide +kernel) (by simp) ?_
  unfold m_laws_szShow at h
  obtain ⟨r1001, g1, h⟩ := obnd_some h
  simp -implicitDefEqProofs -dsimp only [go_sem]
  refine callW_of (c_laws_szNodeS g1) ?_
  rcases ite_some h with ⟨h2, h⟩ | ⟨h2, h⟩
  · cases h
    simp -implicitDefEqProofs -dsimp only [go_sem, (eq_true h2)]
  · obtain ⟨r1002, g3, h⟩ := obnd_some h
    simp -implicitDefEqProofs -dsimp only [go_sem, (eq_false h2)]
    refine callW_of (c_laws_szTieS g3) ?_
    rcases ite_some h with ⟨h4, h⟩ | ⟨h4, h⟩
    · cases h
      simp -implicitDefEqProofs -dsimp only [go_sem, (eq_false h2), (eq_true h4)]
    · cases h
      simp -implicitDefEqProofs -dsimp only [go_sem, (eq_false h2), (eq_false h4)]
/- 21 loop.example/g00827/laws.toIntS -/
def m_laws_toIntS_L1_St (a : List Int) : (Int × (List Int)) → St
  | (i, out) => ⟨[(0, .sl (rowsOf eI a)), (3, .ref 448 1 0 out.length), (4, .lit (.int .i64 i))], [(448, 1, .row true (rowsOf eI out))], 2⟩
attribute [go_sem] m_laws_toIntS_L1_St
def hi21 : Hint where
  acts := fun _ => []
  draws := fun
    | _ => ⟨.nil, [], []⟩
theorem hi21a (i : Nat) : hi21.acts i = [] := rfl
theorem hi21v (i : Nat) : hi21.views i = none := rfl
attribute [go_sem] hi21a hi21v Go.Proofs.Try.ntmps21 Go.Proofs.Try.results21
theorem c_laws_toIntS {a : List Int} {res : List Int} (h : m_laws_toIntS a = some res) : CallOk Go.Proofs.Try.prog 21 [.sl (rowsOf eI a)] [] (.ref 20000 1 0 res.length) [(20000, 1, .row true (rowsOf eI res))] := by
  refine callOk_of (ra := [.home 2]) (md := mdT) hT (hi := hi21) Go.Proofs.Try.func21 rfl rfl (by decide +kernel) (by simp) ?_
  unfold m_laws_toIntS at h
  obtain ⟨h1, h⟩ := chk_some h
  obtain ⟨h2, h⟩ := chk_some h
  obtain ⟨q1003, l3, h⟩ := obnd_some h
  simp -implicitDefEqProofs -dsimp only [go_sem, (eq_true h1), (eq_true h2)]
  refine loopW_loopO (m1 := .mk) (m2 := .mk) [.nf [0, 3, 4] [448]] (m_laws_toIntS_L1_St a) l3 ?_ ?_
  · simp -implicitDefEqProofs -dsimp only [go_sem, (eq_true h1), (eq_true h2)]
  · intro nb4 sb4 bb4 b4 gb4
    obtain ⟨i_1, out_1⟩ := sb4
    unfold m_laws_toIntS_L1 at b4
    try dsimp only at b4
    rcases ite_some b4 with ⟨h5, b4⟩ | ⟨h5, b4⟩
    · obtain ⟨x1001, g6, b4⟩ := obnd_some b4
      obtain ⟨h7, h8, h9⟩ := getI_some g6
      obtain ⟨x1002, g10, b4⟩ := obnd_some b4
      obtain ⟨h11, h12, h13⟩ := getI_some g10
      cases b4
      simp -implicitDefEqProofs -dsimp only [go_sem, (eq_true h1), (eq_true h2), (eq_true h5), h7, h8, h9, h11, h12, h13]
      refine next_of gb4 ?_
      simp -implicitDefEqProofs -dsimp only [go_sem, (eq_true h1), (eq_true h2), (eq_true h5), h7, h8, h9, h11, h12, h13]
    · cases b4
      have e14 := (done_of gb4).symm
      subst e14
      try dsimp only at h
      cases h
      simp -implicitDefEqProofs -dsimp only [go_sem, (eq_true h1), (eq_true h2), (eq_false h5)]
/- 153 loop.example/g00827/laws.toNode -/
def hi153 : Hint where
  acts := fun _ => []
  draws := fun
    | _ => ⟨.nil, [], []⟩
theorem hi153a (i : Nat) : hi153.acts i = [] := rfl
theorem hi153v (i : Nat) : hi153.views i = none := rfl
attribute [go_sem] hi153a hi153v Go.Proofs.Try.ntmps153 Go.Proofs.Try.results153
theorem c_laws_toNode {a : GNode} {res : GNode} (h : m_laws_toNode a = some res) : CallOk Go.Proofs.Try.prog 153 [.agg [.lit (.string a.name), .sl (rowsOf eI a.label), .lit (.int .i64 a.watch)]] [] (.agg [.lit (.string res.name), .ref 20000 1 0 res.label.length, .lit (.int .i64 res.watch)]) [(20000, 1, .row true (rowsOf eI res.label))] := by
  refine callOk_of (ra := [.homeCell 128 1]) (md := mdT) hT (hi := hi153) Go.Proofs.Try.func153 rfl rfl (by decide +kernel) (by simp) ?_
  unfold m_laws_toNode at h
  obtain ⟨r1001, g1, h⟩ := obnd_some h
  simp -implicitDefEqProofs -dsimp only [go_sem]
  refine callW_of (c_laws_toIntS g1) ?_
  cases h
  simp -implicitDefEqProofs -dsimp only [go_sem]
/- 86 loop.example/g00827/laws.toNodeS -/
def m_laws_toNodeS_L1_St (a : List GNode) : (Int × (List GNode)) → St
  | (i, out) => ⟨[(0, .sl (rowsOf GNode.encS a)), (3, .ref 448 1 0 out.length), (4, .lit (.int .i64 i))], [(448, 1, .row true (rowsOf GNode.encO out))], 2⟩
attribute [go_sem] m_laws_toNodeS_L1_St
def hi86 : Hint where
  acts := fun _ => []
  draws := fun
    | _ => ⟨.nil, [], []⟩
theorem hi86a (i : Nat) : hi86.acts i = [] := rfl
theorem hi86v (i : Nat) : hi86.views i = none := rfl
attribute [go_sem] hi86a hi86v Go.Proofs.Try.ntmps86 Go.Proofs.Try.results86
theorem c_laws_toNodeS {a : List GNode} {res : List GNode} (h : m_laws_toNodeS a = some res) : CallOk Go.Proofs.Try.prog 86 [.sl (rowsOf GNode.encS a)] [] (.ref 20000 1 0 res.length) [(20000, 1, .row true (rowsOf GNode.encO res))] := by
  refine callOk_of (ra := [.home 2]) (md := mdT) hT (hi := hi86) Go.Proofs.Try.func86 rfl rfl (by decide +kernel) (by simp) ?_
  unfold m_laws_toNodeS at h
  obtain ⟨h1, h⟩ := chk_some h
  obtain ⟨h2, h⟩ := chk_some h
  obtain ⟨q1004, l3, h⟩ := obnd_some h
  simp -implicitDefEqProofs -dsimp only [go_sem, (eq_true h1), (eq_true h2)]
  refine loopW_loopO (m1 := .mk) (m2 := .mk) [.nf [0, 3, 4] [448]] (m_laws_toNodeS_L1_St a) l3 ?_ ?_
  · simp -implicitDefEqProofs -dsimp only [go_sem, (eq_true h1), (eq_true h2)]
  · intro nb4 sb4 bb4 b4 gb4
    obtain ⟨i_1, out_1⟩ := sb4
    unfold m_laws_toNodeS_L1 at b4
    try dsimp only at b4
    rcases ite_some b4 with ⟨h5, b4⟩ | ⟨h5, b4⟩
    · obtain ⟨x1001, g6, b4⟩ := obnd_some b4
      obtain ⟨h7, h8, h9⟩ := getI_some g6
      obtain ⟨r1002, g10, b4⟩ := obnd_some b4
      simp -implicitDefEqProofs -dsimp only [go_sem, (eq_true h1), (eq_true h2), (eq_true h5), h7, h8, h9]
      refine callW_of (c_laws_toNode g10) ?_
      obtain ⟨x1003, g11, b4⟩ := obnd_some b4
      obtain ⟨h12, h13, h14⟩ := getI_some g11
      cases b4
      simp -implicitDefEqProofs -dsimp only [go_sem, (eq_true h1), (eq_true h2), (eq_true h5), h7, h8, h9, h12, h13, h14]
      refine next_of gb4 ?_
      simp -implicitDefEqProofs -dsimp only [go_sem, (eq_true h1), (eq_true h2), (eq_true h5), h7, h8, h9, h12, h13, h14]
    · cases b4
      have e15 := (done_of gb4).symm
      subst e15
      try dsimp only at h
      cases h
      simp -implicitDefEqProofs -dsimp only [go_sem, (eq_true h1), (eq_true h2), (eq_false h5)]
/- 154 loop.example/g00827/laws.toTie -/
def hi154 : Hint where
  acts := fun _ => []
  draws := fun
    | _ => ⟨.nil, [], []⟩
theorem hi154a (i : Nat) : hi154.acts i = [] := rfl
theorem hi154v (i : Nat) : hi154.views i = none := rfl
attribute [go_sem] hi154a hi154v Go.Proofs.Try.ntmps154 Go.Proofs.Try.results154
theorem c_laws_toTie {a : GTie} {res : GTie} (h : m_laws_toTie a = some res) : CallOk Go.Proofs.Try.prog 154 [.agg [.lit (.int .i64 a.from_), .lit (.int .i64 a.to), .lit (.int .i64 a.low), .lit (.int .i64 a.high), .lit (.bool a.free)]] [] (.agg [.lit (.int .i64 res.from_), .lit (.int .i64 res.to), .lit (.int .i64 res.low), .lit (.int .i64 res.high), .lit (.bool res.free)]) [] := by
  refine callOk_of (ra := []) (md := mdT) hT (hi := hi154) Go.Proofs.Try.func154 rfl rfl (by decide +kernel) (by simp) ?_
  unfold m_laws_toTie at h
  cases h
  simp -implicitDefEqProofs -dsimp only [go_sem]
/- 87 loop.example/g00827/laws.toTieS -/
def m_laws_toTieS_L1_St (a : List GTie) : (Int × (List GTie)) → St
  | (i, out) => ⟨[(0, .sl (rowsOf GTie.enc a)), (3, .ref 448 1 0 out.length), (4, .lit (.int .i64 i))], [(448, 1, .row true (rowsOf GTie.enc out))], 2⟩
attribute [go_sem] m_laws_toTieS_L1_St
def hi87 : Hint where
  acts := fun _ => []
  draws := fun
    | _ => ⟨.nil, [], []⟩
theorem hi87a (i : Nat) : hi87.acts i = [] := rfl
theorem hi87v (i : Nat) : hi87.views i = none := rfl
attribute [go_sem] hi87a hi87v Go.Proofs.Try.ntmps87 Go.Proofs.Try.results87
theorem c_laws_toTieS {a : List GTie} {res : List GTie} (h : m_laws_toTieS a = some res) : CallOk Go.Proofs.Try.prog 87 [.sl (rowsOf GTie.enc a)] [] (.ref 20000 1 0 res.length) [(20000, 1, .row true (rowsOf GTie.enc res))] := by
  refine callOk_of (ra := [.home 2]) (md := mdT) hT (hi := hi87) Go.Proofs.Try.func87 rfl rfl (by decide +kernel) (by simp) ?_
  unfold m_laws_toTieS at h
  obtain ⟨h1, h⟩ := chk_some h
  obtain ⟨h2, h⟩ := chk_some h
  obtain ⟨q1004, l3, h⟩ := obnd_some h
  simp -implicitDefEqProofs -dsimp only [go_sem, (eq_true h1), (eq_true h2)]
  refine loopW_loopO (m1 := .mk) (m2 := .mk) [.nf [0, 3, 4] [448]] (m_laws_toTieS_L1_St a) l3 ?_ ?_
  · simp -implicitDefEqProofs -dsimp only [go_sem, (eq_true h1), (eq_true h2)]
  · intro nb4 sb4 bb4 b4 gb4
    obtain ⟨i_1, out_1⟩ := sb4
    unfold m_laws_toTieS_L1 at b4
    try dsimp only at b4
    rcases ite_some b4 with ⟨h5, b4⟩ | ⟨h5, b4⟩
    · obtain ⟨x1001, g6, b4⟩ := obnd_some b4
      obtain ⟨h7, h8, h9⟩ := getI_some g6
      obtain ⟨r1002, g10, b4⟩ := obnd_some b4
      simp -implicitDefEqProofs -dsimp only [go_sem, (eq_true h1), (eq_true h2), (eq_true h5), h7, h8, h9]
      refine callW_of (c_laws_toTie g10) ?_
      obtain ⟨x1003, g11, b4⟩ := obnd_some b4
      obtain ⟨h12, h13, h14⟩ := getI_some g11
      cases b4
      simp -implicitDefEqProofs -dsimp only [go_sem, (eq_true h1), (eq_true h2), (eq_true h5), h7, h8, h9, h12, h13, h14]
      refine next_of gb4 ?_
      simp -implicitDefEqProofs -dsimp only [go_sem, (eq_true h1), (eq_true h2), (eq_true h5), h7, h8, h9, h12, h13, h14]
    · cases b4
      have e15 := (done_of gb4).symm
      subst e15
      try dsimp only at h
      cases h
      simp -implicitDefEqProofs -dsimp only [go_sem, (eq_true h1), (eq_true h2), (eq_false h5)]
/- 20 loop.example/g00827/laws.toShow -/
def hi20 : Hint where
  acts := fun _ => []
  draws := fun
    | _ => ⟨.nil, [], []⟩
theorem hi20a (i : Nat) : hi20.acts i = [] := rfl
theorem hi20v (i : Nat) : hi20.views i = none := rfl
attribute [go_sem] hi20a hi20v Go.Proofs.Try.ntmps20 Go.Proofs.Try.results20
theorem c_laws_toShow {a : GShow} {res : GShow} (h : m_laws_toShow a = some res) : CallOk Go.Proofs.Try.prog 20 [.agg [.sl (rowsOf GNode.encS a.nodes), .sl (rowsOf GTie.enc a.ties), .lit (.int .i64 a.horizon)]] [] (.agg [.ref 20000 1 0 res.nodes.length, .ref 20001 1 0 res.ties.length, .lit (.int .i64 res.horizon)]) [(20000, 1, .row true (rowsOf GNode.encO res.nodes)), (20001, 1, .row true (rowsOf GTie.enc res.ties))] := by
  refine callOk_of (ra := [.homeCell 128 0, .homeCell 128 1]) (md := mdT) hT (hi := hi20) Go.Proofs.Try.func20 rfl rfl (by decide +kernel) (by simp) ?_
  unfold m_laws_toShow at h
  obtain ⟨r1001, g1, h⟩ := obnd_some h
  simp -implicitDefEqProofs -dsimp only [go_sem]
  refine callW_of (c_laws_toNodeS g1) ?_
  obtain ⟨r1002, g2, h⟩ := obnd_some h
  simp -implicitDefEqProofs -dsimp only [go_sem]
  refine callW_of (c_laws_toTieS g2) ?_
  cases h
  simp -implicitDefEqProofs -dsimp only [go_sem]
/- 120 loop.example/g00827/spec.l01In -/
def hi120 : Hint where
  acts := fun _ => []
  draws := fun
    | _ => ⟨.nil, [], []⟩
theorem hi120a (i : Nat) : hi120.acts i = [] := rfl
theorem hi120v (i : Nat) : hi120.views i = none := rfl
attribute [go_sem] hi120a hi120v Go.Proofs.Try.ntmps120 Go.Proofs.Try.results120
theorem c_spec_l01In {n : Int} {lo : Int} {hi : Int} {res : Bool} (h : m_spec_l01In n lo hi = some res) : CallOk Go.Proofs.Try.prog 120 [.lit (.int .i64 n), .lit (.int .i64 lo), .lit (.int .i64 hi)] [] (.lit (.bool res)) [] := by
  refine callOk_of (ra := []) (md := mdT) hT (hi := hi120) Go.Proofs.Try.func120 rfl rfl (by decide +kernel) (by simp) ?_
  unfold m_spec_l01In at h
  rcases ite_some h with ⟨h1, h⟩ | ⟨h1, h⟩
  · cases h
    simp -implicitDefEqProofs -dsimp only [go_sem, (eq_true h1)]
  · cases h
    simp -implicitDefEqProofs -dsimp only [go_sem, (eq_false h1)]
/- 206 loop.example/g00827/spec.IsName -/
def m_spec_IsName_L1_St (s : ByteArray) (i : Int) : St := ⟨[(0, .lit (.string s)), (3, .lit (.int .i64 i))], [], 2⟩
attribute [go_sem] m_spec_IsName_L1_St
def hi206 : Hint where
  acts := fun _ => []
  draws := fun
    | _ => ⟨.nil, [], []⟩
theorem hi206a (i : Nat) : hi206.acts i = [] := rfl
theorem hi206v (i : Nat) : hi206.views i = none := rfl
attribute [go_sem] hi206a hi206v Go.Proofs.Try.ntmps206 Go.Proofs.Try.results206
theorem c_spec_IsName {s : ByteArray} {res : Bool} (h : m_spec_IsName s = some res) : CallOk Go.Proofs.Try.prog 206 [.lit (.string s)] [] (.lit (.bool res)) [] := by
  refine callOk_of (ra := []) (md := mdT) hT (hi := hi206) Go.Proofs.Try.func206 rfl rfl (by decide +kernel) (by simp) ?_
  unfold m_spec_IsName at h
  obtain ⟨q1003, l1, h⟩ := obnd_some h
  simp -implicitDefEqProofs -dsimp only [go_sem]
  refine loopW_loopO (m1 := .mk) (m2 := .mk) [.nf [0, 3] []] (m_spec_IsName_L1_St s) l1 ?_ ?_
  · simp -implicitDefEqProofs -dsimp only [go_sem]
  · intro nb2 sb2 bb2 b2 gb2
    obtain ⟨i_1, eb2⟩ : ∃ v, v = sb2 := ⟨_, rfl⟩; subst eb2
    unfold m_spec_IsName_L1 at b2
    try dsimp only at b2
    rcases ite_some b2 with ⟨h3, b2⟩ | ⟨h3, b2⟩
    · obtain ⟨c1001, g4, b2⟩ := obnd_some b2
      obtain ⟨h5, h6, h7⟩ := getS_some g4
      rcases ite_some b2 with ⟨h8, b2⟩ | ⟨h8, b2⟩
      · rcases ite_some b2 with ⟨h9, b2⟩ | ⟨h9, b2⟩
        · cases b2
          simp -implicitDefEqProofs -dsimp only [go_sem, (eq_true h3), h5, h6, h7, (eq_true h8), (eq_true h9)]
          refine next_of gb2 ?_
          simp -implicitDefEqProofs -dsimp only [go_sem, (eq_true h3), h5, h6, h7, (eq_true h8), (eq_true h9)]
        · rcases ite_some b2 with ⟨h10, b2⟩ | ⟨h10, b2⟩
          · cases b2
            have e11 := (done_of gb2).symm
            subst e11
            try dsimp only at h
            cases h
            simp -implicitDefEqProofs -dsimp only [go_sem, (eq_true h3), h5, h6, h7, (eq_true h8), (eq_false h9), (eq_true h10)]
          · rcases ite_some b2 with ⟨h12, b2⟩ | ⟨h12, b2⟩
            · cases b2
              have e13 := (done_of gb2).symm
              subst e13
              try dsimp only at h
              cases h
              simp -implicitDefEqProofs -dsimp only [go_sem, (eq_true h3), h5, h6, h7, (eq_true h8), (eq_false h9), (eq_false h10), (eq_true h12)]
            · rcases ite_some b2 with ⟨h14, b2⟩ | ⟨h14, b2⟩
              · cases b2
                have e15 := (done_of gb2).symm
                subst e15
                try dsimp only at h
                cases h
                simp -implicitDefEqProofs -dsimp only [go_sem, (eq_true h3), h5, h6, h7, (eq_true h8), (eq_false h9), (eq_false h10), (eq_false h12), (eq_true h14)]
              · cases b2
                simp -implicitDefEqProofs -dsimp only [go_sem, (eq_true h3), h5, h6, h7, (eq_true h8), (eq_false h9), (eq_false h10), (eq_false h12), (eq_false h14)]
                refine next_of gb2 ?_
                simp -implicitDefEqProofs -dsimp only [go_sem, (eq_true h3), h5, h6, h7, (eq_true h8), (eq_false h9), (eq_false h10), (eq_false h12), (eq_false h14)]
      · rcases ite_some b2 with ⟨h16, b2⟩ | ⟨h16, b2⟩
        · cases b2
          have e17 := (done_of gb2).symm
          subst e17
          try dsimp only at h
          cases h
          simp -implicitDefEqProofs -dsimp only [go_sem, (eq_true h3), h5, h6, h7, (eq_false h8), (eq_true h16)]
        · rcases ite_some b2 with ⟨h18, b2⟩ | ⟨h18, b2⟩
          · cases b2
            have e19 := (done_of gb2).symm
            subst e19
            try dsimp only at h
            cases h
            simp -implicitDefEqProofs -dsimp only [go_sem, (eq_true h3), h5, h6, h7, (eq_false h8), (eq_false h16), (eq_true h18)]
          · rcases ite_some b2 with ⟨h20, b2⟩ | ⟨h20, b2⟩
            · cases b2
              have e21 := (done_of gb2).symm
              subst e21
              try dsimp only at h
              cases h
              simp -implicitDefEqProofs -dsimp only [go_sem, (eq_true h3), h5, h6, h7, (eq_false h8), (eq_false h16), (eq_false h18), (eq_true h20)]
            · cases b2
              simp -implicitDefEqProofs -dsimp only [go_sem, (eq_true h3), h5, h6, h7, (eq_false h8), (eq_false h16), (eq_false h18), (eq_false h20)]
              refine next_of gb2 ?_
              simp -implicitDefEqProofs -dsimp only [go_sem, (eq_true h3), h5, h6, h7, (eq_false h8), (eq_false h16), (eq_false h18), (eq_false h20)]
    · cases b2
      have e22 := (done_of gb2).symm
      subst e22
      try dsimp only at h
      obtain ⟨r1002, g23, h⟩ := obnd_some h
      simp -implicitDefEqProofs -dsimp only [go_sem, (eq_false h3)]
      refine callW_of (c_spec_l01In g23) ?_
      cases h
      simp -implicitDefEqProofs -dsimp only [go_sem, (eq_false h3)]
/- 200 loop.example/g00827/spec.l07Prop -/
def hi200 : Hint where
  acts := fun _ => []
  draws := fun
    | _ => ⟨.nil, [], []⟩
theorem hi200a (i : Nat) : hi200.acts i = [] := rfl
theorem hi200v (i : Nat) : hi200.views i = none := rfl
attribute [go_sem] hi200a hi200v Go.Proofs.Try.ntmps200 Go.Proofs.Try.results200
theorem c_spec_l07Prop {n : Int} {res : Int} (h : m_spec_l07Prop n = some res) : CallOk Go.Proofs.Try.prog 200 [.lit (.int .i64 n)] [] (.lit (.int .i64 res)) [] := by
  refine callOk_of (ra := []) (md := mdT) hT (hi := hi200) Go.Proofs.Try.func200 rfl rfl (by decide +kernel) (by simp) ?_
  unfold m_spec_l07Prop at h
  rcases ite_some h with ⟨h1, h⟩ | ⟨h1, h⟩
  · cases h
    simp -implicitDefEqProofs -dsimp only [go_sem, (eq_true h1)]
  · cases h
    simp -implicitDefEqProofs -dsimp only [go_sem, (eq_false h1)]
/- 207 loop.example/g00827/spec.LabelOk -/
def m_spec_LabelOk_L1_St (l : List Int) (v6 : Int) (v7 : Int) : St := ⟨[(0, .sl (rowsOf eI l)), (5, .sl (rowsOf eI l)), (6, .lit (.int .i64 v6)), (7, .lit (.int .i64 v7))], [], 2⟩
attribute [go_sem] m_spec_LabelOk_L1_St
def hi207 : Hint where
  acts := fun _ => []
  draws := fun
    | _ => ⟨.nil, [], []⟩
theorem hi207a (i : Nat) : hi207.acts i = [] := rfl
theorem hi207v (i : Nat) : hi207.views i = none := rfl
attribute [go_sem] hi207a hi207v Go.Proofs.Try.ntmps207 Go.Proofs.Try.results207
theorem c_spec_LabelOk {l : List Int} {res : Bool} (h : m_spec_LabelOk l = some res) : CallOk Go.Proofs.Try.prog 207 [.sl (rowsOf eI l)] [] (.lit (.bool res)) [] := by
  refine callOk_of (ra := []) (md := mdT) hT (hi := hi207) Go.Proofs.Try.func207 rfl rfl (by decide +kernel) (by simp) ?_
  unfold m_spec_LabelOk at h
  obtain ⟨q1006, l1, h⟩ := obnd_some h
  simp -implicitDefEqProofs -dsimp only [go_sem]
  refine loopW_loopO (m1 := .mk) (m2 := .mk) [.nf [0, 5, 6, 7] []] (m_spec_LabelOk_L1_St l ((l.length : Nat) : Int)) l1 ?_ ?_
  · simp -implicitDefEqProofs -dsimp only [go_sem]
  · intro nb2 sb2 bb2 b2 gb2
    obtain ⟨v7_1, eb2⟩ : ∃ v, v = sb2 := ⟨_, rfl⟩; subst eb2
    unfold m_spec_LabelOk_L1 at b2
    try dsimp only at b2
    rcases ite_some b2 with ⟨h3, b2⟩ | ⟨h3, b2⟩
    · obtain ⟨x1001, g4, b2⟩ := obnd_some b2
      obtain ⟨h5, h6, h7⟩ := getI_some g4
      rcases ite_some b2 with ⟨h8, b2⟩ | ⟨h8, b2⟩
      · cases b2
        have e9 := (done_of gb2).symm
        subst e9
        try dsimp only at h
        cases h
        simp -implicitDefEqProofs -dsimp only [go_sem, (eq_true h3), h5, h6, h7, (eq_true h8)]
      · obtain ⟨r1002, g10, b2⟩ := obnd_some b2
        simp -implicitDefEqProofs -dsimp only [go_sem, (eq_true h3), h5, h6, h7, (eq_false h8)]
        refine callW_of (c_spec_l01In g10) ?_
        rcases ite_some b2 with ⟨h11, b2⟩ | ⟨h11, b2⟩
        · rcases ite_some b2 with ⟨h12, b2⟩ | ⟨h12, b2⟩
          · obtain ⟨x1003, g13, b2⟩ := obnd_some b2
            obtain ⟨h14, h15, h16⟩ := getI_some g13
            obtain ⟨r1004, g17, b2⟩ := obnd_some b2
            simp -implicitDefEqProofs -dsimp only [go_sem, (eq_true h3), h5, h6, h7, (eq_false h8), (eq_true h11), (condZ_t h11), (eq_true h12), h14, h15, h16]
            refine callW_of (c_spec_l07Prop g17) ?_
            obtain ⟨r1005, g18, b2⟩ := obnd_some b2
            simp -implicitDefEqProofs -dsimp only [go_sem, (eq_true h3), h5, h6, h7, (eq_false h8), (eq_true h11), (condZ_t h11), (eq_true h12), h14, h15, h16]
            refine callW_of (c_spec_l07Prop g18) ?_
            rcases ite_some b2 with ⟨h19, b2⟩ | ⟨h19, b2⟩
            · cases b2
              have e20 := (done_of gb2).symm
              subst e20
              try dsimp only at h
              cases h
              simp -implicitDefEqProofs -dsimp only [go_sem, (eq_true h3), h5, h6, h7, (eq_false h8), (eq_true h11), (condZ_t h11), (eq_true h12), h14, h15, h16, (eq_true h19)]
            · cases b2
              simp -implicitDefEqProofs -dsimp only [go_sem, (eq_true h3), h5, h6, h7, (eq_false h8), (eq_true h11), (condZ_t h11), (eq_true h12), h14, h15, h16, (eq_false h19)]
              refine next_of gb2 ?_
              simp -implicitDefEqProofs -dsimp only [go_sem, (eq_true h3), h5, h6, h7, (eq_false h8), (eq_true h11), (condZ_t h11), (eq_true h12), h14, h15, h16, (eq_false h19)]
          · cases b2
            simp -implicitDefEqProofs -dsimp only [go_sem, (eq_true h3), h5, h6, h7, (eq_false h8), (eq_true h11), (condZ_t h11), (eq_false h12)]
            refine next_of gb2 ?_
            simp -implicitDefEqProofs -dsimp only [go_sem, (eq_true h3), h5, h6, h7, (eq_false h8), (eq_true h11), (condZ_t h11), (eq_false h12)]
        · cases b2
          have e21 := (done_of gb2).symm
          subst e21
          try dsimp only at h
          cases h
          simp -implicitDefEqProofs -dsimp only [go_sem, (eq_true h3), h5, h6, h7, (eq_false h8), (eq_false h11), (condZ_f h11)]
    · cases b2
      have e22 := (done_of gb2).symm
      subst e22
      try dsimp only at h
      cases h
      simp -implicitDefEqProofs -dsimp only [go_sem, (eq_false h3)]
/- 198 loop.example/g00827/spec.NodeOk -/
def hi198 : Hint where
  acts := fun _ => []
  draws := fun
    | _ => ⟨.nil, [], []⟩
theorem hi198a (i : Nat) : hi198.acts i = [] := rfl
theorem hi198v (i : Nat) : hi198.views i = none := rfl
attribute [go_sem] hi198a hi198v Go.Proofs.Try.ntmps198 Go.Proofs.Try.results198
theorem c_spec_NodeOk {n : GNode} {res : Bool} (h : m_spec_NodeOk n = some res) : CallOk Go.Proofs.Try.prog 198 [.agg [.lit (.string n.name), .sl (rowsOf eI n.label), .lit (.int .i64 n.watch)]] [] (.lit (.bool res)) [] := by
  refine callOk_of (ra := []) (md := mdT) hT (hi := hi198) Go.Proofs.Try.func198 rfl rfl (by decide +kernel) (by simp) ?_
  unfold m_spec_NodeOk at h
  obtain ⟨r1001, g1, h⟩ := obnd_some h
  simp -implicitDefEqProofs -dsimp only [go_sem]
  refine callW_of (c_spec_IsName g1) ?_
  rcases ite_some h with ⟨h2, h⟩ | ⟨h2, h⟩
  · obtain ⟨r1002, g3, h⟩ := obnd_some h
    simp -implicitDefEqProofs -dsimp only [go_sem, (eq_true h2), (condZ_t h2)]
    refine callW_of (c_spec_LabelOk g3) ?_
    rcases ite_some h with ⟨h4, h⟩ | ⟨h4, h⟩
    · obtain ⟨r1003, g5, h⟩ := obnd_some h
      simp -implicitDefEqProofs -dsimp only [go_sem, (eq_true h2), (condZ_t h2), (eq_true h4), (condZ_t h4)]
      refine callW_of (c_spec_l01In g5) ?_
      cases h
      simp -implicitDefEqProofs -dsimp only [go_sem, (eq_true h2), (condZ_t h2), (eq_true h4), (condZ_t h4)]
    · cases h
      simp -implicitDefEqProofs -dsimp only [go_sem, (eq_true h2), (condZ_t h2), (eq_false h4), (condZ_f h4)]
  · cases h
    simp -implicitDefEqProofs -dsimp only [go_sem, (eq_false h2), (condZ_f h2)]
/- 199 loop.example/g00827/spec.NodeNamed -/
def m_spec_NodeNamed_L1_St (name : ByteArray) (v8 : List GNode) (v9 : Int) (v10 : Int) : St := ⟨[(1, .lit (.string name)), (8, .sl (rowsOf GNode.encS v8)), (9, .lit (.int .i64 v9)), (10, .lit (.int .i64 v10))], [], 2⟩
attribute [go_sem] m_spec_NodeNamed_L1_St
def hi199 : Hint where
  acts := fun _ => []
  draws := fun
    | _ => ⟨.nil, [], []⟩
theorem hi199a (i : Nat) : hi199.acts i = [] := rfl
theorem hi199v (i : Nat) : hi199.views i = none := rfl
attribute [go_sem] hi199a hi199v Go.Proofs.Try.ntmps199 Go.Proofs.Try.results199
theorem c_spec_NodeNamed {s : GShow} {name : ByteArray} {res : Int} (h : m_spec_NodeNamed s name = some res) : CallOk Go.Proofs.Try.prog 199 [.agg [.sl (rowsOf GNode.encS s.nodes), .sl (rowsOf GTie.enc s.ties), .lit (.int .i64 s.horizon)], .lit (.string name)] [] (.lit (.int .i64 res)) [] := by
  refine callOk_of (ra := []) (md := mdT) hT (hi := hi199) Go.Proofs.Try.func199 rfl rfl (by decide +kernel) (by simp) ?_
  unfold m_spec_NodeNamed at h
  obtain ⟨q1002, l1, h⟩ := obnd_some h
  simp -implicitDefEqProofs -dsimp only [go_sem]
  refine loopW_loopO (m1 := .mk) (m2 := .mk) [.nf [1, 8, 9, 10] []] (m_spec_NodeNamed_L1_St name s.nodes ((s.nodes.length : Nat) : Int)) l1 ?_ ?_
  · simp -implicitDefEqProofs -dsimp only [go_sem]
  · intro nb2 sb2 bb2 b2 gb2
    obtain ⟨v10_1, eb2⟩ : ∃ v, v = sb2 := ⟨_, rfl⟩; subst eb2
    unfold m_spec_NodeNamed_L1 at b2
    try dsimp only at b2
    rcases ite_some b2 with ⟨h3, b2⟩ | ⟨h3, b2⟩
    · obtain ⟨x1001, g4, b2⟩ := obnd_some b2
      obtain ⟨h5, h6, h7⟩ := getI_some g4
      rcases ite_some b2 with ⟨h8, b2⟩ | ⟨h8, b2⟩
      · cases b2
        have e9 := (done_of gb2).symm
        subst e9
        try dsimp only at h
        cases h
        simp -implicitDefEqProofs -dsimp only [go_sem, (eq_true h3), h5, h6, h7, (eq_true h8)]
      · cases b2
        simp -implicitDefEqProofs -dsimp only [go_sem, (eq_true h3), h5, h6, h7, (eq_false h8)]
        refine next_of gb2 ?_
        simp -implicitDefEqProofs -dsimp only [go_sem, (eq_true h3), h5, h6, h7, (eq_false h8)]
    · cases b2
      have e10 := (done_of gb2).symm
      subst e10
      try dsimp only at h
      cases h
      simp -implicitDefEqProofs -dsimp only [go_sem, (eq_false h3)]
/- 188 loop.example/g00827/spec.l08Watcher -/
def m_spec_l08Watcher_L1_St (p : Int) (v8 : List GNode) (v9 : Int) (v10 : Int) : St := ⟨[(1, .lit (.int .i64 p)), (8, .sl (rowsOf GNode.encS v8)), (9, .lit (.int .i64 v9)), (10, .lit (.int .i64 v10))], [], 2⟩
attribute [go_sem] m_spec_l08Watcher_L1_St
def hi188 : Hint where
  acts := fun _ => []
  draws := fun
    | _ => ⟨.nil, [], []⟩
theorem hi188a (i : Nat) : hi188.acts i = [] := rfl
theorem hi188v (i : Nat) : hi188.views i = none := rfl
attribute [go_sem] hi188a hi188v Go.Proofs.Try.ntmps188 Go.Proofs.Try.results188
theorem c_spec_l08Watcher {s : GShow} {p : Int} {res : Int} (h : m_spec_l08Watcher s p = some res) : CallOk Go.Proofs.Try.prog 188 [.agg [.sl (rowsOf GNode.encS s.nodes), .sl (rowsOf GTie.enc s.ties), .lit (.int .i64 s.horizon)], .lit (.int .i64 p)] [] (.lit (.int .i64 res)) [] := by
  refine callOk_of (ra := []) (md := mdT) hT (hi := hi188) Go.Proofs.Try.func188 rfl rfl (by decide +kernel) (by simp) ?_
  unfold m_spec_l08Watcher at h
  obtain ⟨q1002, l1, h⟩ := obnd_some h
  simp -implicitDefEqProofs -dsimp only [go_sem]
  refine loopW_loopO (m1 := .mk) (m2 := .mk) [.nf [1, 8, 9, 10] []] (m_spec_l08Watcher_L1_St p s.nodes ((s.nodes.length : Nat) : Int)) l1 ?_ ?_
  · simp -implicitDefEqProofs -dsimp only [go_sem]
  · intro nb2 sb2 bb2 b2 gb2
    obtain ⟨v10_1, eb2⟩ : ∃ v, v = sb2 := ⟨_, rfl⟩; subst eb2
    unfold m_spec_l08Watcher_L1 at b2
    try dsimp only at b2
    rcases ite_some b2 with ⟨h3, b2⟩ | ⟨h3, b2⟩
    · obtain ⟨x1001, g4, b2⟩ := obnd_some b2
      obtain ⟨h5, h6, h7⟩ := getI_some g4
      rcases ite_some b2 with ⟨h8, b2⟩ | ⟨h8, b2⟩
      · cases b2
        have e9 := (done_of gb2).symm
        subst e9
        try dsimp only at h
        cases h
        simp -implicitDefEqProofs -dsimp only [go_sem, (eq_true h3), h5, h6, h7, (eq_true h8)]
      · cases b2
        simp -implicitDefEqProofs -dsimp only [go_sem, (eq_true h3), h5, h6, h7, (eq_false h8)]
        refine next_of gb2 ?_
        simp -implicitDefEqProofs -dsimp only [go_sem, (eq_true h3), h5, h6, h7, (eq_false h8)]
    · cases b2
      have e10 := (done_of gb2).symm
      subst e10
      try dsimp only at h
      cases h
      simp -implicitDefEqProofs -dsimp only [go_sem, (eq_false h3)]
/- 85 loop.example/g00827/spec.l07Has -/
def m_spec_l07Has_L1_St (n : Int) (v7 : List Int) (v8 : Int) (v9 : Int) : St := ⟨[(1, .lit (.int .i64 n)), (7, .sl (rowsOf eI v7)), (8, .lit (.int .i64 v8)), (9, .lit (.int .i64 v9))], [], 2⟩
attribute [go_sem] m_spec_l07Has_L1_St
def hi85 : Hint where
  acts := fun _ => []
  draws := fun
    | _ => ⟨.nil, [], []⟩
theorem hi85a (i : Nat) : hi85.acts i = [] := rfl
theorem hi85v (i : Nat) : hi85.views i = none := rfl
attribute [go_sem] hi85a hi85v Go.Proofs.Try.ntmps85 Go.Proofs.Try.results85
theorem c_spec_l07Has {l : List Int} {n : Int} {res : Bool} (h : m_spec_l07Has l n = some res) : CallOk Go.Proofs.Try.prog 85 [.sl (rowsOf eI l), .lit (.int .i64 n)] [] (.lit (.bool res)) [] := by
  refine callOk_of (ra := []) (md := mdT) hT (hi := hi85) Go.Proofs.Try.func85 rfl rfl (by decide +kernel) (by simp) ?_
  unfold m_spec_l07Has at h
  obtain ⟨q1002, l1, h⟩ := obnd_some h
  simp -implicitDefEqProofs -dsimp only [go_sem]
  refine loopW_loopO (m1 := .mk) (m2 := .mk) [.nf [1, 7, 8, 9] []] (m_spec_l07Has_L1_St n l ((l.length : Nat) : Int)) l1 ?_ ?_
  · simp -implicitDefEqProofs -dsimp only [go_sem]
  · intro nb2 sb2 bb2 b2 gb2
    obtain ⟨v9_1, eb2⟩ : ∃ v, v = sb2 := ⟨_, rfl⟩; subst eb2
    unfold m_spec_l07Has_L1 at b2
    try dsimp only at b2
    rcases ite_some b2 with ⟨h3, b2⟩ | ⟨h3, b2⟩
    · obtain ⟨x1001, g4, b2⟩ := obnd_some b2
      obtain ⟨h5, h6, h7⟩ := getI_some g4
      rcases ite_some b2 with ⟨h8, b2⟩ | ⟨h8, b2⟩
      · cases b2
        have e9 := (done_of gb2).symm
        subst e9
        try dsimp only at h
        cases h
        simp -implicitDefEqProofs -dsimp only [go_sem, (eq_true h3), h5, h6, h7, (eq_true h8)]
      · cases b2
        simp -implicitDefEqProofs -dsimp only [go_sem, (eq_true h3), h5, h6, h7, (eq_false h8)]
        refine next_of gb2 ?_
        simp -implicitDefEqProofs -dsimp only [go_sem, (eq_true h3), h5, h6, h7, (eq_false h8)]
    · cases b2
      have e10 := (done_of gb2).symm
      subst e10
      try dsimp only at h
      cases h
      simp -implicitDefEqProofs -dsimp only [go_sem, (eq_false h3)]
/- 201 loop.example/g00827/spec.ImpliesLabel -/
def m_spec_ImpliesLabel_L1_St (a : List Int) (v15 : List Int) (v16 : Int) (v17 : Int) : St := ⟨[(0, .sl (rowsOf eI a)), (15, .sl (rowsOf eI v15)), (16, .lit (.int .i64 v16)), (17, .lit (.int .i64 v17))], [], 2⟩
attribute [go_sem] m_spec_ImpliesLabel_L1_St
def hi201 : Hint where
  acts := fun _ => []
  draws := fun
    | _ => ⟨.nil, [], []⟩
theorem hi201a (i : Nat) : hi201.acts i = [] := rfl
theorem hi201v (i : Nat) : hi201.views i = none := rfl
attribute [go_sem] hi201a hi201v Go.Proofs.Try.ntmps201 Go.Proofs.Try.results201
theorem c_spec_ImpliesLabel {a : List Int} {b : List Int} {res : Bool} (h : m_spec_ImpliesLabel a b = some res) : CallOk Go.Proofs.Try.prog 201 [.sl (rowsOf eI a), .sl (rowsOf eI b)] [] (.lit (.bool res)) [] := by
  refine callOk_of (ra := []) (md := mdT) hT (hi := hi201) Go.Proofs.Try.func201 rfl rfl (by decide +kernel) (by simp) ?_
  unfold m_spec_ImpliesLabel at h
  obtain ⟨r1001, g1, h⟩ := obnd_some h
  simp -implicitDefEqProofs -dsimp only [go_sem]
  refine callW_of (c_spec_LabelOk g1) ?_
  rcases ite_some h with ⟨h2, h⟩ | ⟨h2, h⟩
  · obtain ⟨r1002, g3, h⟩ := obnd_some h
    simp -implicitDefEqProofs -dsimp only [go_sem, (eq_true h2), (condZ_t h2)]
    refine callW_of (c_spec_LabelOk g3) ?_
    rcases ite_some h with ⟨h4, h⟩ | ⟨h4, h⟩
    · obtain ⟨q1005, l5, h⟩ := obnd_some h
      simp -implicitDefEqProofs -dsimp only [go_sem, (eq_true h2), (condZ_t h2), (eq_true h4), (condZ_t h4)]
      refine loopW_loopO (m1 := .mk) (m2 := .mk) [.nf [0, 15, 16, 17] []] (m_spec_ImpliesLabel_L1_St a b ((b.length : Nat) : Int)) l5 ?_ ?_
      · simp -implicitDefEqProofs -dsimp only [go_sem, (eq_true h2), (condZ_t h2), (eq_true h4), (condZ_t h4)]
      · intro nb6 sb6 bb6 b6 gb6
        obtain ⟨v17_1, eb6⟩ : ∃ v, v = sb6 := ⟨_, rfl⟩; subst eb6
        unfold m_spec_ImpliesLabel_L1 at b6
        try dsimp only at b6
        rcases ite_some b6 with ⟨h7, b6⟩ | ⟨h7, b6⟩
        · obtain ⟨x1003, g8, b6⟩ := obnd_some b6
          obtain ⟨h9, h10, h11⟩ := getI_some g8
          obtain ⟨r1004, g12, b6⟩ := obnd_some b6
          simp -implicitDefEqProofs -dsimp only [go_sem, (eq_true h2), (condZ_t h2), (eq_true h4), (condZ_t h4), (eq_true h7), h9, h10, h11]
          refine callW_of (c_spec_l07Has g12) ?_
          rcases ite_some b6 with ⟨h13, b6⟩ | ⟨h13, b6⟩
          · cases b6
            simp -implicitDefEqProofs -dsimp only [go_sem, (eq_true h2), (condZ_t h2), (eq_true h4), (condZ_t h4), (eq_true h7), h9, h10, h11, (eq_true h13), (condZ_t h13)]
            refine next_of gb6 ?_
            simp -implicitDefEqProofs -dsimp only [go_sem, (eq_true h2), (condZ_t h2), (eq_true h4), (condZ_t h4), (eq_true h7), h9, h10, h11, (eq_true h13), (condZ_t h13)]
          · cases b6
            have e14 := (done_of gb6).symm
            subst e14
            try dsimp only at h
            cases h
            simp -implicitDefEqProofs -dsimp only [go_sem, (eq_true h2), (condZ_t h2), (eq_true h4), (condZ_t h4), (eq_true h7), h9, h10, h11, (eq_false h13), (condZ_f h13)]
        · cases b6
          have e15 := (done_of gb6).symm
          subst e15
          try dsimp only at h
          cases h
          simp -implicitDefEqProofs -dsimp only [go_sem, (eq_true h2), (condZ_t h2), (eq_true h4), (condZ_t h4), (eq_false h7)]
    · cases h
      simp -implicitDefEqProofs -dsimp only [go_sem, (eq_true h2), (condZ_t h2), (eq_false h4), (condZ_f h4)]
  · cases h
    simp -implicitDefEqProofs -dsimp only [go_sem, (eq_false h2), (condZ_f h2)]
/- 181 loop.example/g00827/spec.l08Nodes -/
def m_spec_l08Nodes_L1_St (v33 : List GNode) (v34 : Int) (s_1 : List GTie) (s_2 : Int) (v35 : Int) : St := ⟨[(1, .ptr 64 1 0 0), (33, .sl (rowsOf GNode.encS v33)), (34, .lit (.int .i64 v34)), (35, .lit (.int .i64 v35))], [(64, 1, .var [.sl (rowsOf GNode.encS v33), .sl (rowsOf GTie.enc s_1), .lit (.int .i64 s_2)])], 2⟩
attribute [go_sem] m_spec_l08Nodes_L1_St
def m_spec_l08Nodes_L3_St (v66 : List GNode) (v67 : Int) (v68 : Int) (v73 : List Int) (v74 : Int) (s_1 : List GTie) (s_2 : Int) (n_0 : ByteArray) (n_2 : Int) (v75 : Int) : St := ⟨[(1, .ptr 64 1 0 0), (6, .ptr 384 1 0 0), (66, .sl (rowsOf GNode.encS v66)), (67, .lit (.int .i64 v67)), (68, .lit (.int .i64 v68)), (73, .sl (rowsOf eI v73)), (74, .lit (.int .i64 v74)), (75, .lit (.int .i64 v75))], [(64, 1, .var [.sl (rowsOf GNode.encS v66), .sl (rowsOf GTie.enc s_1), .lit (.int .i64 s_2)]), (384, 1, .var [.lit (.string n_0), .sl (rowsOf eI v73), .lit (.int .i64 n_2)])], 2⟩
attribute [go_sem] m_spec_l08Nodes_L3_St
def m_spec_l08Nodes_L4_St (v66 : List GNode) (v67 : Int) (s_1 : List GTie) (s_2 : Int) (v68 : Int) : St := ⟨[(1, .ptr 64 1 0 0), (66, .sl (rowsOf GNode.encS v66)), (67, .lit (.int .i64 v67)), (68, .lit (.int .i64 v68))], [(64, 1, .var [.sl (rowsOf GNode.encS v66), .sl (rowsOf GTie.enc s_1), .lit (.int .i64 s_2)])], 2⟩
attribute [go_sem] m_spec_l08Nodes_L4_St
def hi181 : Hint where
  acts := fun _ => []
  draws := fun
    | 15 => ⟨.cons ⟨0, true, []⟩ (.cons ⟨1, false, []⟩ (.cons ⟨2, false, [0]⟩ (.cons ⟨3, false, []⟩ (.cons ⟨4, false, []⟩ .nil)))), [[], [], [1], [0, 1, 2], [0, 1, 2, 3]], [0, 1, 2, 3, 4]⟩
    | 16 => ⟨.cons ⟨0, false, []⟩ (.cons ⟨1, false, []⟩ (.cons ⟨2, false, []⟩ (.cons ⟨3, false, []⟩ (.cons ⟨4, false, []⟩ (.cons ⟨5, false, []⟩ (.cons ⟨6, false, []⟩ (.cons ⟨7, false, []⟩ (.cons ⟨8, false, []⟩ (.cons ⟨9, false, []⟩ (.cons ⟨10, false, []⟩ (.cons ⟨11, false, []⟩ (.cons ⟨12, false, []⟩ (.cons ⟨13, false, []⟩ (.cons ⟨14, false, []⟩ (.cons ⟨15, false, []⟩ (.cons ⟨16, false, []⟩ (.cons ⟨17, false, []⟩ (.cons ⟨18, false, []⟩ (.cons ⟨19, false, []⟩ (.cons ⟨20, false, []⟩ (.cons ⟨21, false, []⟩ (.cons ⟨22, false, []⟩ (.cons ⟨23, false, []⟩ (.cons ⟨24, false, []⟩ (.cons ⟨25, false, []⟩ (.cons ⟨26, false, []⟩ (.cons ⟨27, false, []⟩ (.cons ⟨28, false, []⟩ (.cons ⟨29, false, []⟩ (.cons ⟨30, false, []⟩ (.cons ⟨31, false, []⟩ (.cons ⟨32, false, []⟩ (.cons ⟨33, false, []⟩ (.cons ⟨34, false, []⟩ .nil)))))))))))))))))))))))))))))))))), [[], [0], [0, 1], [0, 1, 2], [0, 1, 2, 3], [0, 1, 2], [0, 1, 2, 3, 4, 5], [0, 1, 2, 3, 4, 5, 6], [0, 1, 2, 3, 4, 5, 6, 7], [0, 1, 2], [0, 1, 2, 3, 4, 5, 6, 7, 8, 9], [0, 1, 2, 3, 4, 5, 6, 7, 8, 9, 10], [0, 1, 2, 3, 4, 5, 6, 7, 8, 9, 10, 11], [0, 1, 2, 3, 4, 5, 6, 7, 8, 9, 10, 11, 12], [0, 1, 2, 3, 4, 5, 6, 7, 8, 9, 10, 11, 12, 13], [0, 1, 2, 3, 4, 5, 6, 7, 8, 9, 10, 11, 12], [0, 1, 2, 3, 4, 5, 6, 7, 8, 9, 10, 11, 12, 13, 14, 15], [0, 1, 2, 3, 4, 5, 6, 7, 8, 9, 10, 11, 12, 13, 14, 15, 16], [0, 1, 2, 3, 4, 5, 6, 7, 8, 9, 10, 11, 12, 13, 14, 15, 16, 17], [0, 1, 2, 3, 4, 5, 6, 7, 8, 9, 10, 11, 12], [0, 1, 2, 3, 4, 5, 6, 7, 8, 9, 10, 11, 12, 19], [0, 1, 2, 3, 4, 5, 6, 7, 8, 9, 10, 11, 12, 13, 14, 15, 16, 17, 18, 19, 20], [0, 1, 2, 3, 4, 5, 6, 7, 8, 9, 10, 11, 12, 13, 14, 15, 16, 17, 18, 19, 20, 21], [0, 1, 2, 3, 4, 5, 6, 7, 8, 9, 10, 11, 12, 13, 14, 15, 16, 17, 18, 19, 20, 21, 22], [0, 1, 2, 3, 4, 5, 6, 7, 8, 9, 10, 11, 12, 13, 14, 15, 16, 17, 18, 19, 20, 21, 22, 23], [0, 1, 2, 3, 4, 5, 6, 7, 8, 9, 10, 11, 12, 13, 14, 15, 16, 17, 18, 19, 20, 21, 22, 23, 24], [0, 1, 2, 3, 4, 5, 6, 7, 8, 9, 10, 11, 12, 13, 14, 15, 16, 17, 18, 19, 20, 21, 22, 23], [0, 1, 2, 3, 4, 5, 6, 7, 8, 9, 10, 11, 12, 13, 14, 15, 16, 17, 18, 19, 20, 21, 22, 23, 26], [0, 1, 2, 3, 4, 5, 6, 7, 8, 9, 10, 11, 12, 13, 14, 15, 16, 17, 18, 19, 20, 21, 22, 23], [0, 1, 2, 3, 4, 5, 6, 7, 8, 9, 10, 11, 12, 13, 14, 15, 16, 17, 18, 19, 20, 21, 22, 23, 26, 27, 28], [0, 1, 2, 3, 4, 5, 6, 7, 8, 9, 10, 11, 12, 13, 14, 15, 16, 17, 18, 19, 20, 21, 22, 23, 26, 27, 28, 29], [0, 1, 2, 3, 4, 5, 6, 7, 8, 9, 10, 11, 12, 13, 14, 15, 16, 17, 18, 19, 20, 21, 22, 23, 26, 27, 28, 29, 30], [0, 1, 2, 3, 4, 5, 6, 7, 8, 9, 10, 11, 12, 13, 14, 15, 16, 17, 18, 19, 20, 21, 22, 23, 24, 25, 26, 27, 28, 29, 30, 31], [0, 1, 2, 3, 4, 5, 6, 7, 8, 9, 10, 11, 12, 13, 14, 15, 16, 17, 18, 19, 20, 21, 22, 23, 24, 25, 26, 27, 28, 29, 30, 31, 32], [0, 1, 2, 3, 4, 5, 6, 7, 8, 9, 10, 11, 12, 13, 14, 15, 16, 17, 18, 19, 20, 21, 22, 23, 24, 25, 26, 27, 28, 29, 30, 31, 32, 33]], [0, 1, 2, 3, 4, 5, 6, 7, 8, 9, 10, 11, 12, 13, 14, 15, 16, 17, 18, 19, 20, 21, 22, 23, 24, 25, 26, 27, 28, 29, 30, 31, 32, 33, 34]⟩
    | _ => ⟨.nil, [], []⟩
theorem hi181a (i : Nat) : hi181.acts i = [] := rfl
theorem hi181v (i : Nat) : hi181.views i = none := rfl
attribute [go_sem] hi181a hi181v Go.Proofs.Try.ntmps181 Go.Proofs.Try.results181
@[go_sem] theorem hi181d15 : (hi181.draws 15).order = .cons ⟨0, true, []⟩ (.cons ⟨1, false, []⟩ (.cons ⟨2, false, [0]⟩ (.cons ⟨3, false, []⟩ (.cons ⟨4, false, []⟩ .nil)))) := rfl
@[go_sem] theorem hi181d16 : (hi181.draws 16).order = .cons ⟨0, false, []⟩ (.cons ⟨1, false, []⟩ (.cons ⟨2, false, []⟩ (.cons ⟨3, false, []⟩ (.cons ⟨4, false, []⟩ (.cons ⟨5, false, []⟩ (.cons ⟨6, false, []⟩ (.cons ⟨7, false, []⟩ (.cons ⟨8, false, []⟩ (.cons ⟨9, false, []⟩ (.cons ⟨10, false, []⟩ (.cons ⟨11, false, []⟩ (.cons ⟨12, false, []⟩ (.cons ⟨13, false, []⟩ (.cons ⟨14, false, []⟩ (.cons ⟨15, false, []⟩ (.cons ⟨16, false, []⟩ (.cons ⟨17, false, []⟩ (.cons ⟨18, false, []⟩ (.cons ⟨19, false, []⟩ (.cons ⟨20, false, []⟩ (.cons ⟨21, false, []⟩ (.cons ⟨22, false, []⟩ (.cons ⟨23, false, []⟩ (.cons ⟨24, false, []⟩ (.cons ⟨25, false, []⟩ (.cons ⟨26, false, []⟩ (.cons ⟨27, false, []⟩ (.cons ⟨28, false, []⟩ (.cons ⟨29, false, []⟩ (.cons ⟨30, false, []⟩ (.cons ⟨31, false, []⟩ (.cons ⟨32, false, []⟩ (.cons ⟨33, false, []⟩ (.cons ⟨34, false, []⟩ .nil)))))))))))))))))))))))))))))))))) := rfl
theorem c_spec_l08Nodes {s : GShow} {res : Bool} (h : m_spec_l08Nodes s = some res) : CallOk Go.Proofs.Try.prog 181 [.agg [.sl (rowsOf GNode.encS s.nodes), .sl (rowsOf GTie.enc s.ties), .lit (.int .i64 s.horizon)]] [] (.lit (.bool res)) [] := by
  refine callOk_of (ra := []) (md := mdT) hT (hi := hi181) Go.Proofs.Try.func181 rfl rfl (by decide +kernel) (by simp) ?_
  unfold m_spec_l08Nodes at h
  obtain ⟨r1001, g1, h⟩ := obnd_some h
  simp -implicitDefEqProofs -dsimp only [go_sem]
  refine callW_of (c_spec_l01In g1) ?_
  rcases ite_some h with ⟨h2, h⟩ | ⟨h2, h⟩
  · obtain ⟨x1002, g3, h⟩ := obnd_some h
    obtain ⟨h5, h6⟩ := getI_nat (k := 0) g3
    rcases ite_some h with ⟨h7, h⟩ | ⟨h7, h⟩
    · cases h
      simp -implicitDefEqProofs -dsimp only [go_sem, (eq_true h2), (condZ_t h2), h5, h6, (eq_true h7)]
    · rcases ite_some h with ⟨h8, h⟩ | ⟨h8, h⟩
      · obtain ⟨q1017, l9, h⟩ := obnd_some h
        simp -implicitDefEqProofs -dsimp only [go_sem, (eq_true h2), (condZ_t h2), h5, h6, (eq_false h7), (eq_true h8)]
        refine loopW_loopO (m1 := .mk) (m2 := .mk) [.nf [1, 33, 34, 35] [64]] (m_spec_l08Nodes_L1_St s.nodes ((s.nodes.length : Nat) : Int) s.ties s.horizon) l9 ?_ ?_
        · simp -implicitDefEqProofs -dsimp only [go_sem, (eq_true h2), (condZ_t h2), h5, h6, (eq_false h7), (eq_true h8)]
        · intro nb10 sb10 bb10 b10 gb10
          obtain ⟨v35_1, eb10⟩ : ∃ v, v = sb10 := ⟨_, rfl⟩; subst eb10
          unfold m_spec_l08Nodes_L1 at b10
          try dsimp only at b10
          rcases ite_some b10 with ⟨h11, b10⟩ | ⟨h11, b10⟩
          · obtain ⟨x1003, g12, b10⟩ := obnd_some b10
            obtain ⟨h13, h14, h15⟩ := getI_some g12
            obtain ⟨r1004, g16, b10⟩ := obnd_some b10
            simp -implicitDefEqProofs -dsimp only [go_sem, (eq_true h2), (condZ_t h2), h5, h6, (eq_false h7), (eq_true h8), (eq_true h11), h13, h14, h15]
            refine callW_of (c_spec_NodeOk g16) ?_
            rcases ite_some b10 with ⟨h17, b10⟩ | ⟨h17, b10⟩
            · obtain ⟨r1005, g18, b10⟩ := obnd_some b10
              simp -implicitDefEqProofs -dsimp only [go_sem, (eq_true h2), (condZ_t h2), h5, h6, (eq_false h7), (eq_true h8), (eq_true h11), h13, h14, h15, (eq_true h17), (condZ_t h17)]
              refine callW_of (c_spec_NodeNamed g18) ?_
              rcases ite_some b10 with ⟨h19, b10⟩ | ⟨h19, b10⟩
              · rcases ite_some b10 with ⟨h20, b10⟩ | ⟨h20, b10⟩
                · cases b10
                  simp -implicitDefEqProofs -dsimp only [go_sem, (eq_true h2), (condZ_t h2), h5, h6, (eq_false h7), (eq_true h8), (eq_true h11), h13, h14, h15, (eq_true h17), (condZ_t h17), (eq_true h19), (eq_true h20)]
                  refine next_of gb10 ?_
                  simp -implicitDefEqProofs -dsimp only [go_sem, (eq_true h2), (condZ_t h2), h5, h6, (eq_false h7), (eq_true h8), (eq_true h11), h13, h14, h15, (eq_true h17), (condZ_t h17), (eq_true h19), (eq_true h20)]
                · obtain ⟨r1006, g21, b10⟩ := obnd_some b10
                  simp -implicitDefEqProofs -dsimp only [go_sem, (eq_true h2), (condZ_t h2), h5, h6, (eq_false h7), (eq_true h8), (eq_true h11), h13, h14, h15, (eq_true h17), (condZ_t h17), (eq_true h19), (eq_false h20)]
                  refine callW_of (c_spec_l08Watcher g21) ?_
                  rcases ite_some b10 with ⟨h22, b10⟩ | ⟨h22, b10⟩
                  · cases b10
                    simp -implicitDefEqProofs -dsimp only [go_sem, (eq_true h2), (condZ_t h2), h5, h6, (eq_false h7), (eq_true h8), (eq_true h11), h13, h14, h15, (eq_true h17), (condZ_t h17), (eq_true h19), (eq_false h20), (eq_true h22)]
                    refine next_of gb10 ?_
                    simp -implicitDefEqProofs -dsimp only [go_sem, (eq_true h2), (condZ_t h2), h5, h6, (eq_false h7), (eq_true h8), (eq_true h11), h13, h14, h15, (eq_true h17), (condZ_t h17), (eq_true h19), (eq_false h20), (eq_true h22)]
                  · cases b10
                    have e23 := (done_of gb10).symm
                    subst e23
                    try dsimp only at h
                    cases h
                    simp -implicitDefEqProofs -dsimp only [go_sem, (eq_true h2), (condZ_t h2), h5, h6, (eq_false h7), (eq_true h8), (eq_true h11), h13, h14, h15, (eq_true h17), (condZ_t h17), (eq_true h19), (eq_false h20), (eq_false h22)]
              · cases b10
                have e24 := (done_of gb10).symm
                subst e24
                try dsimp only at h
                cases h
                simp -implicitDefEqProofs -dsimp only [go_sem, (eq_true h2), (condZ_t h2), h5, h6, (eq_false h7), (eq_true h8), (eq_true h11), h13, h14, h15, (eq_true h17), (condZ_t h17), (eq_false h19)]
            · cases b10
              have e25 := (done_of gb10).symm
              subst e25
              try dsimp only at h
              cases h
              simp -implicitDefEqProofs -dsimp only [go_sem, (eq_true h2), (condZ_t h2), h5, h6, (eq_false h7), (eq_true h8), (eq_true h11), h13, h14, h15, (eq_false h17), (condZ_f h17)]
          · cases b10
            have e26 := (done_of gb10).symm
            subst e26
            try dsimp only at h
            obtain ⟨q1016, l27, h⟩ := obnd_some h
            simp -implicitDefEqProofs -dsimp only [go_sem, (eq_true h2), (condZ_t h2), h5, h6, (eq_false h7), (eq_true h8), (eq_false h11)]
            refine loopW_loopO (m1 := .mk) (m2 := .mk) [.nf [1, 66, 67, 68] [64]] (m_spec_l08Nodes_L4_St s.nodes ((s.nodes.length : Nat) : Int) s.ties s.horizon) l27 ?_ ?_
            · simp -implicitDefEqProofs -dsimp only [go_sem, (eq_true h2), (condZ_t h2), h5, h6, (eq_false h7), (eq_true h8), (eq_false h11)]
            · intro nb28 sb28 bb28 b28 gb28
              obtain ⟨v68_2, eb28⟩ : ∃ v, v = sb28 := ⟨_, rfl⟩; subst eb28
              unfold m_spec_l08Nodes_L4 at b28
              try dsimp only at b28
              rcases ite_some b28 with ⟨h29, b28⟩ | ⟨h29, b28⟩
              · obtain ⟨x1007, g30, b28⟩ := obnd_some b28
                obtain ⟨h31, h32, h33⟩ := getI_some g30
                obtain ⟨q1015, l34, b28⟩ := obnd_some b28
                simp -implicitDefEqProofs -dsimp only [go_sem, (eq_true h2), (condZ_t h2), h5, h6, (eq_false h7), (eq_true h8), (eq_false h11), (eq_true h29), h31, h32, h33]
                refine loopW_loopO (m1 := .mk) (m2 := .mk) [.nf [1, 6, 66, 67, 68, 73, 74, 75] [64, 384]] (m_spec_l08Nodes_L3_St s.nodes ((s.nodes.length : Nat) : Int) v68_2 x1007.label ((x1007.label.length : Nat) : Int) s.ties s.horizon x1007.name x1007.watch) l34 ?_ ?_
                · simp -implicitDefEqProofs -dsimp only [go_sem, (eq_true h2), (condZ_t h2), h5, h6, (eq_false h7), (eq_true h8), (eq_false h11), (eq_true h29), h31, h32, h33]
                · intro nb35 sb35 bb35 b35 gb35
                  obtain ⟨v75_3, eb35⟩ : ∃ v, v = sb35 := ⟨_, rfl⟩; subst eb35
                  unfold m_spec_l08Nodes_L3 at b35
                  try dsimp only at b35
                  rcases ite_some b35 with ⟨h36, b35⟩ | ⟨h36, b35⟩
                  · obtain ⟨x1008, g37, b35⟩ := obnd_some b35
                    obtain ⟨h38, h39, h40⟩ := getI_some g37
                    obtain ⟨r1009, g41, b35⟩ := obnd_some b35
                    simp -implicitDefEqProofs -dsimp only [go_sem, (eq_true h2), (condZ_t h2), h5, h6, (eq_false h7), (eq_true h8), (eq_false h11), (eq_true h29), h31, h32, h33, (eq_true h36), h38, h39, h40]
                    refine callW_of (c_spec_l07Prop g41) ?_
                    obtain ⟨r1010, g42, b35⟩ := obnd_some b35
                    simp -implicitDefEqProofs -dsimp only [go_sem, (eq_true h2), (condZ_t h2), h5, h6, (eq_false h7), (eq_true h8), (eq_false h11), (eq_true h29), h31, h32, h33, (eq_true h36), h38, h39, h40]
                    refine callW_of (c_spec_l08Watcher g42) ?_
                    rcases ite_some b35 with ⟨h43, b35⟩ | ⟨h43, b35⟩
                    · cases b35
                      have e44 := (done_of gb35).symm
                      subst e44
                      try dsimp only at b28
                      cases b28
                      have e45 := (done_of gb28).symm
                      subst e45
                      try dsimp only at h
                      cases h
                      simp -implicitDefEqProofs -dsimp only [go_sem, (eq_true h2), (condZ_t h2), h5, h6, (eq_false h7), (eq_true h8), (eq_false h11), (eq_true h29), h31, h32, h33, (eq_true h36), h38, h39, h40, (eq_true h43)]
                    · obtain ⟨x1011, g46, b35⟩ := obnd_some b35
                      obtain ⟨h47, h48, h49⟩ := getI_some g46
                      obtain ⟨r1012, g50, b35⟩ := obnd_some b35
                      simp -implicitDefEqProofs -dsimp only [go_sem, (eq_true h2), (condZ_t h2), h5, h6, (eq_false h7), (eq_true h8), (eq_false h11), (eq_true h29), h31, h32, h33, (eq_true h36), h38, h39, h40, (eq_false h43), h47, h48, h49]
                      refine callW_of (c_spec_l07Has g50) ?_
                      rcases ite_some b35 with ⟨h51, b35⟩ | ⟨h51, b35⟩
                      · cases b35
                        have e52 := (done_of gb35).symm
                        subst e52
                        try dsimp only at b28
                        cases b28
                        have e53 := (done_of gb28).symm
                        subst e53
                        try dsimp only at h
                        cases h
                        simp -implicitDefEqProofs -dsimp only [go_sem, (eq_true h2), (condZ_t h2), h5, h6, (eq_false h7), (eq_true h8), (eq_false h11), (eq_true h29), h31, h32, h33, (eq_true h36), h38, h39, h40, (eq_false h43), h47, h48, h49, (eq_true h51), (condZ_t h51)]
                      · obtain ⟨r1013, g54, b35⟩ := obnd_some b35
                        simp -implicitDefEqProofs -dsimp only [go_sem, (eq_true h2), (condZ_t h2), h5, h6, (eq_false h7), (eq_true h8), (eq_false h11), (eq_true h29), h31, h32, h33, (eq_true h36), h38, h39, h40, (eq_false h43), h47, h48, h49, (eq_false h51), (condZ_f h51)]
                        refine callW_of (c_spec_l07Has g54) ?_
                        rcases ite_some b35 with ⟨h55, b35⟩ | ⟨h55, b35⟩
                        · cases b35
                          have e56 := (done_of gb35).symm
                          subst e56
                          try dsimp only at b28
                          cases b28
                          have e57 := (done_of gb28).symm
                          subst e57
                          try dsimp only at h
                          cases h
                          simp -implicitDefEqProofs -dsimp only [go_sem, (eq_true h2), (condZ_t h2), h5, h6, (eq_false h7), (eq_true h8), (eq_false h11), (eq_true h29), h31, h32, h33, (eq_true h36), h38, h39, h40, (eq_false h43), h47, h48, h49, (eq_false h51), (condZ_f h51), (eq_true h55), (condZ_t h55)]
                        · obtain ⟨r1014, g58, b35⟩ := obnd_some b35
                          simp -implicitDefEqProofs -dsimp only [go_sem, (eq_true h2), (condZ_t h2), h5, h6, (eq_false h7), (eq_true h8), (eq_false h11), (eq_true h29), h31, h32, h33, (eq_true h36), h38, h39, h40, (eq_false h43), h47, h48, h49, (eq_false h51), (condZ_f h51), (eq_false h55), (condZ_f h55)]
                          refine callW_of (c_spec_ImpliesLabel g58) ?_
                          rcases ite_some b35 with ⟨h59, b35⟩ | ⟨h59, b35⟩
                          · cases b35
                            simp -implicitDefEqProofs -dsimp only [go_sem, (eq_true h2), (condZ_t h2), h5, h6, (eq_false h7), (eq_true h8), (eq_false h11), (eq_true h29), h31, h32, h33, (eq_true h36), h38, h39, h40, (eq_false h43), h47, h48, h49, (eq_false h51), (condZ_f h51), (eq_false h55), (condZ_f h55), (eq_true h59), (condZ_t h59)]
                            refine next_of gb35 ?_
                            simp -implicitDefEqProofs -dsimp only [go_sem, (eq_true h2), (condZ_t h2), h5, h6, (eq_false h7), (eq_true h8), (eq_false h11), (eq_true h29), h31, h32, h33, (eq_true h36), h38, h39, h40, (eq_false h43), h47, h48, h49, (eq_false h51), (condZ_f h51), (eq_false h55), (condZ_f h55), (eq_true h59), (condZ_t h59)]
                          · cases b35
                            have e60 := (done_of gb35).symm
                            subst e60
                            try dsimp only at b28
                            cases b28
                            have e61 := (done_of gb28).symm
                            subst e61
                            try dsimp only at h
                            cases h
                            simp -implicitDefEqProofs -dsimp only [go_sem, (eq_true h2), (condZ_t h2), h5, h6, (eq_false h7), (eq_true h8), (eq_false h11), (eq_true h29), h31, h32, h33, (eq_true h36), h38, h39, h40, (eq_false h43), h47, h48, h49, (eq_false h51), (condZ_f h51), (eq_false h55), (condZ_f h55), (eq_false h59), (condZ_f h59)]
                  · cases b35
                    have e62 := (done_of gb35).symm
                    subst e62
                    try dsimp only at b28
                    cases b28
                    simp -implicitDefEqProofs -dsimp only [go_sem, (eq_true h2), (condZ_t h2), h5, h6, (eq_false h7), (eq_true h8), (eq_false h11), (eq_true h29), h31, h32, h33, (eq_false h36)]
                    refine next_of gb28 ?_
                    simp -implicitDefEqProofs -dsimp only [go_sem, (eq_true h2), (condZ_t h2), h5, h6, (eq_false h7), (eq_true h8), (eq_false h11), (eq_true h29), h31, h32, h33, (eq_false h36)]
              · cases b28
                have e63 := (done_of gb28).symm
                subst e63
                try dsimp only at h
                cases h
                simp -implicitDefEqProofs -dsimp only [go_sem, (eq_true h2), (condZ_t h2), h5, h6, (eq_false h7), (eq_true h8), (eq_false h11), (eq_false h29)]
      · cases h
        simp -implicitDefEqProofs -dsimp only [go_sem, (eq_true h2), (condZ_t h2), h5, h6, (eq_false h7), (eq_false h8)]
  · cases h
    simp -implicitDefEqProofs -dsimp only [go_sem, (eq_false h2), (condZ_f h2)]
/- 175 loop.example/g00827/spec.l08Same -/
def m_spec_l08Same_L1_St (b : List Int) (v12 : List Int) (v13 : Int) (v14 : Int) : St := ⟨[(1, .sl (rowsOf eI b)), (12, .sl (rowsOf eI v12)), (13, .lit (.int .i64 v13)), (14, .lit (.int .i64 v14))], [], 2⟩
attribute [go_sem] m_spec_l08Same_L1_St
def hi175 : Hint where
  acts := fun _ => []
  draws := fun
    | _ => ⟨.nil, [], []⟩
theorem hi175a (i : Nat) : hi175.acts i = [] := rfl
theorem hi175v (i : Nat) : hi175.views i = none := rfl
attribute [go_sem] hi175a hi175v Go.Proofs.Try.ntmps175 Go.Proofs.Try.results175
theorem c_spec_l08Same {a : List Int} {b : List Int} {res : Bool} (h : m_spec_l08Same a b = some res) : CallOk Go.Proofs.Try.prog 175 [.sl (rowsOf eI a), .sl (rowsOf eI b)] [] (.lit (.bool res)) [] := by
  refine callOk_of (ra := []) (md := mdT) hT (hi := hi175) Go.Proofs.Try.func175 rfl rfl (by decide +kernel) (by simp) ?_
  unfold m_spec_l08Same at h
  rcases ite_some h with ⟨h1, h⟩ | ⟨h1, h⟩
  · obtain ⟨q1003, l2, h⟩ := obnd_some h
    simp -implicitDefEqProofs -dsimp only [go_sem, (eq_true h1)]
    refine loopW_loopO (m1 := .mk) (m2 := .mk) [.nf [1, 12, 13, 14] []] (m_spec_l08Same_L1_St b a ((a.length : Nat) : Int)) l2 ?_ ?_
    · simp -implicitDefEqProofs -dsimp only [go_sem, (eq_true h1)]
    · intro nb3 sb3 bb3 b3 gb3
      obtain ⟨v14_1, eb3⟩ : ∃ v, v = sb3 := ⟨_, rfl⟩; subst eb3
      unfold m_spec_l08Same_L1 at b3
      try dsimp only at b3
      rcases ite_some b3 with ⟨h4, b3⟩ | ⟨h4, b3⟩
      · obtain ⟨x1001, g5, b3⟩ := obnd_some b3
        obtain ⟨h6, h7, h8⟩ := getI_some g5
        obtain ⟨x1002, g9, b3⟩ := obnd_some b3
        obtain ⟨h10, h11, h12⟩ := getI_some g9
        rcases ite_some b3 with ⟨h13, b3⟩ | ⟨h13, b3⟩
        · cases b3
          simp -implicitDefEqProofs -dsimp only [go_sem, (eq_true h1), (eq_true h4), h6, h7, h8, h10, h11, h12, (eq_true h13)]
          refine next_of gb3 ?_
          simp -implicitDefEqProofs -dsimp only [go_sem, (eq_true h1), (eq_true h4), h6, h7, h8, h10, h11, h12, (eq_true h13)]
        · cases b3
          have e14 := (done_of gb3).symm
          subst e14
          try dsimp only at h
          cases h
          simp -implicitDefEqProofs -dsimp only [go_sem, (eq_true h1), (eq_true h4), h6, h7, h8, h10, h11, h12, (eq_false h13)]
      · cases b3
        have e15 := (done_of gb3).symm
        subst e15
        try dsimp only at h
        cases h
        simp -implicitDefEqProofs -dsimp only [go_sem, (eq_true h1), (eq_false h4)]
  · cases h
    simp -implicitDefEqProofs -dsimp only [go_sem, (eq_false h1)]
/- 202 loop.example/g00827/spec.l08Free -/
def m_spec_l08Free_L1_St (node : Int) (v8 : List GTie) (v9 : Int) (v10 : Int) : St := ⟨[(1, .lit (.int .i64 node)), (8, .sl (rowsOf GTie.enc v8)), (9, .lit (.int .i64 v9)), (10, .lit (.int .i64 v10))], [], 2⟩
attribute [go_sem] m_spec_l08Free_L1_St
def hi202 : Hint where
  acts := fun _ => []
  draws := fun
    | _ => ⟨.nil, [], []⟩
theorem hi202a (i : Nat) : hi202.acts i = [] := rfl
theorem hi202v (i : Nat) : hi202.views i = none := rfl
attribute [go_sem] hi202a hi202v Go.Proofs.Try.ntmps202 Go.Proofs.Try.results202
theorem c_spec_l08Free {s : GShow} {node : Int} {res : Int} (h : m_spec_l08Free s node = some res) : CallOk Go.Proofs.Try.prog 202 [.agg [.sl (rowsOf GNode.encS s.nodes), .sl (rowsOf GTie.enc s.ties), .lit (.int .i64 s.horizon)], .lit (.int .i64 node)] [] (.lit (.int .i64 res)) [] := by
  refine callOk_of (ra := []) (md := mdT) hT (hi := hi202) Go.Proofs.Try.func202 rfl rfl (by decide +kernel) (by simp) ?_
  unfold m_spec_l08Free at h
  obtain ⟨q1002, l1, h⟩ := obnd_some h
  simp -implicitDefEqProofs -dsimp only [go_sem]
  refine loopW_loopO (m1 := .mk) (m2 := .mk) [.nf [1, 8, 9, 10] []] (m_spec_l08Free_L1_St node s.ties ((s.ties.length : Nat) : Int)) l1 ?_ ?_
  · simp -implicitDefEqProofs -dsimp only [go_sem]
  · intro nb2 sb2 bb2 b2 gb2
    obtain ⟨v10_1, eb2⟩ : ∃ v, v = sb2 := ⟨_, rfl⟩; subst eb2
    unfold m_spec_l08Free_L1 at b2
    try dsimp only at b2
    rcases ite_some b2 with ⟨h3, b2⟩ | ⟨h3, b2⟩
    · obtain ⟨x1001, g4, b2⟩ := obnd_some b2
      obtain ⟨h5, h6, h7⟩ := getI_some g4
      rcases ite_some b2 with ⟨h8, b2⟩ | ⟨h8, b2⟩
      · rcases ite_some b2 with ⟨h9, b2⟩ | ⟨h9, b2⟩
        · cases b2
          have e10 := (done_of gb2).symm
          subst e10
          try dsimp only at h
          cases h
          simp -implicitDefEqProofs -dsimp only [go_sem, (eq_true h3), h5, h6, h7, (eq_true h8), (condZ_t h8), (eq_true h9)]
        · cases b2
          simp -implicitDefEqProofs -dsimp only [go_sem, (eq_true h3), h5, h6, h7, (eq_true h8), (condZ_t h8), (eq_false h9)]
          refine next_of gb2 ?_
          simp -implicitDefEqProofs -dsimp only [go_sem, (eq_true h3), h5, h6, h7, (eq_true h8), (condZ_t h8), (eq_false h9)]
      · cases b2
        simp -implicitDefEqProofs -dsimp only [go_sem, (eq_true h3), h5, h6, h7, (eq_false h8), (condZ_f h8)]
        refine next_of gb2 ?_
        simp -implicitDefEqProofs -dsimp only [go_sem, (eq_true h3), h5, h6, h7, (eq_false h8), (condZ_f h8)]
    · cases b2
      have e11 := (done_of gb2).symm
      subst e11
      try dsimp only at h
      cases h
      simp -implicitDefEqProofs -dsimp only [go_sem, (eq_false h3)]
/- 182 loop.example/g00827/spec.l08Tie -/
def hi182 : Hint where
  acts := fun _ => []
  draws := fun
    | 5 => ⟨.cons ⟨0, false, []⟩ (.cons ⟨1, false, []⟩ (.cons ⟨2, false, []⟩ (.cons ⟨3, false, []⟩ (.cons ⟨4, false, []⟩ (.cons ⟨5, false, []⟩ (.cons ⟨6, false, []⟩ (.cons ⟨7, false, []⟩ (.cons ⟨8, false, []⟩ (.cons ⟨9, false, []⟩ (.cons ⟨10, false, []⟩ (.cons ⟨11, false, []⟩ (.cons ⟨12, false, []⟩ (.cons ⟨13, false, []⟩ (.cons ⟨14, false, []⟩ (.cons ⟨15, false, []⟩ (.cons ⟨16, false, []⟩ (.cons ⟨17, false, []⟩ (.cons ⟨18, false, []⟩ (.cons ⟨19, false, []⟩ (.cons ⟨20, false, []⟩ (.cons ⟨21, false, []⟩ (.cons ⟨22, false, []⟩ (.cons ⟨23, false, []⟩ (.cons ⟨24, false, []⟩ (.cons ⟨25, false, []⟩ (.cons ⟨26, false, []⟩ (.cons ⟨27, false, []⟩ (.cons ⟨28, false, []⟩ (.cons ⟨29, false, []⟩ (.cons ⟨30, false, []⟩ (.cons ⟨31, false, []⟩ (.cons ⟨32, false, []⟩ (.cons ⟨33, false, []⟩ (.cons ⟨34, false, []⟩ (.cons ⟨35, false, []⟩ (.cons ⟨36, false, []⟩ (.cons ⟨37, false, []⟩ (.cons ⟨38, false, []⟩ (.cons ⟨39, false, []⟩ (.cons ⟨40, false, []⟩ (.cons ⟨41, false, []⟩ (.cons ⟨42, false, []⟩ (.cons ⟨44, false, []⟩ (.cons ⟨43, false, []⟩ (.cons ⟨45, false, []⟩ (.cons ⟨46, false, []⟩ (.cons ⟨47, false, []⟩ (.cons ⟨48, false, []⟩ .nil)))))))))))))))))))))))))))))))))))))))))))))))), [[], [0], [0, 1], [0, 1, 2], [0, 1, 2, 3], [0, 1, 2, 3, 4], [0, 1, 2, 3, 4, 5], [0, 1, 2, 3, 4, 5, 6], [0, 1, 2, 3, 4, 5, 6, 7], [0, 1, 2, 3, 4, 5, 6, 7, 8], [0, 1, 2, 3, 4, 5, 6, 7, 8, 9], [0, 1, 2, 3, 4, 5, 6, 7, 8, 9, 10], [0, 1, 2, 3, 4, 5, 6, 7, 8, 9, 10, 11], [0, 1, 2, 3, 4, 5, 6, 7, 8, 9, 10, 11, 12], [0, 1, 2, 3, 4, 5, 6, 7, 8, 9, 10, 11, 12, 13], [0, 1, 2, 3, 4, 5, 6, 7, 8, 9, 10, 11, 12], [0, 1, 2, 3, 4, 5, 6, 7, 8, 9, 10, 11, 12, 15], [0, 1, 2, 3, 4, 5, 6, 7, 8, 9, 10, 11, 12, 13, 14, 15, 16], [0, 1, 2, 3, 4, 5, 6, 7, 8, 9, 10, 11, 12, 13, 14, 15, 16, 17], [0, 1, 2, 3, 4, 5, 6, 7, 8, 9, 10, 11, 12, 13, 14, 15, 16, 17, 18], [0, 1, 2, 3, 4, 5, 6, 7, 8, 9, 10, 11, 12, 13, 14, 15, 16, 17, 18, 19], [0, 1, 2, 3, 4, 5, 6, 7, 8, 9, 10, 11, 12, 13, 14, 15, 16, 17, 18, 19, 20], [0, 1, 2, 3, 4, 5, 6, 7, 8, 9, 10, 11, 12, 13, 14, 15, 16, 17, 18, 19, 20, 21], [0, 1, 2, 3, 4, 5, 6, 7, 8, 9, 10, 11, 12, 13, 14, 15, 16, 17, 18, 19, 20, 21, 22], [0, 1, 2, 3, 4, 5, 6, 7, 8, 9, 10, 11, 12, 13, 14, 15, 16, 17, 18, 19, 20, 21, 22, 23], [0, 1, 2, 3, 4, 5, 6, 7, 8, 9, 10, 11, 12, 13, 14, 15, 16, 17, 18, 19, 20, 21, 22], [0, 1, 2, 3, 4, 5, 6, 7, 8, 9, 10, 11, 12, 13, 14, 15, 16, 17, 18, 19, 20, 21, 22, 25], [0, 1, 2, 3, 4, 5, 6, 7, 8, 9, 10, 11, 12, 13, 14, 15, 16, 17, 18, 19, 20, 21, 22, 23, 24, 25, 26], [0, 1, 2, 3, 4, 5, 6, 7, 8, 9, 10, 11, 12, 13, 14, 15, 16, 17, 18, 19, 20, 21, 22, 23, 24, 25, 26, 27], [0, 1, 2, 3, 4, 5, 6, 7, 8, 9, 10, 11, 12, 13, 14, 15, 16, 17, 18, 19, 20, 21, 22, 23, 24, 25, 26, 27, 28], [0, 1, 2, 3, 4, 5, 6, 7, 8, 9, 10, 11, 12, 13, 14, 15, 16, 17, 18, 19, 20, 21, 22], [0, 1, 2, 3, 4, 5, 6, 7, 8, 9, 10, 11, 12, 13, 14, 15, 16, 17, 18, 19, 20, 21, 22, 30], [0, 1, 2, 3, 4, 5, 6, 7, 8, 9, 10, 11, 12, 13, 14, 15, 16, 17, 18, 19, 20, 21, 22], [0, 1, 2, 3, 4, 5, 6, 7, 8, 9, 10, 11, 12, 13, 14, 15, 16, 17, 18, 19, 20, 21, 22, 32], [0, 1, 2, 3, 4, 5, 6, 7, 8, 9, 10, 11, 12, 13, 14, 15, 16, 17, 18, 19, 20, 21, 22, 30, 31, 32, 33], [0, 1, 2, 3, 4, 5, 6, 7, 8, 9, 10, 11, 12, 13, 14, 15, 16, 17, 18, 19, 20, 21, 22, 30, 31, 32, 33, 34], [0, 1, 2, 3, 4, 5, 6, 7, 8, 9, 10, 11, 12, 13, 14, 15, 16, 17, 18, 19, 20, 21, 22, 30, 31, 32, 33, 34, 35], [0, 1, 2, 3, 4, 5, 6, 7, 8, 9, 10, 11, 12, 13, 14, 15, 16, 17, 18, 19, 20, 21, 22, 23, 24, 25, 26, 27, 28, 29, 30, 31, 32, 33, 34, 35, 36], [0, 1, 2, 3, 4, 5, 6, 7, 8, 9, 10, 11, 12, 13, 14, 15, 16, 17, 18, 19, 20, 21, 22, 23, 24, 25, 26, 27, 28, 29, 30, 31, 32, 33, 34, 35, 36, 37], [0, 1, 2, 3, 4, 5, 6, 7, 8, 9, 10, 11, 12, 13, 14, 15, 16, 17, 18, 19, 20, 21, 22, 23, 24, 25, 26, 27, 28, 29, 30, 31, 32, 33, 34, 35, 36, 37, 38], [0, 1, 2, 3, 4, 5, 6, 7, 8, 9, 10, 11, 12, 13, 14, 15, 16, 17, 18, 19, 20, 21, 22, 23, 24, 25, 26, 27, 28, 29, 30, 31, 32, 33, 34, 35, 36, 37, 38, 39], [0, 1, 2, 3, 4, 5, 6, 7, 8, 9, 10, 11, 12, 13, 14, 15, 16, 17, 18, 19, 20, 21, 22, 23, 24, 25, 26, 27, 28, 29, 30, 31, 32, 33, 34, 35, 36, 37, 38, 39], [0, 1, 2, 3, 4, 5, 6, 7, 8, 9, 10, 11, 12, 13, 14, 15, 16, 17, 18, 19, 20, 21, 22, 23, 24, 25, 26, 27, 28, 29, 30, 31, 32, 33, 34, 35, 36, 37, 38, 39, 41], [0, 1, 2, 3, 4, 5, 6, 7, 8, 9, 10, 11, 12, 13, 14, 15, 16, 17, 18, 19, 20, 21, 22, 23, 24, 25, 26, 27, 28, 29, 30, 31, 32, 33, 34, 35, 36, 37, 38, 39, 40, 41, 42], [0, 1, 2, 3, 4, 5, 6, 7, 8, 9, 10, 11, 12, 13, 14, 15, 16, 17, 18, 19, 20, 21, 22, 23, 24, 25, 26, 27, 28, 29, 30, 31, 32, 33, 34, 35, 36, 37, 38, 39], [0, 1, 2, 3, 4, 5, 6, 7, 8, 9, 10, 11, 12, 13, 14, 15, 16, 17, 18, 19, 20, 21, 22, 23, 24, 25, 26, 27, 28, 29, 30, 31, 32, 33, 34, 35, 36, 37, 38, 39, 40, 41, 42, 43, 44], [0, 1, 2, 3, 4, 5, 6, 7, 8, 9, 10, 11, 12, 13, 14, 15, 16, 17, 18, 19, 20, 21, 22, 23, 24, 25, 26, 27, 28, 29, 30, 31, 32, 33, 34, 35, 36, 37, 38, 39, 40, 41, 42, 43, 44, 45], [0, 1, 2, 3, 4, 5, 6, 7, 8, 9, 10, 11, 12, 13, 14, 15, 16, 17, 18, 19, 20, 21, 22, 23, 24, 25, 26, 27, 28, 29, 30, 31, 32, 33, 34, 35, 36, 37, 38, 39, 40, 41, 42, 43, 44, 45, 46], [0, 1, 2, 3, 4, 5, 6, 7, 8, 9, 10, 11, 12, 13, 14, 15, 16, 17, 18, 19, 20, 21, 22, 23, 24, 25, 26, 27, 28, 29, 30, 31, 32, 33, 34, 35, 36, 37, 38, 39, 40, 41, 42, 43, 44, 45, 46, 47]], [0, 1, 2, 3, 4, 5, 6, 7, 8, 9, 10, 11, 12, 13, 14, 15, 16, 17, 18, 19, 20, 21, 22, 23, 24, 25, 26, 27, 28, 29, 30, 31, 32, 33, 34, 35, 36, 37, 38, 39, 40, 41, 42, 43, 44, 45, 46, 47, 48]⟩
    | _ => ⟨.nil, [], []⟩
theorem hi182a (i : Nat) : hi182.acts i = [] := rfl
theorem hi182v (i : Nat) : hi182.views i = none := rfl
attribute [go_sem] hi182a hi182v Go.Proofs.Try.ntmps182 Go.Proofs.Try.results182
@[go_sem] theorem hi182d5 : (hi182.draws 5).order = .cons ⟨0, false, []⟩ (.cons ⟨1, false, []⟩ (.cons ⟨2, false, []⟩ (.cons ⟨3, false, []⟩ (.cons ⟨4, false, []⟩ (.cons ⟨5, false, []⟩ (.cons ⟨6, false, []⟩ (.cons ⟨7, false, []⟩ (.cons ⟨8, false, []⟩ (.cons ⟨9, false, []⟩ (.cons ⟨10, false, []⟩ (.cons ⟨11, false, []⟩ (.cons ⟨12, false, []⟩ (.cons ⟨13, false, []⟩ (.cons ⟨14, false, []⟩ (.cons ⟨15, false, []⟩ (.cons ⟨16, false, []⟩ (.cons ⟨17, false, []⟩ (.cons ⟨18, false, []⟩ (.cons ⟨19, false, []⟩ (.cons ⟨20, false, []⟩ (.cons ⟨21, false, []⟩ (.cons ⟨22, false, []⟩ (.cons ⟨23, false, []⟩ (.cons ⟨24, false, []⟩ (.cons ⟨25, false, []⟩ (.cons ⟨26, false, []⟩ (.cons ⟨27, false, []⟩ (.cons ⟨28, false, []⟩ (.cons ⟨29, false, []⟩ (.cons ⟨30, false, []⟩ (.cons ⟨31, false, []⟩ (.cons ⟨32, false, []⟩ (.cons ⟨33, false, []⟩ (.cons ⟨34, false, []⟩ (.cons ⟨35, false, []⟩ (.cons ⟨36, false, []⟩ (.cons ⟨37, false, []⟩ (.cons ⟨38, false, []⟩ (.cons ⟨39, false, []⟩ (.cons ⟨40, false, []⟩ (.cons ⟨41, false, []⟩ (.cons ⟨42, false, []⟩ (.cons ⟨44, false, []⟩ (.cons ⟨43, false, []⟩ (.cons ⟨45, false, []⟩ (.cons ⟨46, false, []⟩ (.cons ⟨47, false, []⟩ (.cons ⟨48, false, []⟩ .nil)))))))))))))))))))))))))))))))))))))))))))))))) := rfl
theorem c_spec_l08Tie {s : GShow} {i : Int} {res : Bool} (h : m_spec_l08Tie s i = some res) : CallOk Go.Proofs.Try.prog 182 [.agg [.sl (rowsOf GNode.encS s.nodes), .sl (rowsOf GTie.enc s.ties), .lit (.int .i64 s.horizon)], .lit (.int .i64 i)] [] (.lit (.bool res)) [] := by
  refine callOk_of (ra := []) (md := mdT) hT (hi := hi182) Go.Proofs.Try.func182 rfl rfl (by decide +kernel) (by simp) ?_
  unfold m_spec_l08Tie at h
  obtain ⟨x1001, g1, h⟩ := obnd_some h
  obtain ⟨h2, h3, h4⟩ := getI_some g1
  obtain ⟨r1002, g5, h⟩ := obnd_some h
  simp -implicitDefEqProofs -dsimp only [go_sem, h2, h3, h4]
  refine callW_of (c_spec_l01In g5) ?_
  rcases ite_some h with ⟨h6, h⟩ | ⟨h6, h⟩
  · obtain ⟨r1003, g7, h⟩ := obnd_some h
    simp -implicitDefEqProofs -dsimp only [go_sem, h2, h3, h4, (eq_true h6), (condZ_t h6)]
    refine callW_of (c_spec_l01In g7) ?_
    rcases ite_some h with ⟨h8, h⟩ | ⟨h8, h⟩
    · rcases ite_some h with ⟨h9, h⟩ | ⟨h9, h⟩
      · cases h
        simp -implicitDefEqProofs -dsimp only [go_sem, h2, h3, h4, (eq_true h6), (condZ_t h6), (eq_true h8), (condZ_t h8), (eq_true h9)]
      · rcases ite_some h with ⟨h10, h⟩ | ⟨h10, h⟩
        · cases h
          simp -implicitDefEqProofs -dsimp only [go_sem, h2, h3, h4, (eq_true h6), (condZ_t h6), (eq_true h8), (condZ_t h8), (eq_false h9), (eq_true h10)]
        · rcases ite_some h with ⟨h11, h⟩ | ⟨h11, h⟩
          · cases h
            simp -implicitDefEqProofs -dsimp only [go_sem, h2, h3, h4, (eq_true h6), (condZ_t h6), (eq_true h8), (condZ_t h8), (eq_false h9), (eq_false h10), (eq_true h11)]
          · rcases ite_some h with ⟨h12, h⟩ | ⟨h12, h⟩
            · cases h
              simp -implicitDefEqProofs -dsimp only [go_sem, h2, h3, h4, (eq_true h6), (condZ_t h6), (eq_true h8), (condZ_t h8), (eq_false h9), (eq_false h10), (eq_false h11), (eq_true h12)]
            · rcases ite_some h with ⟨h13, h⟩ | ⟨h13, h⟩
              · rcases ite_some h with ⟨h14, h⟩ | ⟨h14, h⟩
                · rcases ite_some h with ⟨h15, h⟩ | ⟨h15, h⟩
                  · cases h
                    simp -implicitDefEqProofs -dsimp only [go_sem, h2, h3, h4, (eq_true h6), (condZ_t h6), (eq_true h8), (condZ_t h8), (eq_false h9), (eq_false h10), (eq_false h11), (eq_false h12), (eq_true h13), (condZ_t h13), (eq_true h14), (eq_true h15)]
                  · obtain ⟨x1004, g16, h⟩ := obnd_some h
                    obtain ⟨h17, h18, h19⟩ := getI_some g16
                    rcases ite_some h with ⟨h20, h⟩ | ⟨h20, h⟩
                    · obtain ⟨x1005, g21, h⟩ := obnd_some h
                      obtain ⟨h22, h23, h24⟩ := getI_some g21
                      obtain ⟨r1006, g25, h⟩ := obnd_some h
                      simp -implicitDefEqProofs -dsimp only [go_sem, h2, h3, h4, (eq_true h6), (condZ_t h6), (eq_true h8), (condZ_t h8), (eq_false h9), (eq_false h10), (eq_false h11), (eq_false h12), (eq_true h13), (condZ_t h13), (eq_true h14), (eq_false h15), h17, h18, h19, (eq_true h20), h22, h23, h24]
                      refine callW_of (c_spec_l08Same g25) ?_
                      rcases ite_some h with ⟨h26, h⟩ | ⟨h26, h⟩
                      · obtain ⟨r1007, g27, h⟩ := obnd_some h
                        simp -implicitDefEqProofs -dsimp only [go_sem, h2, h3, h4, (eq_true h6), (condZ_t h6), (eq_true h8), (condZ_t h8), (eq_false h9), (eq_false h10), (eq_false h11), (eq_false h12), (eq_true h13), (condZ_t h13), (eq_true h14), (eq_false h15), h17, h18, h19, (eq_true h20), h22, h23, h24, (eq_true h26), (condZ_t h26)]
                        refine callW_of (c_spec_l08Free g27) ?_
                        cases h
                        simp -implicitDefEqProofs -dsimp only [go_sem, h2, h3, h4, (eq_true h6), (condZ_t h6), (eq_true h8), (condZ_t h8), (eq_false h9), (eq_false h10), (eq_false h11), (eq_false h12), (eq_true h13), (condZ_t h13), (eq_true h14), (eq_false h15), h17, h18, h19, (eq_true h20), h22, h23, h24, (eq_true h26), (condZ_t h26)]
                      · cases h
                        simp -implicitDefEqProofs -dsimp only [go_sem, h2, h3, h4, (eq_true h6), (condZ_t h6), (eq_true h8), (condZ_t h8), (eq_false h9), (eq_false h10), (eq_false h11), (eq_false h12), (eq_true h13), (condZ_t h13), (eq_true h14), (eq_false h15), h17, h18, h19, (eq_true h20), h22, h23, h24, (eq_false h26), (condZ_f h26)]
                    · cases h
                      simp -implicitDefEqProofs -dsimp only [go_sem, h2, h3, h4, (eq_true h6), (condZ_t h6), (eq_true h8), (condZ_t h8), (eq_false h9), (eq_false h10), (eq_false h11), (eq_false h12), (eq_true h13), (condZ_t h13), (eq_true h14), (eq_false h15), h17, h18, h19, (eq_false h20)]
                · cases h
                  simp -implicitDefEqProofs -dsimp only [go_sem, h2, h3, h4, (eq_true h6), (condZ_t h6), (eq_true h8), (condZ_t h8), (eq_false h9), (eq_false h10), (eq_false h11), (eq_false h12), (eq_true h13), (condZ_t h13), (eq_false h14)]
              · cases h
                simp -implicitDefEqProofs -dsimp only [go_sem, h2, h3, h4, (eq_true h6), (condZ_t h6), (eq_true h8), (condZ_t h8), (eq_false h9), (eq_false h10), (eq_false h11), (eq_false h12), (eq_false h13), (condZ_f h13)]
    · cases h
      simp -implicitDefEqProofs -dsimp only [go_sem, h2, h3, h4, (eq_true h6), (condZ_t h6), (eq_false h8), (condZ_f h8)]
  · cases h
    simp -implicitDefEqProofs -dsimp only [go_sem, h2, h3, h4, (eq_false h6), (condZ_f h6)]
/- 121 loop.example/g00827/spec.ShowOk -/
def m_spec_ShowOk_L1_St (v21 : Int) (s_0 : List GNode) (s_1 : List GTie) (s_2 : Int) (v22 : Int) : St := ⟨[(1, .ptr 64 1 0 0), (21, .lit (.int .i64 v21)), (22, .lit (.int .i64 v22))], [(64, 1, .var [.sl (rowsOf GNode.encS s_0), .sl (rowsOf GTie.enc s_1), .lit (.int .i64 s_2)])], 2⟩
attribute [go_sem] m_spec_ShowOk_L1_St
def hi121 : Hint where
  acts := fun _ => []
  draws := fun
    | _ => ⟨.nil, [], []⟩
theorem hi121a (i : Nat) : hi121.acts i = [] := rfl
theorem hi121v (i : Nat) : hi121.views i = none := rfl
attribute [go_sem] hi121a hi121v Go.Proofs.Try.ntmps121 Go.Proofs.Try.results121
theorem c_spec_ShowOk {s : GShow} {res : Bool} (h : m_spec_ShowOk s = some res) : CallOk Go.Proofs.Try.prog 121 [.agg [.sl (rowsOf GNode.encS s.nodes), .sl (rowsOf GTie.enc s.ties), .lit (.int .i64 s.horizon)]] [] (.lit (.bool res)) [] := by
  refine callOk_of (ra := []) (md := mdT) hT (hi := hi121) Go.Proofs.Try.func121 rfl rfl (by decide +kernel) (by simp) ?_
  unfold m_spec_ShowOk at h
  obtain ⟨r1001, g1, h⟩ := obnd_some h
  simp -implicitDefEqProofs -dsimp only [go_sem]
  refine callW_of (c_spec_l08Nodes g1) ?_
  rcases ite_some h with ⟨h2, h⟩ | ⟨h2, h⟩
  · rcases ite_some h with ⟨h3, h⟩ | ⟨h3, h⟩
    · cases h
      simp -implicitDefEqProofs -dsimp only [go_sem, (eq_true h2), (condZ_t h2), (eq_true h3)]
    · obtain ⟨r1002, g4, h⟩ := obnd_some h
      simp -implicitDefEqProofs -dsimp only [go_sem, (eq_true h2), (condZ_t h2), (eq_false h3)]
      refine callW_of (c_spec_l01In g4) ?_
      rcases ite_some h with ⟨h5, h⟩ | ⟨h5, h⟩
      · obtain ⟨q1004, l6, h⟩ := obnd_some h
        simp -implicitDefEqProofs -dsimp only [go_sem, (eq_true h2), (condZ_t h2), (eq_false h3), (eq_true h5), (condZ_t h5)]
        refine loopW_loopO (m1 := .mk) (m2 := .mk) [.nf [1, 21, 22] [64]] (m_spec_ShowOk_L1_St ((s.ties.length : Nat) : Int) s.nodes s.ties s.horizon) l6 ?_ ?_
        · simp -implicitDefEqProofs -dsimp only [go_sem, (eq_true h2), (condZ_t h2), (eq_false h3), (eq_true h5), (condZ_t h5)]
        · intro nb7 sb7 bb7 b7 gb7
          obtain ⟨v22_1, eb7⟩ : ∃ v, v = sb7 := ⟨_, rfl⟩; subst eb7
          unfold m_spec_ShowOk_L1 at b7
          try dsimp only at b7
          rcases ite_some b7 with ⟨h8, b7⟩ | ⟨h8, b7⟩
          · obtain ⟨r1003, g9, b7⟩ := obnd_some b7
            simp -implicitDefEqProofs -dsimp only [go_sem, (eq_true h2), (condZ_t h2), (eq_false h3), (eq_true h5), (condZ_t h5), (eq_true h8)]
            refine callW_of (c_spec_l08Tie g9) ?_
            rcases ite_some b7 with ⟨h10, b7⟩ | ⟨h10, b7⟩
            · cases b7
              simp -implicitDefEqProofs -dsimp only [go_sem, (eq_true h2), (condZ_t h2), (eq_false h3), (eq_true h5), (condZ_t h5), (eq_true h8), (eq_true h10), (condZ_t h10)]
              refine next_of gb7 ?_
              simp -implicitDefEqProofs -dsimp only [go_sem, (eq_true h2), (condZ_t h2), (eq_false h3), (eq_true h5), (condZ_t h5), (eq_true h8), (eq_true h10), (condZ_t h10)]
            · cases b7
              have e11 := (done_of gb7).symm
              subst e11
              try dsimp only at h
              cases h
              simp -implicitDefEqProofs -dsimp only [go_sem, (eq_true h2), (condZ_t h2), (eq_false h3), (eq_true h5), (condZ_t h5), (eq_true h8), (eq_false h10), (condZ_f h10)]
          · cases b7
            have e12 := (done_of gb7).symm
            subst e12
            try dsimp only at h
            cases h
            simp -implicitDefEqProofs -dsimp only [go_sem, (eq_true h2), (condZ_t h2), (eq_false h3), (eq_true h5), (condZ_t h5), (eq_false h8)]
      · cases h
        simp -implicitDefEqProofs -dsimp only [go_sem, (eq_true h2), (condZ_t h2), (eq_false h3), (eq_false h5), (condZ_f h5)]
  · cases h
    simp -implicitDefEqProofs -dsimp only [go_sem, (eq_false h2), (condZ_f h2)]
/- 119 loop.example/g00827/spec.l26Ok -/
def m_spec_l26Ok_L1_St (v18 : List Int) (v19 : Int) (v20 : Int) : St := ⟨[(18, .sl (rowsOf eI v18)), (19, .lit (.int .i64 v19)), (20, .lit (.int .i64 v20))], [], 2⟩
attribute [go_sem] m_spec_l26Ok_L1_St
def hi119 : Hint where
  acts := fun _ => []
  draws := fun
    | _ => ⟨.nil, [], []⟩
theorem hi119a (i : Nat) : hi119.acts i = [] := rfl
theorem hi119v (i : Nat) : hi119.views i = none := rfl
attribute [go_sem] hi119a hi119v Go.Proofs.Try.ntmps119 Go.Proofs.Try.results119
theorem c_spec_l26Ok {s : GShow} {times : List Int} {res : Bool} (h : m_spec_l26Ok s times = some res) : CallOk Go.Proofs.Try.prog 119 [.agg [.sl (rowsOf GNode.encS s.nodes), .sl (rowsOf GTie.enc s.ties), .lit (.int .i64 s.horizon)], .sl (rowsOf eI times)] [] (.lit (.bool res)) [] := by
  refine callOk_of (ra := []) (md := mdT) hT (hi := hi119) Go.Proofs.Try.func119 rfl rfl (by decide +kernel) (by simp) ?_
  unfold m_spec_l26Ok at h
  obtain ⟨r1001, g1, h⟩ := obnd_some h
  simp -implicitDefEqProofs -dsimp only [go_sem]
  refine callW_of (c_spec_ShowOk g1) ?_
  rcases ite_some h with ⟨h2, h⟩ | ⟨h2, h⟩
  · rcases ite_some h with ⟨h3, h⟩ | ⟨h3, h⟩
    · obtain ⟨q1004, l4, h⟩ := obnd_some h
      simp -implicitDefEqProofs -dsimp only [go_sem, (eq_true h2), (condZ_t h2), (eq_true h3)]
      refine loopW_loopO (m1 := .mk) (m2 := .mk) [.nf [18, 19, 20] []] (m_spec_l26Ok_L1_St times ((times.length : Nat) : Int)) l4 ?_ ?_
      · simp -implicitDefEqProofs -dsimp only [go_sem, (eq_true h2), (condZ_t h2), (eq_true h3)]
      · intro nb5 sb5 bb5 b5 gb5
        obtain ⟨v20_1, eb5⟩ : ∃ v, v = sb5 := ⟨_, rfl⟩; subst eb5
        unfold m_spec_l26Ok_L1 at b5
        try dsimp only at b5
        rcases ite_some b5 with ⟨h6, b5⟩ | ⟨h6, b5⟩
        · obtain ⟨x1002, g7, b5⟩ := obnd_some b5
          obtain ⟨h8, h9, h10⟩ := getI_some g7
          obtain ⟨r1003, g11, b5⟩ := obnd_some b5
          simp -implicitDefEqProofs -dsimp only [go_sem, (eq_true h2), (condZ_t h2), (eq_true h3), (eq_true h6), h8, h9, h10]
          refine callW_of (c_spec_l01In g11) ?_
          rcases ite_some b5 with ⟨h12, b5⟩ | ⟨h12, b5⟩
          · cases b5
            simp -implicitDefEqProofs -dsimp only [go_sem, (eq_true h2), (condZ_t h2), (eq_true h3), (eq_true h6), h8, h9, h10, (eq_true h12), (condZ_t h12)]
            refine next_of gb5 ?_
            simp -implicitDefEqProofs -dsimp only [go_sem, (eq_true h2), (condZ_t h2), (eq_true h3), (eq_true h6), h8, h9, h10, (eq_true h12), (condZ_t h12)]
          · cases b5
            have e13 := (done_of gb5).symm
            subst e13
            try dsimp only at h
            cases h
            simp -implicitDefEqProofs -dsimp only [go_sem, (eq_true h2), (condZ_t h2), (eq_true h3), (eq_true h6), h8, h9, h10, (eq_false h12), (condZ_f h12)]
        · cases b5
          have e14 := (done_of gb5).symm
          subst e14
          try dsimp only at h
          cases h
          simp -implicitDefEqProofs -dsimp only [go_sem, (eq_true h2), (condZ_t h2), (eq_true h3), (eq_false h6)]
    · cases h
      simp -implicitDefEqProofs -dsimp only [go_sem, (eq_true h2), (condZ_t h2), (eq_false h3)]
  · cases h
    simp -implicitDefEqProofs -dsimp only [go_sem, (eq_false h2), (condZ_f h2)]
/- 52 loop.example/g00827/spec.BrokenTies -/
def m_spec_BrokenTies_L1_St (times : List Int) (v14 : List GTie) (v15 : Int) : (Int × (List Int)) → St
  | (v16, out) => ⟨[(1, .sl (rowsOf eI times)), (5, .ref 512 1 0 out.length), (14, .sl (rowsOf GTie.enc v14)), (15, .lit (.int .i64 v15)), (16, .lit (.int .i64 v16))], [(512, 1, .row true (rowsOf eI out))], 2⟩
attribute [go_sem] m_spec_BrokenTies_L1_St
def hi52 : Hint where
  acts := fun _ => []
  draws := fun
    | 7 => ⟨.cons ⟨0, false, []⟩ (.cons ⟨1, false, []⟩ (.cons ⟨2, false, []⟩ (.cons ⟨3, false, []⟩ (.cons ⟨4, false, []⟩ (.cons ⟨5, false, []⟩ (.cons ⟨6, false, []⟩ (.cons ⟨7, false, []⟩ (.cons ⟨8, false, []⟩ (.cons ⟨9, false, []⟩ (.cons ⟨10, false, []⟩ (.cons ⟨11, false, []⟩ (.cons ⟨12, false, []⟩ (.cons ⟨13, false, []⟩ (.cons ⟨14, false, []⟩ (.cons ⟨15, false, []⟩ (.cons ⟨16, false, []⟩ (.cons ⟨17, false, []⟩ (.cons ⟨18, false, []⟩ (.cons ⟨19, false, []⟩ (.cons ⟨20, false, []⟩ (.cons ⟨21, false, []⟩ (.cons ⟨22, false, []⟩ (.cons ⟨23, false, []⟩ (.cons ⟨24, false, []⟩ (.cons ⟨25, false, []⟩ (.cons ⟨26, false, []⟩ (.cons ⟨27, false, []⟩ (.cons ⟨28, false, []⟩ (.cons ⟨29, false, []⟩ (.cons ⟨30, false, []⟩ (.cons ⟨31, false, []⟩ (.cons ⟨32, false, []⟩ .nil)))))))))))))))))))))))))))))))), [[], [], [1], [0, 1, 2], [0, 1, 2, 3], [0, 1, 2, 3, 4], [0, 1, 2, 3, 4, 5], [0, 1, 2, 3, 4, 5, 6], [0, 1, 2, 3, 4, 5, 6], [0, 1, 2, 3, 4, 5, 6, 8], [0, 1, 2, 3, 4, 5, 6, 7, 8, 9], [0, 1, 2, 3, 4, 5, 6, 7, 8, 9, 10], [0, 1, 2, 3, 4, 5, 6, 7, 8, 9, 10, 11], [0, 1, 2, 3, 4, 5, 6, 7, 8, 9, 10, 11, 12], [0, 1, 2, 3, 4, 5, 6, 7, 8, 9, 10, 11, 12, 13], [0, 1, 2, 3, 4, 5, 6, 7, 8, 9, 10, 11, 12, 13, 14], [0, 1, 2, 3, 4, 5, 6, 7, 8, 9, 10, 11, 12, 13, 14], [0, 1, 2, 3, 4, 5, 6, 7, 8, 9, 10, 11, 12, 13, 14, 16], [0, 1, 2, 3, 4, 5, 6, 7, 8, 9, 10, 11, 12, 13, 14, 15, 16, 17], [0, 1, 2, 3, 4, 5, 6, 7, 8, 9, 10, 11, 12, 13, 14, 15, 16, 17, 18], [0, 1, 2, 3, 4, 5, 6, 7, 8, 9, 10, 11, 12, 13, 14], [0, 1, 2, 3, 4, 5, 6, 7, 8, 9, 10, 11, 12, 13, 14], [0, 1, 2, 3, 4, 5, 6, 7, 8, 9, 10, 11, 12, 13, 14, 21], [0, 1, 2, 3, 4, 5, 6, 7, 8, 9, 10, 11, 12, 13, 14, 20, 21, 22], [0, 1, 2, 3, 4, 5, 6, 7, 8, 9, 10, 11, 12, 13, 14, 20, 21, 22, 23], [0, 1, 2, 3, 4, 5, 6, 7, 8, 9, 10, 11, 12, 13, 14, 15, 16, 17, 18, 19, 20, 21, 22, 23, 24], [0, 1, 2, 3, 4, 5, 6, 7, 8, 9, 10, 11, 12, 13, 14], [0, 1, 2, 3, 4, 5, 6, 7, 8, 9, 10, 11, 12, 13, 14, 26], [0, 1, 2, 3, 4, 5, 6, 7, 8, 9, 10, 11, 12, 13, 14], [0, 1, 2, 3, 4, 5, 6, 7, 8, 9, 10, 11, 12, 13, 14, 28], [0, 1, 2, 3, 4, 5, 6, 7, 8, 9, 10, 11, 12, 13, 14, 15, 16, 17, 18, 19, 20, 21, 22, 23, 24, 25, 26, 27, 28, 29], [0, 1, 2, 3, 4, 5, 6, 7, 8, 9, 10, 11, 12, 13, 14, 15, 16, 17, 18, 19, 20, 21, 22, 23, 24, 25, 26, 27, 28, 29, 30], [0, 1, 2, 3, 4, 5, 6, 7, 8, 9, 10, 11, 12, 13, 14, 15, 16, 17, 18, 19, 20, 21, 22, 23, 24, 25, 26, 27, 28, 29, 30, 31]], [0, 1, 2, 3, 4, 5, 6, 7, 8, 9, 10, 11, 12, 13, 14, 15, 16, 17, 18, 19, 20, 21, 22, 23, 24, 25, 26, 27, 28, 29, 30, 31, 32]⟩
    | _ => ⟨.nil, [], []⟩
theorem hi52a (i : Nat) : hi52.acts i = [] := rfl
theorem hi52v (i : Nat) : hi52.views i = none := rfl
attribute [go_sem] hi52a hi52v Go.Proofs.Try.ntmps52 Go.Proofs.Try.results52
@[go_sem] theorem hi52d7 : (hi52.draws 7).order = .cons ⟨0, false, []⟩ (.cons ⟨1, false, []⟩ (.cons ⟨2, false, []⟩ (.cons ⟨3, false, []⟩ (.cons ⟨4, false, []⟩ (.cons ⟨5, false, []⟩ (.cons ⟨6, false, []⟩ (.cons ⟨7, false, []⟩ (.cons ⟨8, false, []⟩ (.cons ⟨9, false, []⟩ (.cons ⟨10, false, []⟩ (.cons ⟨11, false, []⟩ (.cons ⟨12, false, []⟩ (.cons ⟨13, false, []⟩ (.cons ⟨14, false, []⟩ (.cons ⟨15, false, []⟩ (.cons ⟨16, false, []⟩ (.cons ⟨17, false, []⟩ (.cons ⟨18, false, []⟩ (.cons ⟨19, false, []⟩ (.cons ⟨20, false, []⟩ (.cons ⟨21, false, []⟩ (.cons ⟨22, false, []⟩ (.cons ⟨23, false, []⟩ (.cons ⟨24, false, []⟩ (.cons ⟨25, false, []⟩ (.cons ⟨26, false, []⟩ (.cons ⟨27, false, []⟩ (.cons ⟨28, false, []⟩ (.cons ⟨29, false, []⟩ (.cons ⟨30, false, []⟩ (.cons ⟨31, false, []⟩ (.cons ⟨32, false, []⟩ .nil)))))))))))))))))))))))))))))))) := rfl
theorem c_spec_BrokenTies {s : GShow} {times : List Int} {res : List Int} (h : m_spec_BrokenTies s times = some res) : CallOk Go.Proofs.Try.prog 52 [.agg [.sl (rowsOf GNode.encS s.nodes), .sl (rowsOf GTie.enc s.ties), .lit (.int .i64 s.horizon)], .sl (rowsOf eI times)] [] (.ref 20000 1 0 res.length) [(20000, 1, .row true (rowsOf eI res))] := by
  refine callOk_of (ra := [.home 4]) (md := mdT) hT (hi := hi52) Go.Proofs.Try.func52 rfl rfl (by decide +kernel) (by simp) ?_
  unfold m_spec_BrokenTies at h
  obtain ⟨r1001, g1, h⟩ := obnd_some h
  simp -implicitDefEqProofs -dsimp only [go_sem]
  refine callW_of (c_spec_l26Ok g1) ?_
  rcases ite_some h with ⟨h2, h⟩ | ⟨h2, h⟩
  · obtain ⟨q1006, l3, h⟩ := obnd_some h
    simp -implicitDefEqProofs -dsimp only [go_sem, (eq_true h2), (condZ_t h2)]
    refine loopW_loopO (m1 := .mk) (m2 := .mk) [.nf [1, 5, 14, 15, 16] [512]] (m_spec_BrokenTies_L1_St times s.ties ((s.ties.length : Nat) : Int)) l3 ?_ ?_
    · simp -implicitDefEqProofs -dsimp only [go_sem, (eq_true h2), (condZ_t h2)]
    · intro nb4 sb4 bb4 b4 gb4
      obtain ⟨v16_1, out_1⟩ := sb4
      unfold m_spec_BrokenTies_L1 at b4
      try dsimp only at b4
      rcases ite_some b4 with ⟨h5, b4⟩ | ⟨h5, b4⟩
      · obtain ⟨x1002, g6, b4⟩ := obnd_some b4
        obtain ⟨h7, h8, h9⟩ := getI_some g6
        obtain ⟨x1003, g10, b4⟩ := obnd_some b4
        obtain ⟨h11, h12, h13⟩ := getI_some g10
        rcases ite_some b4 with ⟨h14, b4⟩ | ⟨h14, b4⟩
        · cases b4
          simp -implicitDefEqProofs -dsimp only [go_sem, (eq_true h2), (condZ_t h2), (eq_true h5), h7, h8, h9, h11, h12, h13, (eq_true h14)]
          refine next_of gb4 ?_
          simp -implicitDefEqProofs -dsimp only [go_sem, (eq_true h2), (condZ_t h2), (eq_true h5), h7, h8, h9, h11, h12, h13, (eq_true h14)]
        · obtain ⟨x1004, g15, b4⟩ := obnd_some b4
          obtain ⟨h16, h17, h18⟩ := getI_some g15
          rcases ite_some b4 with ⟨h19, b4⟩ | ⟨h19, b4⟩
          · cases b4
            simp -implicitDefEqProofs -dsimp only [go_sem, (eq_true h2), (condZ_t h2), (eq_true h5), h7, h8, h9, h11, h12, h13, (eq_false h14), h16, h17, h18, (eq_true h19)]
            refine next_of gb4 ?_
            simp -implicitDefEqProofs -dsimp only [go_sem, (eq_true h2), (condZ_t h2), (eq_true h5), h7, h8, h9, h11, h12, h13, (eq_false h14), h16, h17, h18, (eq_true h19)]
          · obtain ⟨r1005, g20, b4⟩ := obnd_some b4
            simp -implicitDefEqProofs -dsimp only [go_sem, (eq_true h2), (condZ_t h2), (eq_true h5), h7, h8, h9, h11, h12, h13, (eq_false h14), h16, h17, h18, (eq_false h19)]
            refine callW_of (c_spec_l01In g20) ?_
            rcases ite_some b4 with ⟨h21, b4⟩ | ⟨h21, b4⟩
            · cases b4
              simp -implicitDefEqProofs -dsimp only [go_sem, (eq_true h2), (condZ_t h2), (eq_true h5), h7, h8, h9, h11, h12, h13, (eq_false h14), h16, h17, h18, (eq_false h19), (eq_true h21), (condZ_t h21)]
              refine next_of gb4 ?_
              simp -implicitDefEqProofs -dsimp only [go_sem, (eq_true h2), (condZ_t h2), (eq_true h5), h7, h8, h9, h11, h12, h13, (eq_false h14), h16, h17, h18, (eq_false h19), (eq_true h21), (condZ_t h21)]
            · obtain ⟨h22, b4⟩ := chk_some b4
              obtain ⟨h23, b4⟩ := chk_some b4
              cases b4
              simp -implicitDefEqProofs -dsimp only [go_sem, (eq_true h2), (condZ_t h2), (eq_true h5), h7, h8, h9, h11, h12, h13, (eq_false h14), h16, h17, h18, (eq_false h19), (eq_false h21), (condZ_f h21), (eq_true h22), (eq_true h23)]
              refine next_of gb4 ?_
              simp -implicitDefEqProofs -dsimp only [go_sem, (eq_true h2), (condZ_t h2), (eq_true h5), h7, h8, h9, h11, h12, h13, (eq_false h14), h16, h17, h18, (eq_false h19), (eq_false h21), (condZ_f h21), (eq_true h22), (eq_true h23)]
      · cases b4
        have e24 := (done_of gb4).symm
        subst e24
        try dsimp only at h
        cases h
        simp -implicitDefEqProofs -dsimp only [go_sem, (eq_true h2), (condZ_t h2), (eq_false h5)]
  · cases h
    simp -implicitDefEqProofs -dsimp only [go_sem, (eq_false h2), (condZ_f h2)]
/- 193 loop.example/g00827/impl.IsName -/
def m_impl_IsName_L1_St (s : ByteArray) (i : Int) : St := ⟨[(0, .lit (.string s)), (3, .lit (.int .i64 i))], [], 2⟩
attribute [go_sem] m_impl_IsName_L1_St
def hi193 : Hint where
  acts := fun _ => []
  draws := fun
    | 4 => ⟨.cons ⟨0, false, []⟩ (.cons ⟨1, false, []⟩ (.cons ⟨2, false, []⟩ (.cons ⟨3, false, []⟩ (.cons ⟨4, false, []⟩ (.cons ⟨5, false, []⟩ (.cons ⟨6, false, []⟩ (.cons ⟨7, false, []⟩ (.cons ⟨8, false, []⟩ (.cons ⟨9, false, []⟩ (.cons ⟨10, false, []⟩ (.cons ⟨11, false, []⟩ (.cons ⟨12, false, []⟩ (.cons ⟨13, false, []⟩ (.cons ⟨14, false, []⟩ (.cons ⟨15, false, []⟩ (.cons ⟨16, false, []⟩ (.cons ⟨17, false, []⟩ (.cons ⟨18, false, []⟩ (.cons ⟨19, false, []⟩ (.cons ⟨20, false, []⟩ (.cons ⟨21, false, []⟩ .nil))))))))))))))))))))), [[], [], [0, 1], [0, 1, 2], [0, 1, 2, 3], [0, 1, 2, 3, 4], [0, 1, 2, 3, 4], [0, 1, 2, 3, 4, 5, 6], [0, 1, 2, 3, 4, 5, 6, 7], [0, 1, 2, 3, 4, 5, 6, 7, 8], [], [], [10, 11], [10, 11, 12], [0, 1, 2, 3, 4, 10, 11, 12, 13], [0, 1, 2, 3, 4, 10, 11, 12, 13, 14], [0, 1, 2, 3, 4, 10, 11, 12, 13, 14], [0, 1, 2, 3, 4, 10, 11, 12, 13, 14, 15, 16], [0, 1, 2, 3, 4, 10, 11, 12, 13, 14, 15, 16, 17], [0, 1, 2, 3, 4, 10, 11, 12, 13, 14, 15, 16, 17, 18], [0, 1, 2, 3, 4, 5, 6, 7, 8, 9, 10, 11, 12, 13, 14], [0, 1, 2, 3, 4, 5, 6, 7, 8, 9, 10, 11, 12, 13, 14, 15, 16, 17, 18, 19, 20]], [0, 1, 2, 3, 4, 5, 6, 7, 8, 9, 10, 11, 12, 13, 14, 16, 17, 18, 19, 20, 15, 21]⟩
    | _ => ⟨.nil, [], []⟩
theorem hi193a (i : Nat) : hi193.acts i = [] := rfl
theorem hi193v (i : Nat) : hi193.views i = none := rfl
attribute [go_sem] hi193a hi193v Go.Proofs.Try.ntmps193 Go.Proofs.Try.results193
@[go_sem] theorem hi193d4 : (hi193.draws 4).order = .cons ⟨0, false, []⟩ (.cons ⟨1, false, []⟩ (.cons ⟨2, false, []⟩ (.cons ⟨3, false, []⟩ (.cons ⟨4, false, []⟩ (.cons ⟨5, false, []⟩ (.cons ⟨6, false, []⟩ (.cons ⟨7, false, []⟩ (.cons ⟨8, false, []⟩ (.cons ⟨9, false, []⟩ (.cons ⟨10, false, []⟩ (.cons ⟨11, false, []⟩ (.cons ⟨12, false, []⟩ (.cons ⟨13, false, []⟩ (.cons ⟨14, false, []⟩ (.cons ⟨15, false, []⟩ (.cons ⟨16, false, []⟩ (.cons ⟨17, false, []⟩ (.cons ⟨18, false, []⟩ (.cons ⟨19, false, []⟩ (.cons ⟨20, false, []⟩ (.cons ⟨21, false, []⟩ .nil))))))))))))))))))))) := rfl
theorem c_impl_IsName {s : ByteArray} {res : Bool} (h : m_impl_IsName s = some res) : CallOk Go.Proofs.Try.prog 193 [.lit (.string s)] [] (.lit (.bool res)) [] := by
  refine callOk_of (ra := []) (md := mdT) hT (hi := hi193) Go.Proofs.Try.func193 rfl rfl (by decide +kernel) (by simp) ?_
  unfold m_impl_IsName at h
  obtain ⟨q1002, l1, h⟩ := obnd_some h
  simp -implicitDefEqProofs -dsimp only [go_sem]
  refine loopW_loopO (m1 := .mk) (m2 := .mk) [.nf [0, 3] []] (m_impl_IsName_L1_St s) l1 ?_ ?_
  · simp -implicitDefEqProofs -dsimp only [go_sem]
  · intro nb2 sb2 bb2 b2 gb2
    obtain ⟨i_1, eb2⟩ : ∃ v, v = sb2 := ⟨_, rfl⟩; subst eb2
    unfold m_impl_IsName_L1 at b2
    try dsimp only at b2
    rcases ite_some b2 with ⟨h3, b2⟩ | ⟨h3, b2⟩
    · obtain ⟨c1001, g4, b2⟩ := obnd_some b2
      obtain ⟨h5, h6, h7⟩ := getS_some g4
      rcases ite_some b2 with ⟨h8, b2⟩ | ⟨h8, b2⟩
      · rcases ite_some b2 with ⟨h9, b2⟩ | ⟨h9, b2⟩
        · rcases ite_some b2 with ⟨h10, b2⟩ | ⟨h10, b2⟩
          · cases b2
            simp -implicitDefEqProofs -dsimp only [go_sem, (eq_true h3), h5, h6, h7, (eq_true h8), (eq_true h9), (eq_true h10)]
            refine next_of gb2 ?_
            simp -implicitDefEqProofs -dsimp only [go_sem, (eq_true h3), h5, h6, h7, (eq_true h8), (eq_true h9), (eq_true h10)]
          · rcases ite_some b2 with ⟨h11, b2⟩ | ⟨h11, b2⟩
            · rcases ite_some b2 with ⟨h12, b2⟩ | ⟨h12, b2⟩
              · cases b2
                have e13 := (done_of gb2).symm
                subst e13
                try dsimp only at h
                cases h
                simp -implicitDefEqProofs -dsimp only [go_sem, (eq_true h3), h5, h6, h7, (eq_true h8), (eq_true h9), (eq_false h10), (eq_true h11), (eq_true h12)]
              · cases b2
                simp -implicitDefEqProofs -dsimp only [go_sem, (eq_true h3), h5, h6, h7, (eq_true h8), (eq_true h9), (eq_false h10), (eq_true h11), (eq_false h12)]
                refine next_of gb2 ?_
                simp -implicitDefEqProofs -dsimp only [go_sem, (eq_true h3), h5, h6, h7, (eq_true h8), (eq_true h9), (eq_false h10), (eq_true h11), (eq_false h12)]
            · cases b2
              have e14 := (done_of gb2).symm
              subst e14
              try dsimp only at h
              cases h
              simp -implicitDefEqProofs -dsimp only [go_sem, (eq_true h3), h5, h6, h7, (eq_true h8), (eq_true h9), (eq_false h10), (eq_false h11)]
        · rcases ite_some b2 with ⟨h15, b2⟩ | ⟨h15, b2⟩
          · cases b2
            simp -implicitDefEqProofs -dsimp only [go_sem, (eq_true h3), h5, h6, h7, (eq_true h8), (eq_false h9), (eq_true h15)]
            refine next_of gb2 ?_
            simp -implicitDefEqProofs -dsimp only [go_sem, (eq_true h3), h5, h6, h7, (eq_true h8), (eq_false h9), (eq_true h15)]
          · cases b2
            have e16 := (done_of gb2).symm
            subst e16
            try dsimp only at h
            cases h
            simp -implicitDefEqProofs -dsimp only [go_sem, (eq_true h3), h5, h6, h7, (eq_true h8), (eq_false h9), (eq_false h15)]
      · rcases ite_some b2 with ⟨h17, b2⟩ | ⟨h17, b2⟩
        · rcases ite_some b2 with ⟨h18, b2⟩ | ⟨h18, b2⟩
          · rcases ite_some b2 with ⟨h19, b2⟩ | ⟨h19, b2⟩
            · cases b2
              have e20 := (done_of gb2).symm
              subst e20
              try dsimp only at h
              cases h
              simp -implicitDefEqProofs -dsimp only [go_sem, (eq_true h3), h5, h6, h7, (eq_false h8), (eq_true h17), (eq_true h18), (eq_true h19)]
            · cases b2
              simp -implicitDefEqProofs -dsimp only [go_sem, (eq_true h3), h5, h6, h7, (eq_false h8), (eq_true h17), (eq_true h18), (eq_false h19)]
              refine next_of gb2 ?_
              simp -implicitDefEqProofs -dsimp only [go_sem, (eq_true h3), h5, h6, h7, (eq_false h8), (eq_true h17), (eq_true h18), (eq_false h19)]
          · cases b2
            have e21 := (done_of gb2).symm
            subst e21
            try dsimp only at h
            cases h
            simp -implicitDefEqProofs -dsimp only [go_sem, (eq_true h3), h5, h6, h7, (eq_false h8), (eq_true h17), (eq_false h18)]
        · cases b2
          have e22 := (done_of gb2).symm
          subst e22
          try dsimp only at h
          cases h
          simp -implicitDefEqProofs -dsimp only [go_sem, (eq_true h3), h5, h6, h7, (eq_false h8), (eq_false h17)]
    · cases b2
      have e23 := (done_of gb2).symm
      subst e23
      try dsimp only at h
      rcases ite_some h with ⟨h24, h⟩ | ⟨h24, h⟩
      · cases h
        simp -implicitDefEqProofs -dsimp only [go_sem, (eq_false h3), (eq_true h24)]
      · cases h
        simp -implicitDefEqProofs -dsimp only [go_sem, (eq_false h3), (eq_false h24)]
/- 171 loop.example/g00827/impl.propOf -/
def hi171 : Hint where
  acts := fun _ => []
  draws := fun
    | _ => ⟨.nil, [], []⟩
theorem hi171a (i : Nat) : hi171.acts i = [] := rfl
theorem hi171v (i : Nat) : hi171.views i = none := rfl
attribute [go_sem] hi171a hi171v Go.Proofs.Try.ntmps171 Go.Proofs.Try.results171
theorem c_impl_propOf {l : Int} {res : Int} (h : m_impl_propOf l = some res) : CallOk Go.Proofs.Try.prog 171 [.lit (.int .i64 l)] [] (.lit (.int .i64 res)) [] := by
  refine callOk_of (ra := []) (md := mdT) hT (hi := hi171) Go.Proofs.Try.func171 rfl rfl (by decide +kernel) (by simp) ?_
  unfold m_impl_propOf at h
  cases h
  simp -implicitDefEqProofs -dsimp only [go_sem]
/- 194 loop.example/g00827/impl.LabelOk -/
def m_impl_LabelOk_L1_St (l : List Int) (v6 : Int) (v7 : Int) : St := ⟨[(0, .sl (rowsOf eI l)), (5, .sl (rowsOf eI l)), (6, .lit (.int .i64 v6)), (7, .lit (.int .i64 v7))], [], 2⟩
attribute [go_sem] m_impl_LabelOk_L1_St
def hi194 : Hint where
  acts := fun _ => []
  draws := fun
    | _ => ⟨.nil, [], []⟩
theorem hi194a (i : Nat) : hi194.acts i = [] := rfl
theorem hi194v (i : Nat) : hi194.views i = none := rfl
attribute [go_sem] hi194a hi194v Go.Proofs.Try.ntmps194 Go.Proofs.Try.results194
theorem c_impl_LabelOk {l : List Int} {res : Bool} (h : m_impl_LabelOk l = some res) : CallOk Go.Proofs.Try.prog 194 [.sl (rowsOf eI l)] [] (.lit (.bool res)) [] := by
  refine callOk_of (ra := []) (md := mdT) hT (hi := hi194) Go.Proofs.Try.func194 rfl rfl (by decide +kernel) (by simp) ?_
  unfold m_impl_LabelOk at h
  obtain ⟨q1005, l1, h⟩ := obnd_some h
  simp -implicitDefEqProofs -dsimp only [go_sem]
  refine loopW_loopO (m1 := .mk) (m2 := .mk) [.nf [0, 5, 6, 7] []] (m_impl_LabelOk_L1_St l ((l.length : Nat) : Int)) l1 ?_ ?_
  · simp -implicitDefEqProofs -dsimp only [go_sem]
  · intro nb2 sb2 bb2 b2 gb2
    obtain ⟨v7_1, eb2⟩ : ∃ v, v = sb2 := ⟨_, rfl⟩; subst eb2
    unfold m_impl_LabelOk_L1 at b2
    try dsimp only at b2
    rcases ite_some b2 with ⟨h3, b2⟩ | ⟨h3, b2⟩
    · obtain ⟨x1001, g4, b2⟩ := obnd_some b2
      obtain ⟨h5, h6, h7⟩ := getI_some g4
      rcases ite_some b2 with ⟨h8, b2⟩ | ⟨h8, b2⟩
      · cases b2
        have e9 := (done_of gb2).symm
        subst e9
        try dsimp only at h
        cases h
        simp -implicitDefEqProofs -dsimp only [go_sem, (eq_true h3), h5, h6, h7, (eq_true h8)]
      · rcases ite_some b2 with ⟨h10, b2⟩ | ⟨h10, b2⟩
        · cases b2
          have e11 := (done_of gb2).symm
          subst e11
          try dsimp only at h
          cases h
          simp -implicitDefEqProofs -dsimp only [go_sem, (eq_true h3), h5, h6, h7, (eq_false h8), (eq_true h10)]
        · rcases ite_some b2 with ⟨h12, b2⟩ | ⟨h12, b2⟩
          · cases b2
            have e13 := (done_of gb2).symm
            subst e13
            try dsimp only at h
            cases h
            simp -implicitDefEqProofs -dsimp only [go_sem, (eq_true h3), h5, h6, h7, (eq_false h8), (eq_false h10), (eq_true h12)]
          · rcases ite_some b2 with ⟨h14, b2⟩ | ⟨h14, b2⟩
            · obtain ⟨x1002, g15, b2⟩ := obnd_some b2
              obtain ⟨h16, h17, h18⟩ := getI_some g15
              obtain ⟨r1003, g19, b2⟩ := obnd_some b2
              simp -implicitDefEqProofs -dsimp only [go_sem, (eq_true h3), h5, h6, h7, (eq_false h8), (eq_false h10), (eq_false h12), (eq_true h14), h16, h17, h18]
              refine callW_of (c_impl_propOf g19) ?_
              obtain ⟨r1004, g20, b2⟩ := obnd_some b2
              simp -implicitDefEqProofs -dsimp only [go_sem, (eq_true h3), h5, h6, h7, (eq_false h8), (eq_false h10), (eq_false h12), (eq_true h14), h16, h17, h18]
              refine callW_of (c_impl_propOf g20) ?_
              rcases ite_some b2 with ⟨h21, b2⟩ | ⟨h21, b2⟩
              · cases b2
                have e22 := (done_of gb2).symm
                subst e22
                try dsimp only at h
                cases h
                simp -implicitDefEqProofs -dsimp only [go_sem, (eq_true h3), h5, h6, h7, (eq_false h8), (eq_false h10), (eq_false h12), (eq_true h14), h16, h17, h18, (eq_true h21)]
              · cases b2
                simp -implicitDefEqProofs -dsimp only [go_sem, (eq_true h3), h5, h6, h7, (eq_false h8), (eq_false h10), (eq_false h12), (eq_true h14), h16, h17, h18, (eq_false h21)]
                refine next_of gb2 ?_
                simp -implicitDefEqProofs -dsimp only [go_sem, (eq_true h3), h5, h6, h7, (eq_false h8), (eq_false h10), (eq_false h12), (eq_true h14), h16, h17, h18, (eq_false h21)]
            · cases b2
              simp -implicitDefEqProofs -dsimp only [go_sem, (eq_true h3), h5, h6, h7, (eq_false h8), (eq_false h10), (eq_false h12), (eq_false h14)]
              refine next_of gb2 ?_
              simp -implicitDefEqProofs -dsimp only [go_sem, (eq_true h3), h5, h6, h7, (eq_false h8), (eq_false h10), (eq_false h12), (eq_false h14)]
    · cases b2
      have e23 := (done_of gb2).symm
      subst e23
      try dsimp only at h
      cases h
      simp -implicitDefEqProofs -dsimp only [go_sem, (eq_false h3)]
/- 164 loop.example/g00827/impl.NodeOk -/
def hi164 : Hint where
  acts := fun _ => []
  draws := fun
    | _ => ⟨.nil, [], []⟩
theorem hi164a (i : Nat) : hi164.acts i = [] := rfl
theorem hi164v (i : Nat) : hi164.views i = none := rfl
attribute [go_sem] hi164a hi164v Go.Proofs.Try.ntmps164 Go.Proofs.Try.results164
theorem c_impl_NodeOk {n : GNode} {res : Bool} (h : m_impl_NodeOk n = some res) : CallOk Go.Proofs.Try.prog 164 [.agg [.lit (.string n.name), .sl (rowsOf eI n.label), .lit (.int .i64 n.watch)]] [] (.lit (.bool res)) [] := by
  refine callOk_of (ra := []) (md := mdT) hT (hi := hi164) Go.Proofs.Try.func164 rfl rfl (by decide +kernel) (by simp) ?_
  unfold m_impl_NodeOk at h
  obtain ⟨r1001, g1, h⟩ := obnd_some h
  simp -implicitDefEqProofs -dsimp only [go_sem]
  refine callW_of (c_impl_IsName g1) ?_
  rcases ite_some h with ⟨h2, h⟩ | ⟨h2, h⟩
  · obtain ⟨r1002, g3, h⟩ := obnd_some h
    simp -implicitDefEqProofs -dsimp only [go_sem, (eq_true h2), (condZ_t h2)]
    refine callW_of (c_impl_LabelOk g3) ?_
    rcases ite_some h with ⟨h4, h⟩ | ⟨h4, h⟩
    · rcases ite_some h with ⟨h5, h⟩ | ⟨h5, h⟩
      · cases h
        simp -implicitDefEqProofs -dsimp only [go_sem, (eq_true h2), (condZ_t h2), (eq_true h4), (condZ_t h4), (eq_true h5)]
      · cases h
        simp -implicitDefEqProofs -dsimp only [go_sem, (eq_true h2), (condZ_t h2), (eq_true h4), (condZ_t h4), (eq_false h5)]
    · cases h
      simp -implicitDefEqProofs -dsimp only [go_sem, (eq_true h2), (condZ_t h2), (eq_false h4), (condZ_f h4)]
  · cases h
    simp -implicitDefEqProofs -dsimp only [go_sem, (eq_false h2), (condZ_f h2)]
/- 103 loop.example/g00827/impl.areNodes -/
def m_impl_areNodes_L2_St (v35 : List GNode) (v36 : Int) (v37 : Int) (v48 : List GNode) (v49 : Int) (s_1 : List GTie) (s_2 : Int) (n_0 : ByteArray) (n_1 : List Int) (n_2 : Int) (v50 : Int) : St := ⟨[(1, .ptr 64 1 0 0), (4, .ptr 256 1 0 0), (35, .sl (rowsOf GNode.encS v35)), (36, .lit (.int .i64 v36)), (37, .lit (.int .i64 v37)), (48, .sl (rowsOf GNode.encS v48)), (49, .lit (.int .i64 v49)), (50, .lit (.int .i64 v50))], [(64, 1, .var [.sl (rowsOf GNode.encS v35), .sl (rowsOf GTie.enc s_1), .lit (.int .i64 s_2)]), (256, 1, .var [.lit (.string n_0), .sl (rowsOf eI n_1), .lit (.int .i64 n_2)])], 2⟩
attribute [go_sem] m_impl_areNodes_L2_St
def m_impl_areNodes_L3_St (v35 : List GNode) (v36 : Int) (s_1 : List GTie) (s_2 : Int) (v37 : Int) : St := ⟨[(1, .ptr 64 1 0 0), (35, .sl (rowsOf GNode.encS v35)), (36, .lit (.int .i64 v36)), (37, .lit (.int .i64 v37))], [(64, 1, .var [.sl (rowsOf GNode.encS v35), .sl (rowsOf GTie.enc s_1), .lit (.int .i64 s_2)])], 2⟩
attribute [go_sem] m_impl_areNodes_L3_St
def hi103 : Hint where
  acts := fun _ => []
  draws := fun
    | _ => ⟨.nil, [], []⟩
theorem hi103a (i : Nat) : hi103.acts i = [] := rfl
theorem hi103v (i : Nat) : hi103.views i = none := rfl
attribute [go_sem] hi103a hi103v Go.Proofs.Try.ntmps103 Go.Proofs.Try.results103
theorem c_impl_areNodes {s : GShow} {res : Bool} (h : m_impl_areNodes s = some res) : CallOk Go.Proofs.Try.prog 103 [.agg [.sl (rowsOf GNode.encS s.nodes), .sl (rowsOf GTie.enc s.ties), .lit (.int .i64 s.horizon)]] [] (.lit (.bool res)) [] := by
  refine callOk_of (ra := []) (md := mdT) hT (hi := hi103) Go.Proofs.Try.func103 rfl rfl (by decide +kernel) (by simp) ?_
  unfold m_impl_areNodes at h
  rcases ite_some h with ⟨h1, h⟩ | ⟨h1, h⟩
  · cases h
    simp -implicitDefEqProofs -dsimp only [go_sem, (eq_true h1)]
  · rcases ite_some h with ⟨h2, h⟩ | ⟨h2, h⟩
    · cases h
      simp -implicitDefEqProofs -dsimp only [go_sem, (eq_false h1), (eq_true h2)]
    · obtain ⟨x1001, g3, h⟩ := obnd_some h
      obtain ⟨h5, h6⟩ := getI_nat (k := 0) g3
      rcases ite_some h with ⟨h7, h⟩ | ⟨h7, h⟩
      · cases h
        simp -implicitDefEqProofs -dsimp only [go_sem, (eq_false h1), (eq_false h2), h5, h6, (eq_true h7)]
      · rcases ite_some h with ⟨h8, h⟩ | ⟨h8, h⟩
        · obtain ⟨q1006, l9, h⟩ := obnd_some h
          simp -implicitDefEqProofs -dsimp only [go_sem, (eq_false h1), (eq_false h2), h5, h6, (eq_false h7), (eq_true h8)]
          refine loopW_loopO (m1 := .mk) (m2 := .mk) [.nf [1, 35, 36, 37] [64]] (m_impl_areNodes_L3_St s.nodes ((s.nodes.length : Nat) : Int) s.ties s.horizon) l9 ?_ ?_
          · simp -implicitDefEqProofs -dsimp only [go_sem, (eq_false h1), (eq_false h2), h5, h6, (eq_false h7), (eq_true h8)]
          · intro nb10 sb10 bb10 b10 gb10
            obtain ⟨v37_1, eb10⟩ : ∃ v, v = sb10 := ⟨_, rfl⟩; subst eb10
            unfold m_impl_areNodes_L3 at b10
            try dsimp only at b10
            rcases ite_some b10 with ⟨h11, b10⟩ | ⟨h11, b10⟩
            · obtain ⟨x1002, g12, b10⟩ := obnd_some b10
              obtain ⟨h13, h14, h15⟩ := getI_some g12
              obtain ⟨r1003, g16, b10⟩ := obnd_some b10
              simp -implicitDefEqProofs -dsimp only [go_sem, (eq_false h1), (eq_false h2), h5, h6, (eq_false h7), (eq_true h8), (eq_true h11), h13, h14, h15]
              refine callW_of (c_impl_NodeOk g16) ?_
              rcases ite_some b10 with ⟨h17, b10⟩ | ⟨h17, b10⟩
              · obtain ⟨h18, b10⟩ := chk_some b10
                obtain ⟨h19, b10⟩ := chk_some b10
                obtain ⟨q1005, l20, b10⟩ := obnd_some b10
                simp -implicitDefEqProofs -dsimp only [go_sem, (eq_false h1), (eq_false h2), h5, h6, (eq_false h7), (eq_true h8), (eq_true h11), h13, h14, h15, (eq_true h17), (condZ_t h17), (eq_true h18), (eq_true h19)]
                refine loopW_loopO (m1 := .mk) (m2 := .mk) [.nf [1, 4, 35, 36, 37, 48, 49, 50] [64, 256]] (m_impl_areNodes_L2_St s.nodes ((s.nodes.length : Nat) : Int) v37_1 (s.nodes.take v37_1.toNat) (((s.nodes.take v37_1.toNat).length : Nat) : Int) s.ties s.horizon x1002.name x1002.label x1002.watch) l20 ?_ ?_
                · simp -implicitDefEqProofs -dsimp only [go_sem, (eq_false h1), (eq_false h2), h5, h6, (eq_false h7), (eq_true h8), (eq_true h11), h13, h14, h15, (eq_true h17), (condZ_t h17), (eq_true h18), (eq_true h19)]
                · intro nb21 sb21 bb21 b21 gb21
                  obtain ⟨v50_2, eb21⟩ : ∃ v, v = sb21 := ⟨_, rfl⟩; subst eb21
                  unfold m_impl_areNodes_L2 at b21
                  try dsimp only at b21
                  rcases ite_some b21 with ⟨h22, b21⟩ | ⟨h22, b21⟩
                  · obtain ⟨x1004, g23, b21⟩ := obnd_some b21
                    obtain ⟨h24, h25, h26⟩ := getI_some g23
                    rcases ite_some b21 with ⟨h27, b21⟩ | ⟨h27, b21⟩
                    · cases b21
                      have e28 := (done_of gb21).symm
                      subst e28
                      try dsimp only at b10
                      cases b10
                      have e29 := (done_of gb10).symm
                      subst e29
                      try dsimp only at h
                      cases h
                      simp -implicitDefEqProofs -dsimp only [go_sem, (eq_false h1), (eq_false h2), h5, h6, (eq_false h7), (eq_true h8), (eq_true h11), h13, h14, h15, (eq_true h17), (condZ_t h17), (eq_true h18), (eq_true h19), (eq_true h22), h24, h25, h26, (eq_true h27)]
                    · rcases ite_some b21 with ⟨h30, b21⟩ | ⟨h30, b21⟩
                      · cases b21
                        simp -implicitDefEqProofs -dsimp only [go_sem, (eq_false h1), (eq_false h2), h5, h6, (eq_false h7), (eq_true h8), (eq_true h11), h13, h14, h15, (eq_true h17), (condZ_t h17), (eq_true h18), (eq_true h19), (eq_true h22), h24, h25, h26, (eq_false h27), (eq_true h30)]
                        refine next_of gb21 ?_
                        simp -implicitDefEqProofs -dsimp only [go_sem, (eq_false h1), (eq_false h2), h5, h6, (eq_false h7), (eq_true h8), (eq_true h11), h13, h14, h15, (eq_true h17), (condZ_t h17), (eq_true h18), (eq_true h19), (eq_true h22), h24, h25, h26, (eq_false h27), (eq_true h30)]
                      · rcases ite_some b21 with ⟨h31, b21⟩ | ⟨h31, b21⟩
                        · cases b21
                          have e32 := (done_of gb21).symm
                          subst e32
                          try dsimp only at b10
                          cases b10
                          have e33 := (done_of gb10).symm
                          subst e33
                          try dsimp only at h
                          cases h
                          simp -implicitDefEqProofs -dsimp only [go_sem, (eq_false h1), (eq_false h2), h5, h6, (eq_false h7), (eq_true h8), (eq_true h11), h13, h14, h15, (eq_true h17), (condZ_t h17), (eq_true h18), (eq_true h19), (eq_true h22), h24, h25, h26, (eq_false h27), (eq_false h30), (eq_true h31)]
                        · cases b21
                          simp -implicitDefEqProofs -dsimp only [go_sem, (eq_false h1), (eq_false h2), h5, h6, (eq_false h7), (eq_true h8), (eq_true h11), h13, h14, h15, (eq_true h17), (condZ_t h17), (eq_true h18), (eq_true h19), (eq_true h22), h24, h25, h26, (eq_false h27), (eq_false h30), (eq_false h31)]
                          refine next_of gb21 ?_
                          simp -implicitDefEqProofs -dsimp only [go_sem, (eq_false h1), (eq_false h2), h5, h6, (eq_false h7), (eq_true h8), (eq_true h11), h13, h14, h15, (eq_true h17), (condZ_t h17), (eq_true h18), (eq_true h19), (eq_true h22), h24, h25, h26, (eq_false h27), (eq_false h30), (eq_false h31)]
                  · cases b21
                    have e34 := (done_of gb21).symm
                    subst e34
                    try dsimp only at b10
                    cases b10
                    simp -implicitDefEqProofs -dsimp only [go_sem, (eq_false h1), (eq_false h2), h5, h6, (eq_false h7), (eq_true h8), (eq_true h11), h13, h14, h15, (eq_true h17), (condZ_t h17), (eq_true h18), (eq_true h19), (eq_false h22)]
                    refine next_of gb10 ?_
                    simp -implicitDefEqProofs -dsimp only [go_sem, (eq_false h1), (eq_false h2), h5, h6, (eq_false h7), (eq_true h8), (eq_true h11), h13, h14, h15, (eq_true h17), (condZ_t h17), (eq_true h18), (eq_true h19), (eq_false h22)]
              · cases b10
                have e35 := (done_of gb10).symm
                subst e35
                try dsimp only at h
                cases h
                simp -implicitDefEqProofs -dsimp only [go_sem, (eq_false h1), (eq_false h2), h5, h6, (eq_false h7), (eq_true h8), (eq_true h11), h13, h14, h15, (eq_false h17), (condZ_f h17)]
            · cases b10
              have e36 := (done_of gb10).symm
              subst e36
              try dsimp only at h
              cases h
              simp -implicitDefEqProofs -dsimp only [go_sem, (eq_false h1), (eq_false h2), h5, h6, (eq_false h7), (eq_true h8), (eq_false h11)]
        · cases h
          simp -implicitDefEqProofs -dsimp only [go_sem, (eq_false h1), (eq_false h2), h5, h6, (eq_false h7), (eq_false h8)]
/- 100 loop.example/g00827/impl.isNode -/
def hi100 : Hint where
  acts := fun _ => []
  draws := fun
    | _ => ⟨.nil, [], []⟩
theorem hi100a (i : Nat) : hi100.acts i = [] := rfl
theorem hi100v (i : Nat) : hi100.views i = none := rfl
attribute [go_sem] hi100a hi100v Go.Proofs.Try.ntmps100 Go.Proofs.Try.results100
theorem c_impl_isNode {n : Int} {node : Int} {res : Bool} (h : m_impl_isNode n node = some res) : CallOk Go.Proofs.Try.prog 100 [.lit (.int .i64 n), .lit (.int .i64 node)] [] (.lit (.bool res)) [] := by
  refine callOk_of (ra := []) (md := mdT) hT (hi := hi100) Go.Proofs.Try.func100 rfl rfl (by decide +kernel) (by simp) ?_
  unfold m_impl_isNode at h
  rcases ite_some h with ⟨h1, h⟩ | ⟨h1, h⟩
  · cases h
    simp -implicitDefEqProofs -dsimp only [go_sem, (eq_true h1)]
  · cases h
    simp -implicitDefEqProofs -dsimp only [go_sem, (eq_false h1)]
/- 165 loop.example/g00827/impl.isSpan -/
def hi165 : Hint where
  acts := fun _ => []
  draws := fun
    | _ => ⟨.nil, [], []⟩
theorem hi165a (i : Nat) : hi165.acts i = [] := rfl
theorem hi165v (i : Nat) : hi165.views i = none := rfl
attribute [go_sem] hi165a hi165v Go.Proofs.Try.ntmps165 Go.Proofs.Try.results165
theorem c_impl_isSpan {n : Int} {res : Bool} (h : m_impl_isSpan n = some res) : CallOk Go.Proofs.Try.prog 165 [.lit (.int .i64 n)] [] (.lit (.bool res)) [] := by
  refine callOk_of (ra := []) (md := mdT) hT (hi := hi165) Go.Proofs.Try.func165 rfl rfl (by decide +kernel) (by simp) ?_
  unfold m_impl_isSpan at h
  rcases ite_some h with ⟨h1, h⟩ | ⟨h1, h⟩
  · cases h
    simp -implicitDefEqProofs -dsimp only [go_sem, (eq_true h1)]
  · cases h
    simp -implicitDefEqProofs -dsimp only [go_sem, (eq_false h1)]
/- 166 slices.Equal[[]int,int] -/
def m_slices_Equal_int_L1_St (v0 : List Int) (v1 : List Int) (v12 : Int) (v13 : Int) : St := ⟨[(0, .sl (rowsOf eI v0)), (1, .sl (rowsOf eI v1)), (12, .lit (.int .i64 v12)), (13, .lit (.int .i64 v13))], [], 2⟩
attribute [go_sem] m_slices_Equal_int_L1_St
def hi166 : Hint where
  acts := fun _ => []
  draws := fun
    | 6 => ⟨.cons ⟨0, false, []⟩ (.cons ⟨1, false, []⟩ (.cons ⟨2, false, []⟩ (.cons ⟨3, false, []⟩ (.cons ⟨4, false, []⟩ (.cons ⟨5, false, []⟩ (.cons ⟨6, false, []⟩ (.cons ⟨7, false, []⟩ (.cons ⟨8, false, []⟩ .nil)))))))), [[], [], [0, 1], [0, 1, 2], [], [], [4, 5], [4, 5, 6], [0, 1, 2, 3, 4, 5, 6, 7]], [0, 1, 2, 3, 4, 5, 6, 7, 8]⟩
    | _ => ⟨.nil, [], []⟩
theorem hi166a (i : Nat) : hi166.acts i = [] := rfl
theorem hi166v (i : Nat) : hi166.views i = none := rfl
attribute [go_sem] hi166a hi166v Go.Proofs.Try.ntmps166 Go.Proofs.Try.results166
@[go_sem] theorem hi166d6 : (hi166.draws 6).order = .cons ⟨0, false, []⟩ (.cons ⟨1, false, []⟩ (.cons ⟨2, false, []⟩ (.cons ⟨3, false, []⟩ (.cons ⟨4, false, []⟩ (.cons ⟨5, false, []⟩ (.cons ⟨6, false, []⟩ (.cons ⟨7, false, []⟩ (.cons ⟨8, false, []⟩ .nil)))))))) := rfl
theorem c_slices_Equal_int {v0 : List Int} {v1 : List Int} {res : Bool} (h : m_slices_Equal_int v0 v1 = some res) : CallOk Go.Proofs.Try.prog 166 [.sl (rowsOf eI v0), .sl (rowsOf eI v1)] [] (.lit (.bool res)) [] := by
  refine callOk_of (ra := []) (md := mdT) hT (hi := hi166) Go.Proofs.Try.func166 rfl rfl (by decide +kernel) (by simp) ?_
  unfold m_slices_Equal_int at h
  rcases ite_some h with ⟨h1, h⟩ | ⟨h1, h⟩
  · obtain ⟨q1003, l2, h⟩ := obnd_some h
    simp -implicitDefEqProofs -dsimp only [go_sem, (eq_true h1)]
    refine loopW_loopO (m1 := .mk) (m2 := .mk) [.nf [0, 1, 12, 13] []] (m_slices_Equal_int_L1_St v0 v1 ((v0.length : Nat) : Int)) l2 ?_ ?_
    · simp -implicitDefEqProofs -dsimp only [go_sem, (eq_true h1)]
    · intro nb3 sb3 bb3 b3 gb3
      obtain ⟨v13_1, eb3⟩ : ∃ v, v = sb3 := ⟨_, rfl⟩; subst eb3
      unfold m_slices_Equal_int_L1 at b3
      try dsimp only at b3
      rcases ite_some b3 with ⟨h4, b3⟩ | ⟨h4, b3⟩
      · obtain ⟨x1001, g5, b3⟩ := obnd_some b3
        obtain ⟨h6, h7, h8⟩ := getI_some g5
        obtain ⟨x1002, g9, b3⟩ := obnd_some b3
        obtain ⟨h10, h11, h12⟩ := getI_some g9
        rcases ite_some b3 with ⟨h13, b3⟩ | ⟨h13, b3⟩
        · cases b3
          simp -implicitDefEqProofs -dsimp only [go_sem, (eq_true h1), (eq_true h4), h6, h7, h8, h10, h11, h12, (eq_true h13)]
          refine next_of gb3 ?_
          simp -implicitDefEqProofs -dsimp only [go_sem, (eq_true h1), (eq_true h4), h6, h7, h8, h10, h11, h12, (eq_true h13)]
        · cases b3
          have e14 := (done_of gb3).symm
          subst e14
          try dsimp only at h
          cases h
          simp -implicitDefEqProofs -dsimp only [go_sem, (eq_true h1), (eq_true h4), h6, h7, h8, h10, h11, h12, (eq_false h13)]
      · cases b3
        have e15 := (done_of gb3).symm
        subst e15
        try dsimp only at h
        cases h
        simp -implicitDefEqProofs -dsimp only [go_sem, (eq_true h1), (eq_false h4)]
  · cases h
    simp -implicitDefEqProofs -dsimp only [go_sem, (eq_false h1)]
/- 161 slices.IndexFunc[[]loop.example/g00827/impl.Tie,loop.example/g00827/impl.Tie] -/
def m_slices_IndexFunc_Tie_L1_St (v0 : List GTie) (f_v1 : Nat) (k_v1 : List AV) (v7 : Int) (v8 : Int) : St := ⟨[(0, .sl (rowsOf GTie.enc v0)), (1, .fn f_v1 k_v1), (7, .lit (.int .i64 v7)), (8, .lit (.int .i64 v8))], [], 2⟩
attribute [go_sem] m_slices_IndexFunc_Tie_L1_St
def hi161 : Hint where
  acts := fun _ => []
  draws := fun
    | _ => ⟨.nil, [], []⟩
theorem hi161a (i : Nat) : hi161.acts i = [] := rfl
theorem hi161v (i : Nat) : hi161.views i = none := rfl
attribute [go_sem] hi161a hi161v Go.Proofs.Try.ntmps161 Go.Proofs.Try.results161
theorem c_slices_IndexFunc_Tie {v0 : List GTie} {v1 : GTie → Option Bool} {f_v1 : Nat} {k_v1 : List AV} (hp_v1 : ∀ y0 r, v1 y0 = some r → CallOk Go.Proofs.Try.prog f_v1 ([.agg [.lit (.int .i64 y0.from_), .lit (.int .i64 y0.to), .lit (.int .i64 y0.low), .lit (.int .i64 y0.high), .lit (.bool y0.free)]] ++ k_v1) [] (.lit (.bool r)) []) (hc_v1 : KC k_v1) (hm_v1 : mdT f_v1 = ⟨[], false⟩) {res : Int} (h : m_slices_IndexFunc_Tie v0 v1 = some res) : CallOk Go.Proofs.Try.prog 161 [.sl (rowsOf GTie.enc v0), .fn f_v1 k_v1] [] (.lit (.int .i64 res)) [] := by
  refine callOk_of (ra := []) (md := mdT) hT (hi := hi161) Go.Proofs.Try.func161 rfl rfl (by decide +kernel) (by simp) ?_
  unfold m_slices_IndexFunc_Tie at h
  obtain ⟨q1003, l1, h⟩ := obnd_some h
  simp -implicitDefEqProofs -dsimp only [go_sem, hc_v1.1, hc_v1.2, hm_v1]
  refine loopW_loopO (m1 := .mk) (m2 := .mk) [.nf [0, 1, 7, 8] []] (m_slices_IndexFunc_Tie_L1_St v0 f_v1 k_v1 ((v0.length : Nat) : Int)) l1 ?_ ?_
  · simp -implicitDefEqProofs -dsimp only [go_sem, hc_v1.1, hc_v1.2, hm_v1]
  · intro nb2 sb2 bb2 b2 gb2
    obtain ⟨v8_1, eb2⟩ : ∃ v, v = sb2 := ⟨_, rfl⟩; subst eb2
    unfold m_slices_IndexFunc_Tie_L1 at b2
    try dsimp only at b2
    rcases ite_some b2 with ⟨h3, b2⟩ | ⟨h3, b2⟩
    · obtain ⟨x1001, g4, b2⟩ := obnd_some b2
      obtain ⟨h5, h6, h7⟩ := getI_some g4
      obtain ⟨r1002, g8, b2⟩ := obnd_some b2
      simp -implicitDefEqProofs -dsimp only [go_sem, hc_v1.1, hc_v1.2, hm_v1, (eq_true h3), h5, h6, h7]
      refine callW_of (hp_v1 _ _ g8) ?_
      rcases ite_some b2 with ⟨h9, b2⟩ | ⟨h9, b2⟩
      · cases b2
        have e10 := (done_of gb2).symm
        subst e10
        try dsimp only at h
        cases h
        simp -implicitDefEqProofs -dsimp only [go_sem, hc_v1.1, hc_v1.2, hm_v1, (eq_true h3), h5, h6, h7, (eq_true h9), (condZ_t h9)]
      · cases b2
        simp -implicitDefEqProofs -dsimp only [go_sem, hc_v1.1, hc_v1.2, hm_v1, (eq_true h3), h5, h6, h7, (eq_false h9), (condZ_f h9)]
        refine next_of gb2 ?_
        simp -implicitDefEqProofs -dsimp only [go_sem, hc_v1.1, hc_v1.2, hm_v1, (eq_true h3), h5, h6, h7, (eq_false h9), (condZ_f h9)]
    · cases b2
      have e11 := (done_of gb2).symm
      subst e11
      try dsimp only at h
      cases h
      simp -implicitDefEqProofs -dsimp only [go_sem, hc_v1.1, hc_v1.2, hm_v1, (eq_false h3)]
/- 167 slices.ContainsFunc[[]loop.example/g00827/impl.Tie,loop.example/g00827/impl.Tie] -/
def hi167 : Hint where
  acts := fun _ => []
  draws := fun
    | _ => ⟨.nil, [], []⟩
theorem hi167a (i : Nat) : hi167.acts i = [] := rfl
theorem hi167v (i : Nat) : hi167.views i = none := rfl
attribute [go_sem] hi167a hi167v Go.Proofs.Try.ntmps167 Go.Proofs.Try.results167
theorem c_slices_ContainsFunc_Tie {v0 : List GTie} {v1 : GTie → Option Bool} {f_v1 : Nat} {k_v1 : List AV} (hp_v1 : ∀ y0 r, v1 y0 = some r → CallOk Go.Proofs.Try.prog f_v1 ([.agg [.lit (.int .i64 y0.from_), .lit (.int .i64 y0.to), .lit (.int .i64 y0.low), .lit (.int .i64 y0.high), .lit (.bool y0.free)]] ++ k_v1) [] (.lit (.bool r)) []) (hc_v1 : KC k_v1) (hm_v1 : mdT f_v1 = ⟨[], false⟩) {res : Bool} (h : m_slices_ContainsFunc_Tie v0 v1 = some res) : CallOk Go.Proofs.Try.prog 167 [.sl (rowsOf GTie.enc v0), .fn f_v1 k_v1] [] (.lit (.bool res)) [] := by
  refine callOk_of (ra := []) (md := mdT) hT (hi := hi167) Go.Proofs.Try.func167 rfl rfl (by decide +kernel) (by simp) ?_
  unfold m_slices_ContainsFunc_Tie at h
  obtain ⟨r1001, g1, h⟩ := obnd_some h
  simp -implicitDefEqProofs -dsimp only [go_sem, hc_v1.1, hc_v1.2, hm_v1]
  refine callW_of (c_slices_IndexFunc_Tie hp_v1 hc_v1 hm_v1 g1) ?_
  cases h
  simp -implicitDefEqProofs -dsimp only [go_sem, hc_v1.1, hc_v1.2, hm_v1]
/- 168 loop.example/g00827/impl.areTies$1 -/
def hi168 : Hint where
  acts := fun _ => []
  draws := fun
    | _ => ⟨.nil, [], []⟩
theorem hi168a (i : Nat) : hi168.acts i = [] := rfl
theorem hi168v (i : Nat) : hi168.views i = none := rfl
attribute [go_sem] hi168a hi168v Go.Proofs.Try.ntmps168 Go.Proofs.Try.results168
theorem c_impl_areTies_c1 {u : GTie} {t : GTie} {res : Bool} (h : m_impl_areTies_c1 u t = some res) : CallOk Go.Proofs.Try.prog 168 [.agg [.lit (.int .i64 u.from_), .lit (.int .i64 u.to), .lit (.int .i64 u.low), .lit (.int .i64 u.high), .lit (.bool u.free)], .loc [.lit (.int .i64 t.from_), .lit (.int .i64 t.to), .lit (.int .i64 t.low), .lit (.int .i64 t.high), .lit (.bool t.free)]] [] (.lit (.bool res)) [] := by
  refine callOk_of (ra := []) (md := mdT) hT (hi := hi168) Go.Proofs.Try.func168 rfl rfl (by decide +kernel) (by simp) ?_
  unfold m_impl_areTies_c1 at h
  rcases ite_some h with ⟨h1, h⟩ | ⟨h1, h⟩
  · cases h
    simp -implicitDefEqProofs -dsimp only [go_sem, (eq_true h1), (condZ_t h1)]
  · cases h
    simp -implicitDefEqProofs -dsimp only [go_sem, (eq_false h1), (condZ_f h1)]
/- 104 loop.example/g00827/impl.areTies -/
def m_impl_areTies_L1_St (v6 : List GTie) (v7 : Int) (s_0 : List GNode) (s_2 : Int) (v8 : Int) : St := ⟨[(1, .ptr 64 1 0 0), (6, .sl (rowsOf GTie.enc v6)), (7, .lit (.int .i64 v7)), (8, .lit (.int .i64 v8))], [(64, 1, .var [.sl (rowsOf GNode.encS s_0), .sl (rowsOf GTie.enc v6), .lit (.int .i64 s_2)])], 2⟩
attribute [go_sem] m_impl_areTies_L1_St
def hi104 : Hint where
  acts := fun _ => []
  draws := fun
    | 7 => ⟨.cons ⟨0, false, []⟩ (.cons ⟨1, false, []⟩ (.cons ⟨2, false, []⟩ (.cons ⟨3, false, []⟩ (.cons ⟨4, false, []⟩ (.cons ⟨5, false, []⟩ (.cons ⟨6, false, []⟩ (.cons ⟨7, false, []⟩ (.cons ⟨8, false, []⟩ (.cons ⟨9, false, []⟩ (.cons ⟨10, false, []⟩ (.cons ⟨11, false, []⟩ (.cons ⟨12, false, []⟩ (.cons ⟨13, false, []⟩ (.cons ⟨14, false, []⟩ (.cons ⟨15, false, []⟩ (.cons ⟨16, false, []⟩ (.cons ⟨17, false, []⟩ (.cons ⟨18, false, []⟩ (.cons ⟨19, false, []⟩ (.cons ⟨20, false, []⟩ (.cons ⟨21, false, []⟩ (.cons ⟨22, false, []⟩ (.cons ⟨23, false, []⟩ (.cons ⟨24, false, []⟩ (.cons ⟨25, false, []⟩ (.cons ⟨26, false, []⟩ (.cons ⟨27, false, []⟩ (.cons ⟨28, false, []⟩ (.cons ⟨29, false, []⟩ (.cons ⟨30, false, []⟩ (.cons ⟨31, false, []⟩ (.cons ⟨32, false, []⟩ (.cons ⟨33, false, []⟩ (.cons ⟨34, false, []⟩ (.cons ⟨35, false, []⟩ .nil))))))))))))))))))))))))))))))))))), [[], [0], [0, 1], [0, 1, 2], [0, 1, 2, 3], [0, 1, 2, 3, 4], [0, 1, 2, 3, 4, 5], [0, 1, 2, 3, 4, 5, 6], [0, 1, 2, 3, 4, 5, 6, 7], [0, 1, 2, 3, 4, 5, 6, 7, 8], [0, 1, 2, 3, 4, 5, 6, 7, 8, 9], [0, 1, 2, 3, 4, 5, 6, 7, 8], [0, 1, 2, 3, 4, 5, 6, 7, 8, 11], [0, 1, 2, 3, 4, 5, 6, 7, 8, 9, 10, 11, 12], [0, 1, 2, 3, 4, 5, 6, 7, 8, 9, 10, 11, 12, 13], [0, 1, 2, 3, 4, 5, 6, 7, 8, 9, 10, 11, 12, 13, 14], [0, 1, 2, 3, 4, 5, 6, 7, 8, 9, 10, 11, 12, 13, 14, 15], [0, 1, 2, 3, 4, 5, 6, 7, 8, 9, 10, 11, 12, 13, 14, 15, 16], [0, 1, 2, 3, 4, 5, 6, 7, 8, 9, 10, 11, 12, 13, 14, 15, 16, 17], [0, 1, 2, 3, 4, 5, 6, 7, 8, 9, 10, 11, 12, 13, 14, 15, 16, 17, 18], [0, 1, 2, 3, 4, 5, 6, 7, 8, 9, 10, 11, 12, 13, 14, 15, 16, 17, 18, 19], [0, 1, 2, 3, 4, 5, 6, 7, 8, 9, 10, 11, 12, 13, 14, 15, 16, 17, 18], [0, 1, 2, 3, 4, 5, 6, 7, 8, 9, 10, 11, 12, 13, 14, 15, 16, 17, 18, 21], [0, 1, 2, 3, 4, 5, 6, 7, 8, 9, 10, 11, 12, 13, 14, 15, 16, 17, 18, 19, 20, 21, 22], [0, 1, 2, 3, 4, 5, 6, 7, 8, 9, 10, 11, 12, 13, 14, 15, 16, 17, 18, 19, 20, 21, 22, 23], [0, 1, 2, 3, 4, 5, 6, 7, 8, 9, 10, 11, 12, 13, 14, 15, 16, 17, 18, 19, 20, 21, 22, 23, 24], [0, 1, 2, 3, 4, 5, 6, 7, 8, 9, 10, 11, 12, 13, 14, 15, 16, 17, 18], [0, 1, 2, 3, 4, 5, 6, 7, 8, 9, 10, 11, 12, 13, 14, 15, 16, 17, 18, 26], [0, 1, 2, 3, 4, 5, 6, 7, 8, 9, 10, 11, 12, 13, 14, 15, 16, 17, 18], [0, 1, 2, 3, 4, 5, 6, 7, 8, 9, 10, 11, 12, 13, 14, 15, 16, 17, 18, 28], [0, 1, 2, 3, 4, 5, 6, 7, 8, 9, 10, 11, 12, 13, 14, 15, 16, 17, 18, 26, 27, 28, 29], [0, 1, 2, 3, 4, 5, 6, 7, 8, 9, 10, 11, 12, 13, 14, 15, 16, 17, 18, 26, 27, 28, 29, 30], [0, 1, 2, 3, 4, 5, 6, 7, 8, 9, 10, 11, 12, 13, 14, 15, 16, 17, 18, 26, 27, 28, 29, 30, 31], [0, 1, 2, 3, 4, 5, 6, 7, 8, 9, 10, 11, 12, 13, 14, 15, 16, 17, 18, 19, 20, 21, 22, 23, 24, 25, 26, 27, 28, 29, 30, 31, 32], [0, 1, 2, 3, 4, 5, 6, 7, 8, 9, 10, 11, 12, 13, 14, 15, 16, 17, 18, 19, 20, 21, 22, 23, 24, 25, 26, 27, 28, 29, 30, 31, 32, 33], [0, 1, 2, 3, 4, 5, 6, 7, 8, 9, 10, 11, 12, 13, 14, 15, 16, 17, 18, 19, 20, 21, 22, 23, 24, 25, 26, 27, 28, 29, 30, 31, 32, 33, 34]], [0, 1, 2, 3, 4, 5, 6, 7, 8, 9, 10, 11, 12, 13, 14, 15, 16, 17, 18, 19, 20, 21, 22, 23, 24, 25, 26, 27, 28, 29, 30, 31, 32, 33, 34, 35]⟩
    | _ => ⟨.nil, [], []⟩
theorem hi104a (i : Nat) : hi104.acts i = [] := rfl
theorem hi104v (i : Nat) : hi104.views i = none := rfl
attribute [go_sem] hi104a hi104v Go.Proofs.Try.ntmps104 Go.Proofs.Try.results104
@[go_sem] theorem hi104d7 : (hi104.draws 7).order = .cons ⟨0, false, []⟩ (.cons ⟨1, false, []⟩ (.cons ⟨2, false, []⟩ (.cons ⟨3, false, []⟩ (.cons ⟨4, false, []⟩ (.cons ⟨5, false, []⟩ (.cons ⟨6, false, []⟩ (.cons ⟨7, false, []⟩ (.cons ⟨8, false, []⟩ (.cons ⟨9, false, []⟩ (.cons ⟨10, false, []⟩ (.cons ⟨11, false, []⟩ (.cons ⟨12, false, []⟩ (.cons ⟨13, false, []⟩ (.cons ⟨14, false, []⟩ (.cons ⟨15, false, []⟩ (.cons ⟨16, false, []⟩ (.cons ⟨17, false, []⟩ (.cons ⟨18, false, []⟩ (.cons ⟨19, false, []⟩ (.cons ⟨20, false, []⟩ (.cons ⟨21, false, []⟩ (.cons ⟨22, false, []⟩ (.cons ⟨23, false, []⟩ (.cons ⟨24, false, []⟩ (.cons ⟨25, false, []⟩ (.cons ⟨26, false, []⟩ (.cons ⟨27, false, []⟩ (.cons ⟨28, false, []⟩ (.cons ⟨29, false, []⟩ (.cons ⟨30, false, []⟩ (.cons ⟨31, false, []⟩ (.cons ⟨32, false, []⟩ (.cons ⟨33, false, []⟩ (.cons ⟨34, false, []⟩ (.cons ⟨35, false, []⟩ .nil))))))))))))))))))))))))))))))))))) := rfl
theorem c_impl_areTies {s : GShow} {res : Bool} (h : m_impl_areTies s = some res) : CallOk Go.Proofs.Try.prog 104 [.agg [.sl (rowsOf GNode.encS s.nodes), .sl (rowsOf GTie.enc s.ties), .lit (.int .i64 s.horizon)]] [] (.lit (.bool res)) [] := by
  refine callOk_of (ra := []) (md := mdT) hT (hi := hi104) Go.Proofs.Try.func104 rfl rfl (by decide +kernel) (by simp) ?_
  unfold m_impl_areTies at h
  obtain ⟨q1010, l1, h⟩ := obnd_some h
  simp -implicitDefEqProofs -dsimp only [go_sem]
  refine loopW_loopO (m1 := .mk) (m2 := .mk) [.nf [1, 6, 7, 8] [64]] (m_impl_areTies_L1_St s.ties ((s.ties.length : Nat) : Int) s.nodes s.horizon) l1 ?_ ?_
  · simp -implicitDefEqProofs -dsimp only [go_sem]
  · intro nb2 sb2 bb2 b2 gb2
    obtain ⟨v8_1, eb2⟩ : ∃ v, v = sb2 := ⟨_, rfl⟩; subst eb2
    unfold m_impl_areTies_L1 at b2
    try dsimp only at b2
    rcases ite_some b2 with ⟨h3, b2⟩ | ⟨h3, b2⟩
    · obtain ⟨x1001, g4, b2⟩ := obnd_some b2
      obtain ⟨h5, h6, h7⟩ := getI_some g4
      obtain ⟨r1002, g8, b2⟩ := obnd_some b2
      simp -implicitDefEqProofs -dsimp only [go_sem, (eq_true h3), h5, h6, h7]
      refine callW_of (c_impl_isNode g8) ?_
      rcases ite_some b2 with ⟨h9, b2⟩ | ⟨h9, b2⟩
      · obtain ⟨r1003, g10, b2⟩ := obnd_some b2
        simp -implicitDefEqProofs -dsimp only [go_sem, (eq_true h3), h5, h6, h7, (eq_true h9), (condZ_t h9)]
        refine callW_of (c_impl_isNode g10) ?_
        rcases ite_some b2 with ⟨h11, b2⟩ | ⟨h11, b2⟩
        · rcases ite_some b2 with ⟨h12, b2⟩ | ⟨h12, b2⟩
          · cases b2
            have e13 := (done_of gb2).symm
            subst e13
            try dsimp only at h
            cases h
            simp -implicitDefEqProofs -dsimp only [go_sem, (eq_true h3), h5, h6, h7, (eq_true h9), (condZ_t h9), (eq_true h11), (condZ_t h11), (eq_true h12)]
          · obtain ⟨r1004, g14, b2⟩ := obnd_some b2
            simp -implicitDefEqProofs -dsimp only [go_sem, (eq_true h3), h5, h6, h7, (eq_true h9), (condZ_t h9), (eq_true h11), (condZ_t h11), (eq_false h12)]
            refine callW_of (c_impl_isSpan g14) ?_
            rcases ite_some b2 with ⟨h15, b2⟩ | ⟨h15, b2⟩
            · obtain ⟨r1005, g16, b2⟩ := obnd_some b2
              simp -implicitDefEqProofs -dsimp only [go_sem, (eq_true h3), h5, h6, h7, (eq_true h9), (condZ_t h9), (eq_true h11), (condZ_t h11), (eq_false h12), (eq_true h15), (condZ_t h15)]
              refine callW_of (c_impl_isSpan g16) ?_
              rcases ite_some b2 with ⟨h17, b2⟩ | ⟨h17, b2⟩
              · rcases ite_some b2 with ⟨h18, b2⟩ | ⟨h18, b2⟩
                · cases b2
                  have e19 := (done_of gb2).symm
                  subst e19
                  try dsimp only at h
                  cases h
                  simp -implicitDefEqProofs -dsimp only [go_sem, (eq_true h3), h5, h6, h7, (eq_true h9), (condZ_t h9), (eq_true h11), (condZ_t h11), (eq_false h12), (eq_true h15), (condZ_t h15), (eq_true h17), (condZ_t h17), (eq_true h18)]
                · rcases ite_some b2 with ⟨h20, b2⟩ | ⟨h20, b2⟩
                  · rcases ite_some b2 with ⟨h21, b2⟩ | ⟨h21, b2⟩
                    · cases b2
                      have e22 := (done_of gb2).symm
                      subst e22
                      try dsimp only at h
                      cases h
                      simp -implicitDefEqProofs -dsimp only [go_sem, (eq_true h3), h5, h6, h7, (eq_true h9), (condZ_t h9), (eq_true h11), (condZ_t h11), (eq_false h12), (eq_true h15), (condZ_t h15), (eq_true h17), (condZ_t h17), (eq_false h18), (eq_true h20), (condZ_t h20), (eq_true h21)]
                    · rcases ite_some b2 with ⟨h23, b2⟩ | ⟨h23, b2⟩
                      · cases b2
                        have e24 := (done_of gb2).symm
                        subst e24
                        try dsimp only at h
                        cases h
                        simp -implicitDefEqProofs -dsimp only [go_sem, (eq_true h3), h5, h6, h7, (eq_true h9), (condZ_t h9), (eq_true h11), (condZ_t h11), (eq_false h12), (eq_true h15), (condZ_t h15), (eq_true h17), (condZ_t h17), (eq_false h18), (eq_true h20), (condZ_t h20), (eq_false h21), (eq_true h23)]
                      · obtain ⟨x1006, g25, b2⟩ := obnd_some b2
                        obtain ⟨h26, h27, h28⟩ := getI_some g25
                        rcases ite_some b2 with ⟨h29, b2⟩ | ⟨h29, b2⟩
                        · obtain ⟨x1007, g30, b2⟩ := obnd_some b2
                          obtain ⟨h31, h32, h33⟩ := getI_some g30
                          obtain ⟨r1008, g34, b2⟩ := obnd_some b2
                          simp -implicitDefEqProofs -dsimp only [go_sem, (eq_true h3), h5, h6, h7, (eq_true h9), (condZ_t h9), (eq_true h11), (condZ_t h11), (eq_false h12), (eq_true h15), (condZ_t h15), (eq_true h17), (condZ_t h17), (eq_false h18), (eq_true h20), (condZ_t h20), (eq_false h21), (eq_false h23), h26, h27, h28, (eq_true h29), h31, h32, h33]
                          refine callW_of (c_slices_Equal_int g34) ?_
                          rcases ite_some b2 with ⟨h35, b2⟩ | ⟨h35, b2⟩
                          · obtain ⟨h36, b2⟩ := chk_some b2
                            obtain ⟨h37, b2⟩ := chk_some b2
                            obtain ⟨r1009, g38, b2⟩ := obnd_some b2
                            simp -implicitDefEqProofs -dsimp only [go_sem, (eq_true h3), h5, h6, h7, (eq_true h9), (condZ_t h9), (eq_true h11), (condZ_t h11), (eq_false h12), (eq_true h15), (condZ_t h15), (eq_true h17), (condZ_t h17), (eq_false h18), (eq_true h20), (condZ_t h20), (eq_false h21), (eq_false h23), h26, h27, h28, (eq_true h29), h31, h32, h33, (eq_true h35), (condZ_t h35), (eq_true h36), (eq_true h37)]
                            refine callW_of (c_slices_ContainsFunc_Tie (by exact fun _ _ hr => c_impl_areTies_c1 hr) (by refine ⟨fun _ => ?_, fun _ => ?_⟩ <;> simp only [go_sem]) (by rfl) g38) ?_
                            rcases ite_some b2 with ⟨h39, b2⟩ | ⟨h39, b2⟩
                            · cases b2
                              have e40 := (done_of gb2).symm
                              subst e40
                              try dsimp only at h
                              cases h
                              simp -implicitDefEqProofs -dsimp only [go_sem, (eq_true h3), h5, h6, h7, (eq_true h9), (condZ_t h9), (eq_true h11), (condZ_t h11), (eq_false h12), (eq_true h15), (condZ_t h15), (eq_true h17), (condZ_t h17), (eq_false h18), (eq_true h20), (condZ_t h20), (eq_false h21), (eq_false h23), h26, h27, h28, (eq_true h29), h31, h32, h33, (eq_true h35), (condZ_t h35), (eq_true h36), (eq_true h37), (eq_true h39), (condZ_t h39)]
                            · cases b2
                              simp -implicitDefEqProofs -dsimp only [go_sem, (eq_true h3), h5, h6, h7, (eq_true h9), (condZ_t h9), (eq_true h11), (condZ_t h11), (eq_false h12), (eq_true h15), (condZ_t h15), (eq_true h17), (condZ_t h17), (eq_false h18), (eq_true h20), (condZ_t h20), (eq_false h21), (eq_false h23), h26, h27, h28, (eq_true h29), h31, h32, h33, (eq_true h35), (condZ_t h35), (eq_true h36), (eq_true h37), (eq_false h39), (condZ_f h39)]
                              refine next_of gb2 ?_
                              simp -implicitDefEqProofs -dsimp only [go_sem, (eq_true h3), h5, h6, h7, (eq_true h9), (condZ_t h9), (eq_true h11), (condZ_t h11), (eq_false h12), (eq_true h15), (condZ_t h15), (eq_true h17), (condZ_t h17), (eq_false h18), (eq_true h20), (condZ_t h20), (eq_false h21), (eq_false h23), h26, h27, h28, (eq_true h29), h31, h32, h33, (eq_true h35), (condZ_t h35), (eq_true h36), (eq_true h37), (eq_false h39), (condZ_f h39)]
                          · cases b2
                            have e41 := (done_of gb2).symm
                            subst e41
                            try dsimp only at h
                            cases h
                            simp -implicitDefEqProofs -dsimp only [go_sem, (eq_true h3), h5, h6, h7, (eq_true h9), (condZ_t h9), (eq_true h11), (condZ_t h11), (eq_false h12), (eq_true h15), (condZ_t h15), (eq_true h17), (condZ_t h17), (eq_false h18), (eq_true h20), (condZ_t h20), (eq_false h21), (eq_false h23), h26, h27, h28, (eq_true h29), h31, h32, h33, (eq_false h35), (condZ_f h35)]
                        · cases b2
                          have e42 := (done_of gb2).symm
                          subst e42
                          try dsimp only at h
                          cases h
                          simp -implicitDefEqProofs -dsimp only [go_sem, (eq_true h3), h5, h6, h7, (eq_true h9), (condZ_t h9), (eq_true h11), (condZ_t h11), (eq_false h12), (eq_true h15), (condZ_t h15), (eq_true h17), (condZ_t h17), (eq_false h18), (eq_true h20), (condZ_t h20), (eq_false h21), (eq_false h23), h26, h27, h28, (eq_false h29)]
                  · cases b2
                    simp -implicitDefEqProofs -dsimp only [go_sem, (eq_true h3), h5, h6, h7, (eq_true h9), (condZ_t h9), (eq_true h11), (condZ_t h11), (eq_false h12), (eq_true h15), (condZ_t h15), (eq_true h17), (condZ_t h17), (eq_false h18), (eq_false h20), (condZ_f h20)]
                    refine next_of gb2 ?_
                    simp -implicitDefEqProofs -dsimp only [go_sem, (eq_true h3), h5, h6, h7, (eq_true h9), (condZ_t h9), (eq_true h11), (condZ_t h11), (eq_false h12), (eq_true h15), (condZ_t h15), (eq_true h17), (condZ_t h17), (eq_false h18), (eq_false h20), (condZ_f h20)]
              · cases b2
                have e43 := (done_of gb2).symm
                subst e43
                try dsimp only at h
                cases h
                simp -implicitDefEqProofs -dsimp only [go_sem, (eq_true h3), h5, h6, h7, (eq_true h9), (condZ_t h9), (eq_true h11), (condZ_t h11), (eq_false h12), (eq_true h15), (condZ_t h15), (eq_false h17), (condZ_f h17)]
            · cases b2
              have e44 := (done_of gb2).symm
              subst e44
              try dsimp only at h
              cases h
              simp -implicitDefEqProofs -dsimp only [go_sem, (eq_true h3), h5, h6, h7, (eq_true h9), (condZ_t h9), (eq_true h11), (condZ_t h11), (eq_false h12), (eq_false h15), (condZ_f h15)]
        · cases b2
          have e45 := (done_of gb2).symm
          subst e45
          try dsimp only at h
          cases h
          simp -implicitDefEqProofs -dsimp only [go_sem, (eq_true h3), h5, h6, h7, (eq_true h9), (condZ_t h9), (eq_false h11), (condZ_f h11)]
      · cases b2
        have e46 := (done_of gb2).symm
        subst e46
        try dsimp only at h
        cases h
        simp -implicitDefEqProofs -dsimp only [go_sem, (eq_true h3), h5, h6, h7, (eq_false h9), (condZ_f h9)]
    · cases b2
      have e47 := (done_of gb2).symm
      subst e47
      try dsimp only at h
      cases h
      simp -implicitDefEqProofs -dsimp only [go_sem, (eq_false h3)]
/- 169 slices.IndexFunc[[]int,int] -/
def m_slices_IndexFunc_int_L1_St (v0 : List Int) (f_v1 : Nat) (k_v1 : List AV) (v7 : Int) (v8 : Int) : St := ⟨[(0, .sl (rowsOf eI v0)), (1, .fn f_v1 k_v1), (7, .lit (.int .i64 v7)), (8, .lit (.int .i64 v8))], [], 2⟩
attribute [go_sem] m_slices_IndexFunc_int_L1_St
def hi169 : Hint where
  acts := fun _ => []
  draws := fun
    | _ => ⟨.nil, [], []⟩
theorem hi169a (i : Nat) : hi169.acts i = [] := rfl
theorem hi169v (i : Nat) : hi169.views i = none := rfl
attribute [go_sem] hi169a hi169v Go.Proofs.Try.ntmps169 Go.Proofs.Try.results169
theorem c_slices_IndexFunc_int {v0 : List Int} {v1 : Int → Option Bool} {f_v1 : Nat} {k_v1 : List AV} (hp_v1 : ∀ y0 r, v1 y0 = some r → CallOk Go.Proofs.Try.prog f_v1 ([.lit (.int .i64 y0)] ++ k_v1) [] (.lit (.bool r)) []) (hc_v1 : KC k_v1) (hm_v1 : mdT f_v1 = ⟨[], false⟩) {res : Int} (h : m_slices_IndexFunc_int v0 v1 = some res) : CallOk Go.Proofs.Try.prog 169 [.sl (rowsOf eI v0), .fn f_v1 k_v1] [] (.lit (.int .i64 res)) [] := by
  refine callOk_of (ra := []) (md := mdT) hT (hi := hi169) Go.Proofs.Try.func169 rfl rfl (by decide +kernel) (by simp) ?_
  unfold m_slices_IndexFunc_int at h
  obtain ⟨q1003, l1, h⟩ := obnd_some h
  simp -implicitDefEqProofs -dsimp only [go_sem, hc_v1.1, hc_v1.2, hm_v1]
  refine loopW_loopO (m1 := .mk) (m2 := .mk) [.nf [0, 1, 7, 8] []] (m_slices_IndexFunc_int_L1_St v0 f_v1 k_v1 ((v0.length : Nat) : Int)) l1 ?_ ?_
  · simp -implicitDefEqProofs -dsimp only [go_sem, hc_v1.1, hc_v1.2, hm_v1]
  · intro nb2 sb2 bb2 b2 gb2
    obtain ⟨v8_1, eb2⟩ : ∃ v, v = sb2 := ⟨_, rfl⟩; subst eb2
    unfold m_slices_IndexFunc_int_L1 at b2
    try dsimp only at b2
    rcases ite_some b2 with ⟨h3, b2⟩ | ⟨h3, b2⟩
    · obtain ⟨x1001, g4, b2⟩ := obnd_some b2
      obtain ⟨h5, h6, h7⟩ := getI_some g4
      obtain ⟨r1002, g8, b2⟩ := obnd_some b2
      simp -implicitDefEqProofs -dsimp only [go_sem, hc_v1.1, hc_v1.2, hm_v1, (eq_true h3), h5, h6, h7]
      refine callW_of (hp_v1 _ _ g8) ?_
      rcases ite_some b2 with ⟨h9, b2⟩ | ⟨h9, b2⟩
      · cases b2
        have e10 := (done_of gb2).symm
        subst e10
        try dsimp only at h
        cases h
        simp -implicitDefEqProofs -dsimp only [go_sem, hc_v1.1, hc_v1.2, hm_v1, (eq_true h3), h5, h6, h7, (eq_true h9), (condZ_t h9)]
      · cases b2
        simp -implicitDefEqProofs -dsimp only [go_sem, hc_v1.1, hc_v1.2, hm_v1, (eq_true h3), h5, h6, h7, (eq_false h9), (condZ_f h9)]
        refine next_of gb2 ?_
        simp -implicitDefEqProofs -dsimp only [go_sem, hc_v1.1, hc_v1.2, hm_v1, (eq_true h3), h5, h6, h7, (eq_false h9), (condZ_f h9)]
    · cases b2
      have e11 := (done_of gb2).symm
      subst e11
      try dsimp only at h
      cases h
      simp -implicitDefEqProofs -dsimp only [go_sem, hc_v1.1, hc_v1.2, hm_v1, (eq_false h3)]
/- 105 slices.ContainsFunc[[]int,int] -/
def hi105 : Hint where
  acts := fun _ => []
  draws := fun
    | _ => ⟨.nil, [], []⟩
theorem hi105a (i : Nat) : hi105.acts i = [] := rfl
theorem hi105v (i : Nat) : hi105.views i = none := rfl
attribute [go_sem] hi105a hi105v Go.Proofs.Try.ntmps105 Go.Proofs.Try.results105
theorem c_slices_ContainsFunc_int {v0 : List Int} {v1 : Int → Option Bool} {f_v1 : Nat} {k_v1 : List AV} (hp_v1 : ∀ y0 r, v1 y0 = some r → CallOk Go.Proofs.Try.prog f_v1 ([.lit (.int .i64 y0)] ++ k_v1) [] (.lit (.bool r)) []) (hc_v1 : KC k_v1) (hm_v1 : mdT f_v1 = ⟨[], false⟩) {res : Bool} (h : m_slices_ContainsFunc_int v0 v1 = some res) : CallOk Go.Proofs.Try.prog 105 [.sl (rowsOf eI v0), .fn f_v1 k_v1] [] (.lit (.bool res)) [] := by
  refine callOk_of (ra := []) (md := mdT) hT (hi := hi105) Go.Proofs.Try.func105 rfl rfl (by decide +kernel) (by simp) ?_
  unfold m_slices_ContainsFunc_int at h
  obtain ⟨r1001, g1, h⟩ := obnd_some h
  simp -implicitDefEqProofs -dsimp only [go_sem, hc_v1.1, hc_v1.2, hm_v1]
  refine callW_of (c_slices_IndexFunc_int hp_v1 hc_v1 hm_v1 g1) ?_
  cases h
  simp -implicitDefEqProofs -dsimp only [go_sem, hc_v1.1, hc_v1.2, hm_v1]
/- 195 slices.IndexFunc[[]loop.example/g00827/impl.Node,loop.example/g00827/impl.Node] -/
def m_slices_IndexFunc_Node_L1_St (v0 : List GNode) (f_v1 : Nat) (k_v1 : List AV) (v7 : Int) (v8 : Int) : St := ⟨[(0, .sl (rowsOf GNode.encS v0)), (1, .fn f_v1 k_v1), (7, .lit (.int .i64 v7)), (8, .lit (.int .i64 v8))], [], 2⟩
attribute [go_sem] m_slices_IndexFunc_Node_L1_St
def hi195 : Hint where
  acts := fun _ => []
  draws := fun
    | _ => ⟨.nil, [], []⟩
theorem hi195a (i : Nat) : hi195.acts i = [] := rfl
theorem hi195v (i : Nat) : hi195.views i = none := rfl
attribute [go_sem] hi195a hi195v Go.Proofs.Try.ntmps195 Go.Proofs.Try.results195
theorem c_slices_IndexFunc_Node {v0 : List GNode} {v1 : GNode → Option Bool} {f_v1 : Nat} {k_v1 : List AV} (hp_v1 : ∀ y0 r, v1 y0 = some r → CallOk Go.Proofs.Try.prog f_v1 ([.agg [.lit (.string y0.name), .sl (rowsOf eI y0.label), .lit (.int .i64 y0.watch)]] ++ k_v1) [] (.lit (.bool r)) []) (hc_v1 : KC k_v1) (hm_v1 : mdT f_v1 = ⟨[], false⟩) {res : Int} (h : m_slices_IndexFunc_Node v0 v1 = some res) : CallOk Go.Proofs.Try.prog 195 [.sl (rowsOf GNode.encS v0), .fn f_v1 k_v1] [] (.lit (.int .i64 res)) [] := by
  refine callOk_of (ra := []) (md := mdT) hT (hi := hi195) Go.Proofs.Try.func195 rfl rfl (by decide +kernel) (by simp) ?_
  unfold m_slices_IndexFunc_Node at h
  obtain ⟨q1003, l1, h⟩ := obnd_some h
  simp -implicitDefEqProofs -dsimp only [go_sem, hc_v1.1, hc_v1.2, hm_v1]
  refine loopW_loopO (m1 := .mk) (m2 := .mk) [.nf [0, 1, 7, 8] []] (m_slices_IndexFunc_Node_L1_St v0 f_v1 k_v1 ((v0.length : Nat) : Int)) l1 ?_ ?_
  · simp -implicitDefEqProofs -dsimp only [go_sem, hc_v1.1, hc_v1.2, hm_v1]
  · intro nb2 sb2 bb2 b2 gb2
    obtain ⟨v8_1, eb2⟩ : ∃ v, v = sb2 := ⟨_, rfl⟩; subst eb2
    unfold m_slices_IndexFunc_Node_L1 at b2
    try dsimp only at b2
    rcases ite_some b2 with ⟨h3, b2⟩ | ⟨h3, b2⟩
    · obtain ⟨x1001, g4, b2⟩ := obnd_some b2
      obtain ⟨h5, h6, h7⟩ := getI_some g4
      obtain ⟨r1002, g8, b2⟩ := obnd_some b2
      simp -implicitDefEqProofs -dsimp only [go_sem, hc_v1.1, hc_v1.2, hm_v1, (eq_true h3), h5, h6, h7]
      refine callW_of (hp_v1 _ _ g8) ?_
      rcases ite_some b2 with ⟨h9, b2⟩ | ⟨h9, b2⟩
      · cases b2
        have e10 := (done_of gb2).symm
        subst e10
        try dsimp only at h
        cases h
        simp -implicitDefEqProofs -dsimp only [go_sem, hc_v1.1, hc_v1.2, hm_v1, (eq_true h3), h5, h6, h7, (eq_true h9), (condZ_t h9)]
      · cases b2
        simp -implicitDefEqProofs -dsimp only [go_sem, hc_v1.1, hc_v1.2, hm_v1, (eq_true h3), h5, h6, h7, (eq_false h9), (condZ_f h9)]
        refine next_of gb2 ?_
        simp -implicitDefEqProofs -dsimp only [go_sem, hc_v1.1, hc_v1.2, hm_v1, (eq_true h3), h5, h6, h7, (eq_false h9), (condZ_f h9)]
    · cases b2
      have e11 := (done_of gb2).symm
      subst e11
      try dsimp only at h
      cases h
      simp -implicitDefEqProofs -dsimp only [go_sem, hc_v1.1, hc_v1.2, hm_v1, (eq_false h3)]
/- 196 loop.example/g00827/impl.watcher$1 -/
def hi196 : Hint where
  acts := fun _ => []
  draws := fun
    | _ => ⟨.nil, [], []⟩
theorem hi196a (i : Nat) : hi196.acts i = [] := rfl
theorem hi196v (i : Nat) : hi196.views i = none := rfl
attribute [go_sem] hi196a hi196v Go.Proofs.Try.ntmps196 Go.Proofs.Try.results196
theorem c_impl_watcher_c1 {n : GNode} {p : Int} {res : Bool} (h : m_impl_watcher_c1 n p = some res) : CallOk Go.Proofs.Try.prog 196 [.agg [.lit (.string n.name), .sl (rowsOf eI n.label), .lit (.int .i64 n.watch)], .loc [.lit (.int .i64 p)]] [] (.lit (.bool res)) [] := by
  refine callOk_of (ra := []) (md := mdT) hT (hi := hi196) Go.Proofs.Try.func196 rfl rfl (by decide +kernel) (by simp) ?_
  unfold m_impl_watcher_c1 at h
  rcases ite_some h with ⟨h1, h⟩ | ⟨h1, h⟩
  · cases h
    simp -implicitDefEqProofs -dsimp only [go_sem, (eq_true h1)]
  · cases h
    simp -implicitDefEqProofs -dsimp only [go_sem, (eq_false h1)]
/- 170 loop.example/g00827/impl.watcher -/
def hi170 : Hint where
  acts := fun _ => []
  draws := fun
    | _ => ⟨.nil, [], []⟩
theorem hi170a (i : Nat) : hi170.acts i = [] := rfl
theorem hi170v (i : Nat) : hi170.views i = none := rfl
attribute [go_sem] hi170a hi170v Go.Proofs.Try.ntmps170 Go.Proofs.Try.results170
theorem c_impl_watcher {s : GShow} {p : Int} {res : Int} (h : m_impl_watcher s p = some res) : CallOk Go.Proofs.Try.prog 170 [.agg [.sl (rowsOf GNode.encS s.nodes), .sl (rowsOf GTie.enc s.ties), .lit (.int .i64 s.horizon)], .lit (.int .i64 p)] [] (.lit (.int .i64 res)) [] := by
  refine callOk_of (ra := []) (md := mdT) hT (hi := hi170) Go.Proofs.Try.func170 rfl rfl (by decide +kernel) (by simp) ?_
  unfold m_impl_watcher at h
  obtain ⟨r1001, g1, h⟩ := obnd_some h
  simp -implicitDefEqProofs -dsimp only [go_sem]
  refine callW_of (c_slices_IndexFunc_Node (by exact fun _ _ hr => c_impl_watcher_c1 hr) (by refine ⟨fun _ => ?_, fun _ => ?_⟩ <;> simp only [go_sem]) (by rfl) g1) ?_
  cases h
  simp -implicitDefEqProofs -dsimp only [go_sem]
/- 146 slices.Index[[]int,int] -/
def m_slices_Index_int_L1_St (v0 : List Int) (v1 : Int) (v7 : Int) (v8 : Int) : St := ⟨[(0, .sl (rowsOf eI v0)), (1, .lit (.int .i64 v1)), (7, .lit (.int .i64 v7)), (8, .lit (.int .i64 v8))], [], 2⟩
attribute [go_sem] m_slices_Index_int_L1_St
def hi146 : Hint where
  acts := fun _ => []
  draws := fun
    | _ => ⟨.nil, [], []⟩
theorem hi146a (i : Nat) : hi146.acts i = [] := rfl
theorem hi146v (i : Nat) : hi146.views i = none := rfl
attribute [go_sem] hi146a hi146v Go.Proofs.Try.ntmps146 Go.Proofs.Try.results146
theorem c_slices_Index_int {v0 : List Int} {v1 : Int} {res : Int} (h : m_slices_Index_int v0 v1 = some res) : CallOk Go.Proofs.Try.prog 146 [.sl (rowsOf eI v0), .lit (.int .i64 v1)] [] (.lit (.int .i64 res)) [] := by
  refine callOk_of (ra := []) (md := mdT) hT (hi := hi146) Go.Proofs.Try.func146 rfl rfl (by decide +kernel) (by simp) ?_
  unfold m_slices_Index_int at h
  obtain ⟨q1002, l1, h⟩ := obnd_some h
  simp -implicitDefEqProofs -dsimp only [go_sem]
  refine loopW_loopO (m1 := .mk) (m2 := .mk) [.nf [0, 1, 7, 8] []] (m_slices_Index_int_L1_St v0 v1 ((v0.length : Nat) : Int)) l1 ?_ ?_
  · simp -implicitDefEqProofs -dsimp only [go_sem]
  · intro nb2 sb2 bb2 b2 gb2
    obtain ⟨v8_1, eb2⟩ : ∃ v, v = sb2 := ⟨_, rfl⟩; subst eb2
    unfold m_slices_Index_int_L1 at b2
    try dsimp only at b2
    rcases ite_some b2 with ⟨h3, b2⟩ | ⟨h3, b2⟩
    · obtain ⟨x1001, g4, b2⟩ := obnd_some b2
      obtain ⟨h5, h6, h7⟩ := getI_some g4
      rcases ite_some b2 with ⟨h8, b2⟩ | ⟨h8, b2⟩
      · cases b2
        have e9 := (done_of gb2).symm
        subst e9
        try dsimp only at h
        cases h
        simp -implicitDefEqProofs -dsimp only [go_sem, (eq_true h3), h5, h6, h7, (eq_true h8)]
      · cases b2
        simp -implicitDefEqProofs -dsimp only [go_sem, (eq_true h3), h5, h6, h7, (eq_false h8)]
        refine next_of gb2 ?_
        simp -implicitDefEqProofs -dsimp only [go_sem, (eq_true h3), h5, h6, h7, (eq_false h8)]
    · cases b2
      have e10 := (done_of gb2).symm
      subst e10
      try dsimp only at h
      cases h
      simp -implicitDefEqProofs -dsimp only [go_sem, (eq_false h3)]
/- 89 slices.Contains[[]int,int] -/
def hi89 : Hint where
  acts := fun _ => []
  draws := fun
    | _ => ⟨.nil, [], []⟩
theorem hi89a (i : Nat) : hi89.acts i = [] := rfl
theorem hi89v (i : Nat) : hi89.views i = none := rfl
attribute [go_sem] hi89a hi89v Go.Proofs.Try.ntmps89 Go.Proofs.Try.results89
theorem c_slices_Contains_int {v0 : List Int} {v1 : Int} {res : Bool} (h : m_slices_Contains_int v0 v1 = some res) : CallOk Go.Proofs.Try.prog 89 [.sl (rowsOf eI v0), .lit (.int .i64 v1)] [] (.lit (.bool res)) [] := by
  refine callOk_of (ra := []) (md := mdT) hT (hi := hi89) Go.Proofs.Try.func89 rfl rfl (by decide +kernel) (by simp) ?_
  unfold m_slices_Contains_int at h
  obtain ⟨r1001, g1, h⟩ := obnd_some h
  simp -implicitDefEqProofs -dsimp only [go_sem]
  refine callW_of (c_slices_Index_int g1) ?_
  cases h
  simp -implicitDefEqProofs -dsimp only [go_sem]
/- 197 loop.example/g00827/impl.ImpliesLabel$1 -/
def hi197 : Hint where
  acts := fun _ => []
  draws := fun
    | _ => ⟨.nil, [], []⟩
theorem hi197a (i : Nat) : hi197.acts i = [] := rfl
theorem hi197v (i : Nat) : hi197.views i = none := rfl
attribute [go_sem] hi197a hi197v Go.Proofs.Try.ntmps197 Go.Proofs.Try.results197
theorem c_impl_ImpliesLabel_c1 {v0 : Int} {a : List Int} {res : Bool} (h : m_impl_ImpliesLabel_c1 v0 a = some res) : CallOk Go.Proofs.Try.prog 197 [.lit (.int .i64 v0), .loc [.sl (rowsOf eI a)]] [] (.lit (.bool res)) [] := by
  refine callOk_of (ra := []) (md := mdT) hT (hi := hi197) Go.Proofs.Try.func197 rfl rfl (by decide +kernel) (by simp) ?_
  unfold m_impl_ImpliesLabel_c1 at h
  obtain ⟨r1001, g1, h⟩ := obnd_some h
  simp -implicitDefEqProofs -dsimp only [go_sem]
  refine callW_of (c_slices_Contains_int g1) ?_
  cases h
  simp -implicitDefEqProofs -dsimp only [go_sem]
/- 172 loop.example/g00827/impl.ImpliesLabel -/
def hi172 : Hint where
  acts := fun _ => []
  draws := fun
    | _ => ⟨.nil, [], []⟩
theorem hi172a (i : Nat) : hi172.acts i = [] := rfl
theorem hi172v (i : Nat) : hi172.views i = none := rfl
attribute [go_sem] hi172a hi172v Go.Proofs.Try.ntmps172 Go.Proofs.Try.results172
theorem c_impl_ImpliesLabel {a : List Int} {b : List Int} {res : Bool} (h : m_impl_ImpliesLabel a b = some res) : CallOk Go.Proofs.Try.prog 172 [.sl (rowsOf eI a), .sl (rowsOf eI b)] [] (.lit (.bool res)) [] := by
  refine callOk_of (ra := []) (md := mdT) hT (hi := hi172) Go.Proofs.Try.func172 rfl rfl (by decide +kernel) (by simp) ?_
  unfold m_impl_ImpliesLabel at h
  obtain ⟨r1001, g1, h⟩ := obnd_some h
  simp -implicitDefEqProofs -dsimp only [go_sem]
  refine callW_of (c_impl_LabelOk g1) ?_
  rcases ite_some h with ⟨h2, h⟩ | ⟨h2, h⟩
  · obtain ⟨r1002, g3, h⟩ := obnd_some h
    simp -implicitDefEqProofs -dsimp only [go_sem, (eq_true h2), (condZ_t h2)]
    refine callW_of (c_impl_LabelOk g3) ?_
    rcases ite_some h with ⟨h4, h⟩ | ⟨h4, h⟩
    · obtain ⟨r1003, g5, h⟩ := obnd_some h
      simp -implicitDefEqProofs -dsimp only [go_sem, (eq_true h2), (condZ_t h2), (eq_true h4), (condZ_t h4)]
      refine callW_of (c_slices_ContainsFunc_int (by exact fun _ _ hr => c_impl_ImpliesLabel_c1 hr) (by refine ⟨fun _ => ?_, fun _ => ?_⟩ <;> simp only [go_sem]) (by rfl) g5) ?_
      cases h
      simp -implicitDefEqProofs -dsimp only [go_sem, (eq_true h2), (condZ_t h2), (eq_true h4), (condZ_t h4)]
    · cases h
      simp -implicitDefEqProofs -dsimp only [go_sem, (eq_true h2), (condZ_t h2), (eq_false h4), (condZ_f h4)]
  · cases h
    simp -implicitDefEqProofs -dsimp only [go_sem, (eq_false h2), (condZ_f h2)]
/- 107 loop.example/g00827/impl.isWatched -/
def hi107 : Hint where
  acts := fun _ => []
  draws := fun
    | 1 => ⟨.cons ⟨0, true, []⟩ (.cons ⟨1, false, []⟩ (.cons ⟨2, false, [0]⟩ (.cons ⟨3, false, []⟩ (.cons ⟨4, false, []⟩ .nil)))), [[], [], [1], [0, 1, 2], [0, 1, 2, 3]], [0, 1, 2, 3, 4]⟩
    | _ => ⟨.nil, [], []⟩
theorem hi107a (i : Nat) : hi107.acts i = [] := rfl
theorem hi107v (i : Nat) : hi107.views i = none := rfl
attribute [go_sem] hi107a hi107v Go.Proofs.Try.ntmps107 Go.Proofs.Try.results107
@[go_sem] theorem hi107d1 : (hi107.draws 1).order = .cons ⟨0, true, []⟩ (.cons ⟨1, false, []⟩ (.cons ⟨2, false, [0]⟩ (.cons ⟨3, false, []⟩ (.cons ⟨4, false, []⟩ .nil)))) := rfl
theorem c_impl_isWatched {s : GShow} {label : List Int} {v2 : Int} {res : Bool} (h : m_impl_isWatched s label v2 = some res) : CallOk Go.Proofs.Try.prog 107 [.agg [.sl (rowsOf GNode.encS s.nodes), .sl (rowsOf GTie.enc s.ties), .lit (.int .i64 s.horizon)], .sl (rowsOf eI label), .lit (.int .i64 v2)] [] (.lit (.bool res)) [] := by
  refine callOk_of (ra := []) (md := mdT) hT (hi := hi107) Go.Proofs.Try.func107 rfl rfl (by decide +kernel) (by simp) ?_
  unfold m_impl_isWatched at h
  obtain ⟨r1001, g1, h⟩ := obnd_some h
  simp -implicitDefEqProofs -dsimp only [go_sem]
  refine callW_of (c_impl_propOf g1) ?_
  obtain ⟨r1002, g2, h⟩ := obnd_some h
  simp -implicitDefEqProofs -dsimp only [go_sem]
  refine callW_of (c_impl_watcher g2) ?_
  rcases ite_some h with ⟨h3, h⟩ | ⟨h3, h⟩
  · cases h
    simp -implicitDefEqProofs -dsimp only [go_sem, (eq_true h3)]
  · obtain ⟨x1003, g4, h⟩ := obnd_some h
    obtain ⟨h5, h6, h7⟩ := getI_some g4
    obtain ⟨r1004, g8, h⟩ := obnd_some h
    simp -implicitDefEqProofs -dsimp only [go_sem, (eq_false h3), h5, h6, h7]
    refine callW_of (c_slices_Contains_int g8) ?_
    rcases ite_some h with ⟨h9, h⟩ | ⟨h9, h⟩
    · cases h
      simp -implicitDefEqProofs -dsimp only [go_sem, (eq_false h3), h5, h6, h7, (eq_true h9), (condZ_t h9)]
    · obtain ⟨r1005, g10, h⟩ := obnd_some h
      simp -implicitDefEqProofs -dsimp only [go_sem, (eq_false h3), h5, h6, h7, (eq_false h9), (condZ_f h9)]
      refine callW_of (c_slices_Contains_int g10) ?_
      rcases ite_some h with ⟨h11, h⟩ | ⟨h11, h⟩
      · cases h
        simp -implicitDefEqProofs -dsimp only [go_sem, (eq_false h3), h5, h6, h7, (eq_false h9), (condZ_f h9), (eq_true h11), (condZ_t h11)]
      · obtain ⟨r1006, g12, h⟩ := obnd_some h
        simp -implicitDefEqProofs -dsimp only [go_sem, (eq_false h3), h5, h6, h7, (eq_false h9), (condZ_f h9), (eq_false h11), (condZ_f h11)]
        refine callW_of (c_impl_ImpliesLabel g12) ?_
        cases h
        simp -implicitDefEqProofs -dsimp only [go_sem, (eq_false h3), h5, h6, h7, (eq_false h9), (condZ_f h9), (eq_false h11), (condZ_f h11)]
/- 106 loop.example/g00827/impl.ShowOk$1 -/
def hi106 : Hint where
  acts := fun _ => []
  draws := fun
    | _ => ⟨.nil, [], []⟩
theorem hi106a (i : Nat) : hi106.acts i = [] := rfl
theorem hi106v (i : Nat) : hi106.views i = none := rfl
attribute [go_sem] hi106a hi106v Go.Proofs.Try.ntmps106 Go.Proofs.Try.results106
theorem c_impl_ShowOk_c1 {v0 : Int} {s : GShow} {n : GNode} {res : Bool} (h : m_impl_ShowOk_c1 v0 s n = some res) : CallOk Go.Proofs.Try.prog 106 [.lit (.int .i64 v0), .loc [.sl (rowsOf GNode.encS s.nodes), .sl (rowsOf GTie.enc s.ties), .lit (.int .i64 s.horizon)], .loc [.lit (.string n.name), .sl (rowsOf eI n.label), .lit (.int .i64 n.watch)]] [] (.lit (.bool res)) [] := by
  refine callOk_of (ra := []) (md := mdT) hT (hi := hi106) Go.Proofs.Try.func106 rfl rfl (by decide +kernel) (by simp) ?_
  unfold m_impl_ShowOk_c1 at h
  obtain ⟨r1001, g1, h⟩ := obnd_some h
  simp -implicitDefEqProofs -dsimp only [go_sem]
  refine callW_of (c_impl_isWatched g1) ?_
  cases h
  simp -implicitDefEqProofs -dsimp only [go_sem]
/- 34 loop.example/g00827/impl.ShowOk -/
def m_impl_ShowOk_L1_St (v24 : List GNode) (v25 : Int) (s_1 : List GTie) (s_2 : Int) (v26 : Int) : St := ⟨[(1, .ptr 64 1 0 0), (24, .sl (rowsOf GNode.encS v24)), (25, .lit (.int .i64 v25)), (26, .lit (.int .i64 v26))], [(64, 1, .var [.sl (rowsOf GNode.encS v24), .sl (rowsOf GTie.enc s_1), .lit (.int .i64 s_2)])], 2⟩
attribute [go_sem] m_impl_ShowOk_L1_St
def hi34 : Hint where
  acts := fun _ => []
  draws := fun
    | _ => ⟨.nil, [], []⟩
theorem hi34a (i : Nat) : hi34.acts i = [] := rfl
theorem hi34v (i : Nat) : hi34.views i = none := rfl
attribute [go_sem] hi34a hi34v Go.Proofs.Try.ntmps34 Go.Proofs.Try.results34
theorem c_impl_ShowOk {s : GShow} {res : Bool} (h : m_impl_ShowOk s = some res) : CallOk Go.Proofs.Try.prog 34 [.agg [.sl (rowsOf GNode.encS s.nodes), .sl (rowsOf GTie.enc s.ties), .lit (.int .i64 s.horizon)]] [] (.lit (.bool res)) [] := by
  refine callOk_of (ra := []) (md := mdT) hT (hi := hi34) Go.Proofs.Try.func34 rfl rfl (by decide +kernel) (by simp) ?_
  unfold m_impl_ShowOk at h
  obtain ⟨r1001, g1, h⟩ := obnd_some h
  simp -implicitDefEqProofs -dsimp only [go_sem]
  refine callW_of (c_impl_areNodes g1) ?_
  rcases ite_some h with ⟨h2, h⟩ | ⟨h2, h⟩
  · obtain ⟨r1002, g3, h⟩ := obnd_some h
    simp -implicitDefEqProofs -dsimp only [go_sem, (eq_true h2), (condZ_t h2)]
    refine callW_of (c_impl_areTies g3) ?_
    rcases ite_some h with ⟨h4, h⟩ | ⟨h4, h⟩
    · rcases ite_some h with ⟨h5, h⟩ | ⟨h5, h⟩
      · cases h
        simp -implicitDefEqProofs -dsimp only [go_sem, (eq_true h2), (condZ_t h2), (eq_true h4), (condZ_t h4), (eq_true h5)]
      · rcases ite_some h with ⟨h6, h⟩ | ⟨h6, h⟩
        · cases h
          simp -implicitDefEqProofs -dsimp only [go_sem, (eq_true h2), (condZ_t h2), (eq_true h4), (condZ_t h4), (eq_false h5), (eq_true h6)]
        · obtain ⟨q1005, l7, h⟩ := obnd_some h
          simp -implicitDefEqProofs -dsimp only [go_sem, (eq_true h2), (condZ_t h2), (eq_true h4), (condZ_t h4), (eq_false h5), (eq_false h6)]
          refine loopW_loopO (m1 := .mk) (m2 := .mk) [.nf [1, 24, 25, 26] [64]] (m_impl_ShowOk_L1_St s.nodes ((s.nodes.length : Nat) : Int) s.ties s.horizon) l7 ?_ ?_
          · simp -implicitDefEqProofs -dsimp only [go_sem, (eq_true h2), (condZ_t h2), (eq_true h4), (condZ_t h4), (eq_false h5), (eq_false h6)]
          · intro nb8 sb8 bb8 b8 gb8
            obtain ⟨v26_1, eb8⟩ : ∃ v, v = sb8 := ⟨_, rfl⟩; subst eb8
            unfold m_impl_ShowOk_L1 at b8
            try dsimp only at b8
            rcases ite_some b8 with ⟨h9, b8⟩ | ⟨h9, b8⟩
            · obtain ⟨x1003, g10, b8⟩ := obnd_some b8
              obtain ⟨h11, h12, h13⟩ := getI_some g10
              obtain ⟨r1004, g14, b8⟩ := obnd_some b8
              simp -implicitDefEqProofs -dsimp only [go_sem, (eq_true h2), (condZ_t h2), (eq_true h4), (condZ_t h4), (eq_false h5), (eq_false h6), (eq_true h9), h11, h12, h13]
              refine callW_of (c_slices_ContainsFunc_int (by exact fun _ _ hr => c_impl_ShowOk_c1 hr) (by refine ⟨fun _ => ?_, fun _ => ?_⟩ <;> simp only [go_sem]) (by rfl) g14) ?_
              rcases ite_some b8 with ⟨h15, b8⟩ | ⟨h15, b8⟩
              · cases b8
                have e16 := (done_of gb8).symm
                subst e16
                try dsimp only at h
                cases h
                simp -implicitDefEqProofs -dsimp only [go_sem, (eq_true h2), (condZ_t h2), (eq_true h4), (condZ_t h4), (eq_false h5), (eq_false h6), (eq_true h9), h11, h12, h13, (eq_true h15), (condZ_t h15)]
              · cases b8
                simp -implicitDefEqProofs -dsimp only [go_sem, (eq_true h2), (condZ_t h2), (eq_true h4), (condZ_t h4), (eq_false h5), (eq_false h6), (eq_true h9), h11, h12, h13, (eq_false h15), (condZ_f h15)]
                refine next_of gb8 ?_
                simp -implicitDefEqProofs -dsimp only [go_sem, (eq_true h2), (condZ_t h2), (eq_true h4), (condZ_t h4), (eq_false h5), (eq_false h6), (eq_true h9), h11, h12, h13, (eq_false h15), (condZ_f h15)]
            · cases b8
              have e17 := (done_of gb8).symm
              subst e17
              try dsimp only at h
              cases h
              simp -implicitDefEqProofs -dsimp only [go_sem, (eq_true h2), (condZ_t h2), (eq_true h4), (condZ_t h4), (eq_false h5), (eq_false h6), (eq_false h9)]
    · cases h
      simp -implicitDefEqProofs -dsimp only [go_sem, (eq_true h2), (condZ_t h2), (eq_false h4), (condZ_f h4)]
  · cases h
    simp -implicitDefEqProofs -dsimp only [go_sem, (eq_false h2), (condZ_f h2)]
/- 173 loop.example/g00827/impl.areShown$1 -/
def hi173 : Hint where
  acts := fun _ => []
  draws := fun
    | _ => ⟨.nil, [], []⟩
theorem hi173a (i : Nat) : hi173.acts i = [] := rfl
theorem hi173v (i : Nat) : hi173.views i = none := rfl
attribute [go_sem] hi173a hi173v Go.Proofs.Try.ntmps173 Go.Proofs.Try.results173
theorem c_impl_areShown_c1 {n : Int} {res : Bool} (h : m_impl_areShown_c1 n = some res) : CallOk Go.Proofs.Try.prog 173 [.lit (.int .i64 n)] [] (.lit (.bool res)) [] := by
  refine callOk_of (ra := []) (md := mdT) hT (hi := hi173) Go.Proofs.Try.func173 rfl rfl (by decide +kernel) (by simp) ?_
  unfold m_impl_areShown_c1 at h
  rcases ite_some h with ⟨h1, h⟩ | ⟨h1, h⟩
  · cases h
    simp -implicitDefEqProofs -dsimp only [go_sem, (eq_true h1)]
  · cases h
    simp -implicitDefEqProofs -dsimp only [go_sem, (eq_false h1)]
/- 108 loop.example/g00827/impl.areShown -/
def hi108 : Hint where
  acts := fun _ => []
  draws := fun
    | _ => ⟨.nil, [], []⟩
theorem hi108a (i : Nat) : hi108.acts i = [] := rfl
theorem hi108v (i : Nat) : hi108.views i = none := rfl
attribute [go_sem] hi108a hi108v Go.Proofs.Try.ntmps108 Go.Proofs.Try.results108
theorem c_impl_areShown {s : GShow} {times : List Int} {res : Bool} (h : m_impl_areShown s times = some res) : CallOk Go.Proofs.Try.prog 108 [.agg [.sl (rowsOf GNode.encS s.nodes), .sl (rowsOf GTie.enc s.ties), .lit (.int .i64 s.horizon)], .sl (rowsOf eI times)] [] (.lit (.bool res)) [] := by
  refine callOk_of (ra := []) (md := mdT) hT (hi := hi108) Go.Proofs.Try.func108 rfl rfl (by decide +kernel) (by simp) ?_
  unfold m_impl_areShown at h
  obtain ⟨r1001, g1, h⟩ := obnd_some h
  simp -implicitDefEqProofs -dsimp only [go_sem]
  refine callW_of (c_impl_ShowOk g1) ?_
  rcases ite_some h with ⟨h2, h⟩ | ⟨h2, h⟩
  · rcases ite_some h with ⟨h3, h⟩ | ⟨h3, h⟩
    · obtain ⟨r1002, g4, h⟩ := obnd_some h
      simp -implicitDefEqProofs -dsimp only [go_sem, (eq_true h2), (condZ_t h2), (eq_true h3)]
      refine callW_of (c_slices_ContainsFunc_int (by exact fun _ _ hr => c_impl_areShown_c1 hr) (by refine ⟨fun _ => ?_, fun _ => ?_⟩ <;> simp only [go_sem]) (by rfl) g4) ?_
      cases h
      simp -implicitDefEqProofs -dsimp only [go_sem, (eq_true h2), (condZ_t h2), (eq_true h3)]
    · cases h
      simp -implicitDefEqProofs -dsimp only [go_sem, (eq_true h2), (condZ_t h2), (eq_false h3)]
  · cases h
    simp -implicitDefEqProofs -dsimp only [go_sem, (eq_false h2), (condZ_f h2)]
/- 35 loop.example/g00827/impl.BrokenTies -/
def m_impl_BrokenTies_L1_St (times : List Int) (v15 : List GTie) (v16 : Int) : (Int × (List Int)) → St
  | (v17, out) => ⟨[(1, .sl (rowsOf eI times)), (5, .ref 383 1 0 out.length), (15, .sl (rowsOf GTie.enc v15)), (16, .lit (.int .i64 v16)), (17, .lit (.int .i64 v17))], [(383, 1, .row true (rowsOf eI out))], 2⟩
attribute [go_sem] m_impl_BrokenTies_L1_St
def hi35 : Hint where
  acts := fun _ => []
  draws := fun
    | 7 => ⟨.cons ⟨0, false, []⟩ (.cons ⟨1, false, []⟩ (.cons ⟨2, false, []⟩ (.cons ⟨3, false, []⟩ (.cons ⟨4, false, []⟩ (.cons ⟨5, false, []⟩ (.cons ⟨6, false, []⟩ (.cons ⟨7, false, []⟩ (.cons ⟨8, false, []⟩ (.cons ⟨9, false, []⟩ (.cons ⟨10, false, []⟩ (.cons ⟨11, false, []⟩ .nil))))))))))), [[], [], [1], [0, 1, 2], [0, 1, 2, 3], [], [], [6], [5, 6, 7], [5, 6, 7, 8], [0, 1, 2, 3, 4], [0, 1, 2, 3, 4, 5, 6, 7, 8, 9, 10]], [0, 1, 2, 3, 4, 6, 7, 8, 9, 10, 5, 11]⟩
    | _ => ⟨.nil, [], []⟩
theorem hi35a (i : Nat) : hi35.acts i = [] := rfl
theorem hi35v (i : Nat) : hi35.views i = none := rfl
attribute [go_sem] hi35a hi35v Go.Proofs.Try.ntmps35 Go.Proofs.Try.results35
@[go_sem] theorem hi35d7 : (hi35.draws 7).order = .cons ⟨0, false, []⟩ (.cons ⟨1, false, []⟩ (.cons ⟨2, false, []⟩ (.cons ⟨3, false, []⟩ (.cons ⟨4, false, []⟩ (.cons ⟨5, false, []⟩ (.cons ⟨6, false, []⟩ (.cons ⟨7, false, []⟩ (.cons ⟨8, false, []⟩ (.cons ⟨9, false, []⟩ (.cons ⟨10, false, []⟩ (.cons ⟨11, false, []⟩ .nil))))))))))) := rfl
theorem c_impl_BrokenTies {s : GShow} {times : List Int} {res : List Int} (h : m_impl_BrokenTies s times = some res) : CallOk Go.Proofs.Try.prog 35 [.agg [.sl (rowsOf GNode.encS s.nodes), .sl (rowsOf GTie.enc s.ties), .lit (.int .i64 s.horizon)], .sl (rowsOf eI times)] [] (.ref 20000 1 0 res.length) [(20000, 1, .row true (rowsOf eI res))] := by
  refine callOk_of (ra := [.home 4]) (md := mdT) hT (hi := hi35) Go.Proofs.Try.func35 rfl rfl (by decide +kernel) (by simp) ?_
  unfold m_impl_BrokenTies at h
  obtain ⟨r1001, g1, h⟩ := obnd_some h
  simp -implicitDefEqProofs -dsimp only [go_sem]
  refine callW_of (c_impl_areShown g1) ?_
  rcases ite_some h with ⟨h2, h⟩ | ⟨h2, h⟩
  · obtain ⟨q1005, l3, h⟩ := obnd_some h
    simp -implicitDefEqProofs -dsimp only [go_sem, (eq_true h2), (condZ_t h2)]
    refine loopW_loopO (m1 := .mk) (m2 := .mk) [.home 5, .nf [1, 5, 15, 16, 17] [383]] (m_impl_BrokenTies_L1_St times s.ties ((s.ties.length : Nat) : Int)) l3 ?_ ?_
    · simp -implicitDefEqProofs -dsimp only [go_sem, (eq_true h2), (condZ_t h2)]
    · intro nb4 sb4 bb4 b4 gb4
      obtain ⟨v17_1, out_1⟩ := sb4
      unfold m_impl_BrokenTies_L1 at b4
      try dsimp only at b4
      rcases ite_some b4 with ⟨h5, b4⟩ | ⟨h5, b4⟩
      · obtain ⟨x1002, g6, b4⟩ := obnd_some b4
        obtain ⟨h7, h8, h9⟩ := getI_some g6
        obtain ⟨x1003, g10, b4⟩ := obnd_some b4
        obtain ⟨h11, h12, h13⟩ := getI_some g10
        obtain ⟨x1004, g14, b4⟩ := obnd_some b4
        obtain ⟨h15, h16, h17⟩ := getI_some g14
        rcases ite_some b4 with ⟨h18, b4⟩ | ⟨h18, b4⟩
        · cases b4
          simp -implicitDefEqProofs -dsimp only [go_sem, (eq_true h2), (condZ_t h2), (eq_true h5), h7, h8, h9, h11, h12, h13, h15, h16, h17, (eq_true h18)]
          refine next_of gb4 ?_
          simp -implicitDefEqProofs -dsimp only [go_sem, (eq_true h2), (condZ_t h2), (eq_true h5), h7, h8, h9, h11, h12, h13, h15, h16, h17, (eq_true h18)]
        · rcases ite_some b4 with ⟨h19, b4⟩ | ⟨h19, b4⟩
          · cases b4
            simp -implicitDefEqProofs -dsimp only [go_sem, (eq_true h2), (condZ_t h2), (eq_true h5), h7, h8, h9, h11, h12, h13, h15, h16, h17, (eq_false h18), (eq_true h19)]
            refine next_of gb4 ?_
            simp -implicitDefEqProofs -dsimp only [go_sem, (eq_true h2), (condZ_t h2), (eq_true h5), h7, h8, h9, h11, h12, h13, h15, h16, h17, (eq_false h18), (eq_true h19)]
          · rcases ite_some b4 with ⟨h20, b4⟩ | ⟨h20, b4⟩
            · obtain ⟨h21, b4⟩ := chk_some b4
              obtain ⟨h22, b4⟩ := chk_some b4
              cases b4
              simp -implicitDefEqProofs -dsimp only [go_sem, (eq_true h2), (condZ_t h2), (eq_true h5), h7, h8, h9, h11, h12, h13, h15, h16, h17, (eq_false h18), (eq_false h19), (eq_true h20), (eq_true h21), (eq_true h22)]
              refine next_of gb4 ?_
              simp -implicitDefEqProofs -dsimp only [go_sem, (eq_true h2), (condZ_t h2), (eq_true h5), h7, h8, h9, h11, h12, h13, h15, h16, h17, (eq_false h18), (eq_false h19), (eq_true h20), (eq_true h21), (eq_true h22)]
            · rcases ite_some b4 with ⟨h23, b4⟩ | ⟨h23, b4⟩
              · obtain ⟨h24, b4⟩ := chk_some b4
                obtain ⟨h25, b4⟩ := chk_some b4
                cases b4
                simp -implicitDefEqProofs -dsimp only [go_sem, (eq_true h2), (condZ_t h2), (eq_true h5), h7, h8, h9, h11, h12, h13, h15, h16, h17, (eq_false h18), (eq_false h19), (eq_false h20), (eq_true h23), (eq_true h24), (eq_true h25)]
                refine next_of gb4 ?_
                simp -implicitDefEqProofs -dsimp only [go_sem, (eq_true h2), (condZ_t h2), (eq_true h5), h7, h8, h9, h11, h12, h13, h15, h16, h17, (eq_false h18), (eq_false h19), (eq_false h20), (eq_true h23), (eq_true h24), (eq_true h25)]
              · cases b4
                simp -implicitDefEqProofs -dsimp only [go_sem, (eq_true h2), (condZ_t h2), (eq_true h5), h7, h8, h9, h11, h12, h13, h15, h16, h17, (eq_false h18), (eq_false h19), (eq_false h20), (eq_false h23)]
                refine next_of gb4 ?_
                simp -implicitDefEqProofs -dsimp only [go_sem, (eq_true h2), (condZ_t h2), (eq_true h5), h7, h8, h9, h11, h12, h13, h15, h16, h17, (eq_false h18), (eq_false h19), (eq_false h20), (eq_false h23)]
      · cases b4
        have e26 := (done_of gb4).symm
        subst e26
        try dsimp only at h
        cases h
        simp -implicitDefEqProofs -dsimp only [go_sem, (eq_true h2), (condZ_t h2), (eq_false h5)]
  · cases h
    simp -implicitDefEqProofs -dsimp only [go_sem, (eq_false h2), (condZ_f h2)]
/- 23 loop.example/g00827/laws.eqIntS -/
def m_laws_eqIntS_L1_St (a : List Int) (b : List Int) (i : Int) : St := ⟨[(0, .sl (rowsOf eI a)), (1, .sl (rowsOf eI b)), (5, .lit (.int .i64 i))], [], 2⟩
attribute [go_sem] m_laws_eqIntS_L1_St
def hi23 : Hint where
  acts := fun _ => []
  draws := fun
    | 6 => ⟨.cons ⟨0, false, []⟩ (.cons ⟨1, false, []⟩ (.cons ⟨2, false, []⟩ (.cons ⟨3, false, []⟩ (.cons ⟨4, false, []⟩ (.cons ⟨5, false, []⟩ (.cons ⟨6, false, []⟩ (.cons ⟨7, false, []⟩ (.cons ⟨8, false, []⟩ .nil)))))))), [[], [], [0, 1], [0, 1, 2], [], [], [4, 5], [4, 5, 6], [0, 1, 2, 3, 4, 5, 6, 7]], [0, 1, 2, 3, 4, 5, 6, 7, 8]⟩
    | _ => ⟨.nil, [], []⟩
theorem hi23a (i : Nat) : hi23.acts i = [] := rfl
theorem hi23v (i : Nat) : hi23.views i = none := rfl
attribute [go_sem] hi23a hi23v Go.Proofs.Try.ntmps23 Go.Proofs.Try.results23
@[go_sem] theorem hi23d6 : (hi23.draws 6).order = .cons ⟨0, false, []⟩ (.cons ⟨1, false, []⟩ (.cons ⟨2, false, []⟩ (.cons ⟨3, false, []⟩ (.cons ⟨4, false, []⟩ (.cons ⟨5, false, []⟩ (.cons ⟨6, false, []⟩ (.cons ⟨7, false, []⟩ (.cons ⟨8, false, []⟩ .nil)))))))) := rfl
theorem c_laws_eqIntS {a : List Int} {b : List Int} {res : Bool} (h : m_laws_eqIntS a b = some res) : CallOk Go.Proofs.Try.prog 23 [.sl (rowsOf eI a), .sl (rowsOf eI b)] [] (.lit (.bool res)) [] := by
  refine callOk_of (ra := []) (md := mdT) hT (hi := hi23) Go.Proofs.Try.func23 rfl rfl (by decide +kernel) (by simp) ?_
  unfold m_laws_eqIntS at h
  rcases ite_some h with ⟨h1, h⟩ | ⟨h1, h⟩
  · obtain ⟨q1003, l2, h⟩ := obnd_some h
    simp -implicitDefEqProofs -dsimp only [go_sem, (eq_true h1)]
    refine loopW_loopO (m1 := .mk) (m2 := .mk) [.nf [0, 1, 5] []] (m_laws_eqIntS_L1_St a b) l2 ?_ ?_
    · simp -implicitDefEqProofs -dsimp only [go_sem, (eq_true h1)]
    · intro nb3 sb3 bb3 b3 gb3
      obtain ⟨i_1, eb3⟩ : ∃ v, v = sb3 := ⟨_, rfl⟩; subst eb3
      unfold m_laws_eqIntS_L1 at b3
      try dsimp only at b3
      rcases ite_some b3 with ⟨h4, b3⟩ | ⟨h4, b3⟩
      · obtain ⟨x1001, g5, b3⟩ := obnd_some b3
        obtain ⟨h6, h7, h8⟩ := getI_some g5
        obtain ⟨x1002, g9, b3⟩ := obnd_some b3
        obtain ⟨h10, h11, h12⟩ := getI_some g9
        rcases ite_some b3 with ⟨h13, b3⟩ | ⟨h13, b3⟩
        · cases b3
          simp -implicitDefEqProofs -dsimp only [go_sem, (eq_true h1), (eq_true h4), h6, h7, h8, h10, h11, h12, (eq_true h13)]
          refine next_of gb3 ?_
          simp -implicitDefEqProofs -dsimp only [go_sem, (eq_true h1), (eq_true h4), h6, h7, h8, h10, h11, h12, (eq_true h13)]
        · cases b3
          have e14 := (done_of gb3).symm
          subst e14
          try dsimp only at h
          cases h
          simp -implicitDefEqProofs -dsimp only [go_sem, (eq_true h1), (eq_true h4), h6, h7, h8, h10, h11, h12, (eq_false h13)]
      · cases b3
        have e15 := (done_of gb3).symm
        subst e15
        try dsimp only at h
        cases h
        simp -implicitDefEqProofs -dsimp only [go_sem, (eq_true h1), (eq_false h4)]
  · cases h
    simp -implicitDefEqProofs -dsimp only [go_sem, (eq_false h1)]
/- 155 loop.example/g00827/laws.eqNode -/
def hi155 : Hint where
  acts := fun _ => []
  draws := fun
    | _ => ⟨.nil, [], []⟩
theorem hi155a (i : Nat) : hi155.acts i = [] := rfl
theorem hi155v (i : Nat) : hi155.views i = none := rfl
attribute [go_sem] hi155a hi155v Go.Proofs.Try.ntmps155 Go.Proofs.Try.results155
theorem c_laws_eqNode {a : GNode} {b : GNode} {res : Bool} (h : m_laws_eqNode a b = some res) : CallOk Go.Proofs.Try.prog 155 [.agg [.lit (.string a.name), .sl (rowsOf eI a.label), .lit (.int .i64 a.watch)], .agg [.lit (.string b.name), .sl (rowsOf eI b.label), .lit (.int .i64 b.watch)]] [] (.lit (.bool res)) [] := by
  refine callOk_of (ra := []) (md := mdT) hT (hi := hi155) Go.Proofs.Try.func155 rfl rfl (by decide +kernel) (by simp) ?_
  unfold m_laws_eqNode at h
  rcases ite_some h with ⟨h1, h⟩ | ⟨h1, h⟩
  · obtain ⟨r1001, g2, h⟩ := obnd_some h
    simp -implicitDefEqProofs -dsimp only [go_sem, (eq_true h1)]
    refine callW_of (c_laws_eqIntS g2) ?_
    rcases ite_some h with ⟨h3, h⟩ | ⟨h3, h⟩
    · rcases ite_some h with ⟨h4, h⟩ | ⟨h4, h⟩
      · cases h
        simp -implicitDefEqProofs -dsimp only [go_sem, (eq_true h1), (eq_true h3), (condZ_t h3), (eq_true h4)]
      · cases h
        simp -implicitDefEqProofs -dsimp only [go_sem, (eq_true h1), (eq_true h3), (condZ_t h3), (eq_false h4)]
    · cases h
      simp -implicitDefEqProofs -dsimp only [go_sem, (eq_true h1), (eq_false h3), (condZ_f h3)]
  · cases h
    simp -implicitDefEqProofs -dsimp only [go_sem, (eq_false h1)]
/- 90 loop.example/g00827/laws.eqNodeS -/
def m_laws_eqNodeS_L1_St (a : List GNode) (b : List GNode) (i : Int) : St := ⟨[(0, .sl (rowsOf GNode.encS a)), (1, .sl (rowsOf GNode.encS b)), (5, .lit (.int .i64 i))], [], 2⟩
attribute [go_sem] m_laws_eqNodeS_L1_St
def hi90 : Hint where
  acts := fun _ => []
  draws := fun
    | 6 => ⟨.cons ⟨0, false, []⟩ (.cons ⟨1, false, []⟩ (.cons ⟨2, false, []⟩ (.cons ⟨3, false, []⟩ (.cons ⟨4, false, []⟩ (.cons ⟨5, false, []⟩ (.cons ⟨6, false, []⟩ (.cons ⟨7, false, []⟩ (.cons ⟨8, false, []⟩ (.cons ⟨9, false, []⟩ .nil))))))))), [[], [], [0, 1], [0, 1, 2], [], [], [4, 5], [4, 5, 6], [0, 1, 2, 3, 4, 5, 6, 7], [0, 1, 2, 3, 4, 5, 6, 7, 8]], [0, 1, 2, 3, 4, 5, 6, 7, 8, 9]⟩
    | _ => ⟨.nil, [], []⟩
theorem hi90a (i : Nat) : hi90.acts i = [] := rfl
theorem hi90v (i : Nat) : hi90.views i = none := rfl
attribute [go_sem] hi90a hi90v Go.Proofs.Try.ntmps90 Go.Proofs.Try.results90
@[go_sem] theorem hi90d6 : (hi90.draws 6).order = .cons ⟨0, false, []⟩ (.cons ⟨1, false, []⟩ (.cons ⟨2, false, []⟩ (.cons ⟨3, false, []⟩ (.cons ⟨4, false, []⟩ (.cons ⟨5, false, []⟩ (.cons ⟨6, false, []⟩ (.cons ⟨7, false, []⟩ (.cons ⟨8, false, []⟩ (.cons ⟨9, false, []⟩ .nil))))))))) := rfl
theorem c_laws_eqNodeS {a : List GNode} {b : List GNode} {res : Bool} (h : m_laws_eqNodeS a b = some res) : CallOk Go.Proofs.Try.prog 90 [.sl (rowsOf GNode.encS a), .sl (rowsOf GNode.encS b)] [] (.lit (.bool res)) [] := by
  refine callOk_of (ra := []) (md := mdT) hT (hi := hi90) Go.Proofs.Try.func90 rfl rfl (by decide +kernel) (by simp) ?_
  unfold m_laws_eqNodeS at h
  rcases ite_some h with ⟨h1, h⟩ | ⟨h1, h⟩
  · obtain ⟨q1004, l2, h⟩ := obnd_some h
    simp -implicitDefEqProofs -dsimp only [go_sem, (eq_true h1)]
    refine loopW_loopO (m1 := .mk) (m2 := .mk) [.nf [0, 1, 5] []] (m_laws_eqNodeS_L1_St a b) l2 ?_ ?_
    · simp -implicitDefEqProofs -dsimp only [go_sem, (eq_true h1)]
    · intro nb3 sb3 bb3 b3 gb3
      obtain ⟨i_1, eb3⟩ : ∃ v, v = sb3 := ⟨_, rfl⟩; subst eb3
      unfold m_laws_eqNodeS_L1 at b3
      try dsimp only at b3
      rcases ite_some b3 with ⟨h4, b3⟩ | ⟨h4, b3⟩
      · obtain ⟨x1001, g5, b3⟩ := obnd_some b3
        obtain ⟨h6, h7, h8⟩ := getI_some g5
        obtain ⟨x1002, g9, b3⟩ := obnd_some b3
        obtain ⟨h10, h11, h12⟩ := getI_some g9
        obtain ⟨r1003, g13, b3⟩ := obnd_some b3
        simp -implicitDefEqProofs -dsimp only [go_sem, (eq_true h1), (eq_true h4), h6, h7, h8, h10, h11, h12]
        refine callW_of (c_laws_eqNode g13) ?_
        rcases ite_some b3 with ⟨h14, b3⟩ | ⟨h14, b3⟩
        · cases b3
          simp -implicitDefEqProofs -dsimp only [go_sem, (eq_true h1), (eq_true h4), h6, h7, h8, h10, h11, h12, (eq_true h14), (condZ_t h14)]
          refine next_of gb3 ?_
          simp -implicitDefEqProofs -dsimp only [go_sem, (eq_true h1), (eq_true h4), h6, h7, h8, h10, h11, h12, (eq_true h14), (condZ_t h14)]
        · cases b3
          have e15 := (done_of gb3).symm
          subst e15
          try dsimp only at h
          cases h
          simp -implicitDefEqProofs -dsimp only [go_sem, (eq_true h1), (eq_true h4), h6, h7, h8, h10, h11, h12, (eq_false h14), (condZ_f h14)]
      · cases b3
        have e16 := (done_of gb3).symm
        subst e16
        try dsimp only at h
        cases h
        simp -implicitDefEqProofs -dsimp only [go_sem, (eq_true h1), (eq_false h4)]
  · cases h
    simp -implicitDefEqProofs -dsimp only [go_sem, (eq_false h1)]
/- 156 loop.example/g00827/laws.eqTie -/
def hi156 : Hint where
  acts := fun _ => []
  draws := fun
    | _ => ⟨.nil, [], []⟩
theorem hi156a (i : Nat) : hi156.acts i = [] := rfl
theorem hi156v (i : Nat) : hi156.views i = none := rfl
attribute [go_sem] hi156a hi156v Go.Proofs.Try.ntmps156 Go.Proofs.Try.results156
theorem c_laws_eqTie {a : GTie} {b : GTie} {res : Bool} (h : m_laws_eqTie a b = some res) : CallOk Go.Proofs.Try.prog 156 [.agg [.lit (.int .i64 a.from_), .lit (.int .i64 a.to), .lit (.int .i64 a.low), .lit (.int .i64 a.high), .lit (.bool a.free)], .agg [.lit (.int .i64 b.from_), .lit (.int .i64 b.to), .lit (.int .i64 b.low), .lit (.int .i64 b.high), .lit (.bool b.free)]] [] (.lit (.bool res)) [] := by
  refine callOk_of (ra := []) (md := mdT) hT (hi := hi156) Go.Proofs.Try.func156 rfl rfl (by decide +kernel) (by simp) ?_
  unfold m_laws_eqTie at h
  rcases ite_some h with ⟨h1, h⟩ | ⟨h1, h⟩
  · rcases ite_some h with ⟨h2, h⟩ | ⟨h2, h⟩
    · rcases ite_some h with ⟨h3, h⟩ | ⟨h3, h⟩
      · rcases ite_some h with ⟨h4, h⟩ | ⟨h4, h⟩
        · rcases ite_some h with ⟨h5, h⟩ | ⟨h5, h⟩
          · cases h
            simp -implicitDefEqProofs -dsimp only [go_sem, (eq_true h1), (eq_true h2), (eq_true h3), (eq_true h4), (eq_true h5)]
          · cases h
            simp -implicitDefEqProofs -dsimp only [go_sem, (eq_true h1), (eq_true h2), (eq_true h3), (eq_true h4), (eq_false h5)]
        · cases h
          simp -implicitDefEqProofs -dsimp only [go_sem, (eq_true h1), (eq_true h2), (eq_true h3), (eq_false h4)]
      · cases h
        simp -implicitDefEqProofs -dsimp only [go_sem, (eq_true h1), (eq_true h2), (eq_false h3)]
    · cases h
      simp -implicitDefEqProofs -dsimp only [go_sem, (eq_true h1), (eq_false h2)]
  · cases h
    simp -implicitDefEqProofs -dsimp only [go_sem, (eq_false h1)]
/- 91 loop.example/g00827/laws.eqTieS -/
def m_laws_eqTieS_L1_St (a : List GTie) (b : List GTie) (i : Int) : St := ⟨[(0, .sl (rowsOf GTie.enc a)), (1, .sl (rowsOf GTie.enc b)), (5, .lit (.int .i64 i))], [], 2⟩
attribute [go_sem] m_laws_eqTieS_L1_St
def hi91 : Hint where
  acts := fun _ => []
  draws := fun
    | 6 => ⟨.cons ⟨0, false, []⟩ (.cons ⟨1, false, []⟩ (.cons ⟨2, false, []⟩ (.cons ⟨3, false, []⟩ (.cons ⟨4, false, []⟩ (.cons ⟨5, false, []⟩ (.cons ⟨6, false, []⟩ (.cons ⟨7, false, []⟩ (.cons ⟨8, false, []⟩ (.cons ⟨9, false, []⟩ .nil))))))))), [[], [], [0, 1], [0, 1, 2], [], [], [4, 5], [4, 5, 6], [0, 1, 2, 3, 4, 5, 6, 7], [0, 1, 2, 3, 4, 5, 6, 7, 8]], [0, 1, 2, 3, 4, 5, 6, 7, 8, 9]⟩
    | _ => ⟨.nil, [], []⟩
theorem hi91a (i : Nat) : hi91.acts i = [] := rfl
theorem hi91v (i : Nat) : hi91.views i = none := rfl
attribute [go_sem] hi91a hi91v Go.Proofs.Try.ntmps91 Go.Proofs.Try.results91
@[go_sem] theorem hi91d6 : (hi91.draws 6).order = .cons ⟨0, false, []⟩ (.cons ⟨1, false, []⟩ (.cons ⟨2, false, []⟩ (.cons ⟨3, false, []⟩ (.cons ⟨4, false, []⟩ (.cons ⟨5, false, []⟩ (.cons ⟨6, false, []⟩ (.cons ⟨7, false, []⟩ (.cons ⟨8, false, []⟩ (.cons ⟨9, false, []⟩ .nil))))))))) := rfl
theorem c_laws_eqTieS {a : List GTie} {b : List GTie} {res : Bool} (h : m_laws_eqTieS a b = some res) : CallOk Go.Proofs.Try.prog 91 [.sl (rowsOf GTie.enc a), .sl (rowsOf GTie.enc b)] [] (.lit (.bool res)) [] := by
  refine callOk_of (ra := []) (md := mdT) hT (hi := hi91) Go.Proofs.Try.func91 rfl rfl (by decide +kernel) (by simp) ?_
  unfold m_laws_eqTieS at h
  rcases ite_some h with ⟨h1, h⟩ | ⟨h1, h⟩
  · obtain ⟨q1004, l2, h⟩ := obnd_some h
    simp -implicitDefEqProofs -dsimp only [go_sem, (eq_true h1)]
    refine loopW_loopO (m1 := .mk) (m2 := .mk) [.nf [0, 1, 5] []] (m_laws_eqTieS_L1_St a b) l2 ?_ ?_
    · simp -implicitDefEqProofs -dsimp only [go_sem, (eq_true h1)]
    · intro nb3 sb3 bb3 b3 gb3
      obtain ⟨i_1, eb3⟩ : ∃ v, v = sb3 := ⟨_, rfl⟩; subst eb3
      unfold m_laws_eqTieS_L1 at b3
      try dsimp only at b3
      rcases ite_some b3 with ⟨h4, b3⟩ | ⟨h4, b3⟩
      · obtain ⟨x1001, g5, b3⟩ := obnd_some b3
        obtain ⟨h6, h7, h8⟩ := getI_some g5
        obtain ⟨x1002, g9, b3⟩ := obnd_some b3
        obtain ⟨h10, h11, h12⟩ := getI_some g9
        obtain ⟨r1003, g13, b3⟩ := obnd_some b3
        simp -implicitDefEqProofs -dsimp only [go_sem, (eq_true h1), (eq_true h4), h6, h7, h8, h10, h11, h12]
        refine callW_of (c_laws_eqTie g13) ?_
        rcases ite_some b3 with ⟨h14, b3⟩ | ⟨h14, b3⟩
        · cases b3
          simp -implicitDefEqProofs -dsimp only [go_sem, (eq_true h1), (eq_true h4), h6, h7, h8, h10, h11, h12, (eq_true h14), (condZ_t h14)]
          refine next_of gb3 ?_
          simp -implicitDefEqProofs -dsimp only [go_sem, (eq_true h1), (eq_true h4), h6, h7, h8, h10, h11, h12, (eq_true h14), (condZ_t h14)]
        · cases b3
          have e15 := (done_of gb3).symm
          subst e15
          try dsimp only at h
          cases h
          simp -implicitDefEqProofs -dsimp only [go_sem, (eq_true h1), (eq_true h4), h6, h7, h8, h10, h11, h12, (eq_false h14), (condZ_f h14)]
      · cases b3
        have e16 := (done_of gb3).symm
        subst e16
        try dsimp only at h
        cases h
        simp -implicitDefEqProofs -dsimp only [go_sem, (eq_true h1), (eq_false h4)]
  · cases h
    simp -implicitDefEqProofs -dsimp only [go_sem, (eq_false h1)]
/- 24 loop.example/g00827/laws.eqShow -/
def hi24 : Hint where
  acts := fun _ => []
  draws := fun
    | _ => ⟨.nil, [], []⟩
theorem hi24a (i : Nat) : hi24.acts i = [] := rfl
theorem hi24v (i : Nat) : hi24.views i = none := rfl
attribute [go_sem] hi24a hi24v Go.Proofs.Try.ntmps24 Go.Proofs.Try.results24
theorem c_laws_eqShow {a : GShow} {b : GShow} {res : Bool} (h : m_laws_eqShow a b = some res) : CallOk Go.Proofs.Try.prog 24 [.agg [.sl (rowsOf GNode.encS a.nodes), .sl (rowsOf GTie.enc a.ties), .lit (.int .i64 a.horizon)], .agg [.sl (rowsOf GNode.encS b.nodes), .sl (rowsOf GTie.enc b.ties), .lit (.int .i64 b.horizon)]] [] (.lit (.bool res)) [] := by
  refine callOk_of (ra := []) (md := mdT) hT (hi := hi24) Go.Proofs.Try.func24 rfl rfl (by decide +kernel) (by simp) ?_
  unfold m_laws_eqShow at h
  obtain ⟨r1001, g1, h⟩ := obnd_some h
  simp -implicitDefEqProofs -dsimp only [go_sem]
  refine callW_of (c_laws_eqNodeS g1) ?_
  rcases ite_some h with ⟨h2, h⟩ | ⟨h2, h⟩
  · obtain ⟨r1002, g3, h⟩ := obnd_some h
    simp -implicitDefEqProofs -dsimp only [go_sem, (eq_true h2), (condZ_t h2)]
    refine callW_of (c_laws_eqTieS g3) ?_
    rcases ite_some h with ⟨h4, h⟩ | ⟨h4, h⟩
    · rcases ite_some h with ⟨h5, h⟩ | ⟨h5, h⟩
      · cases h
        simp -implicitDefEqProofs -dsimp only [go_sem, (eq_true h2), (condZ_t h2), (eq_true h4), (condZ_t h4), (eq_true h5)]
      · cases h
        simp -implicitDefEqProofs -dsimp only [go_sem, (eq_true h2), (condZ_t h2), (eq_true h4), (condZ_t h4), (eq_false h5)]
    · cases h
      simp -implicitDefEqProofs -dsimp only [go_sem, (eq_true h2), (condZ_t h2), (eq_false h4), (condZ_f h4)]
  · cases h
    simp -implicitDefEqProofs -dsimp only [go_sem, (eq_false h2), (condZ_f h2)]
/- 157 loop.example/g00827/laws.markText -/
def m_laws_markText_L1_St  : (Int × ByteArray) → St
  | (k, out) => ⟨[(0, .lit (.int .i64 k)), (3, .lit (.string out))], [], 2⟩
attribute [go_sem] m_laws_markText_L1_St
def hi157 : Hint where
  acts := fun _ => []
  draws := fun
    | _ => ⟨.nil, [], []⟩
theorem hi157a (i : Nat) : hi157.acts i = [] := rfl
theorem hi157v (i : Nat) : hi157.views i = none := rfl
attribute [go_sem] hi157a hi157v Go.Proofs.Try.ntmps157 Go.Proofs.Try.results157
theorem c_laws_markText {k : Int} {res : ByteArray} (h : m_laws_markText k = some res) : CallOk Go.Proofs.Try.prog 157 [.lit (.int .i64 k)] [] (.lit (.string res)) [] := by
  refine callOk_of (ra := []) (md := mdT) hT (hi := hi157) Go.Proofs.Try.func157 rfl rfl (by decide +kernel) (by simp) ?_
  unfold m_laws_markText at h
  rcases ite_some h with ⟨h1, h⟩ | ⟨h1, h⟩
  · cases h
    simp -implicitDefEqProofs -dsimp only [go_sem, (eq_true h1)]
  · obtain ⟨q1001, l2, h⟩ := obnd_some h
    simp -implicitDefEqProofs -dsimp only [go_sem, (eq_false h1)]
    refine loopW_loopO (m1 := .mk) (m2 := .mk) [.nf [0, 3] []] (m_laws_markText_L1_St) l2 ?_ ?_
    · simp -implicitDefEqProofs -dsimp only [go_sem, (eq_false h1)]
    · intro nb3 sb3 bb3 b3 gb3
      obtain ⟨k_1, out_1⟩ := sb3
      unfold m_laws_markText_L1 at b3
      try dsimp only at b3
      rcases ite_some b3 with ⟨h4, b3⟩ | ⟨h4, b3⟩
      · obtain ⟨h5, b3⟩ := chk_some b3
        cases b3
        simp -implicitDefEqProofs -dsimp only [go_sem, (eq_false h1), (eq_true h4), (eq_true h5)]
        refine next_of gb3 ?_
        simp -implicitDefEqProofs -dsimp only [go_sem, (eq_false h1), (eq_true h4), (eq_true h5)]
      · cases b3
        have e6 := (done_of gb3).symm
        subst e6
        try dsimp only at h
        obtain ⟨h7, h⟩ := chk_some h
        cases h
        simp -implicitDefEqProofs -dsimp only [go_sem, (eq_false h1), (eq_false h4), (eq_true h7)]
/- 26 loop.example/g00827/laws.markIntS -/
def m_laws_markIntS_L1_St (zb0 : Bool)  : (Int × Int × (List Int)) → St
  | (k, i, a) => ⟨[(0, .ref 10000 0 0 a.length), (1, .lit (.int .i64 k)), (5, .lit (.int .i64 i))], [(10000, 0, .row zb0 (rowsOf eI a))], 2⟩
attribute [go_sem] m_laws_markIntS_L1_St
def hi26 : Hint where
  acts := fun _ => []
  draws := fun
    | _ => ⟨.nil, [], []⟩
theorem hi26a (i : Nat) : hi26.acts i = [] := rfl
theorem hi26v (i : Nat) : hi26.views i = none := rfl
attribute [go_sem] hi26a hi26v Go.Proofs.Try.ntmps26 Go.Proofs.Try.results26
theorem c_laws_markIntS {a : List Int} {k : Int} {zb0 : Bool} {res : Int × (List Int)} (h : m_laws_markIntS a k = some res) : CallOk Go.Proofs.Try.prog 26 [.ref 10000 0 0 a.length, .lit (.int .i64 k)] [(10000, 0, .row zb0 (rowsOf eI a))] (.lit (.int .i64 res.1)) [(10000, 0, .row zb0 (rowsOf eI res.2))] := by
  refine callOk_of (ra := []) (md := mdT) hT (hi := hi26) Go.Proofs.Try.func26 rfl rfl (by decide +kernel) (by simp) ?_
  unfold m_laws_markIntS at h
  obtain ⟨q1002, l1, h⟩ := obnd_some h
  simp -implicitDefEqProofs -dsimp only [go_sem]
  refine loopW_loopO (m1 := .mk) (m2 := .mk) [.nf [0, 1, 5] [10000]] (m_laws_markIntS_L1_St zb0) l1 ?_ ?_
  · simp -implicitDefEqProofs -dsimp only [go_sem]
  · intro nb2 sb2 bb2 b2 gb2
    obtain ⟨k_1, i_1, a_1⟩ := sb2
    unfold m_laws_markIntS_L1 at b2
    try dsimp only at b2
    rcases ite_some b2 with ⟨h3, b2⟩ | ⟨h3, b2⟩
    · obtain ⟨x1001, g4, b2⟩ := obnd_some b2
      obtain ⟨h5, h6, h7⟩ := getI_some g4
      cases b2
      simp -implicitDefEqProofs -dsimp only [go_sem, (eq_true h3), h5, h6, h7]
      refine next_of gb2 ?_
      simp -implicitDefEqProofs -dsimp only [go_sem, (eq_true h3), h5, h6, h7]
    · cases b2
      have e8 := (done_of gb2).symm
      subst e8
      try dsimp only at h
      cases h
      simp -implicitDefEqProofs -dsimp only [go_sem, (eq_false h3)]
/- 92 loop.example/g00827/laws.markNodeS -/
def m_laws_markNodeS_L1_St (zb0 : Bool)  : (Int × Int × (List GNode)) → St
  | (k, i, a) => ⟨[(0, .ref 10000 0 0 a.length), (1, .lit (.int .i64 k)), (5, .lit (.int .i64 i))], [(10000, 0, .row zb0 (rowsOf GNode.encO a))], 2⟩
attribute [go_sem] m_laws_markNodeS_L1_St
def hi92 : Hint where
  acts := fun _ => []
  views := fun
    | 6 => some (4, 1)
    | _ => none
  draws := fun
    | _ => ⟨.nil, [], []⟩
theorem hi92a (i : Nat) : hi92.acts i = [] := rfl
@[go_sem] theorem hi92v0 : hi92.views 0 = none := rfl
@[go_sem] theorem hi92v1 : hi92.views 1 = none := rfl
@[go_sem] theorem hi92v2 : hi92.views 2 = none := rfl
@[go_sem] theorem hi92v4 : hi92.views 4 = none := rfl
@[go_sem] theorem hi92v5 : hi92.views 5 = none := rfl
@[go_sem] theorem hi92v6 : hi92.views 6 = some (4, 1) := rfl
@[go_sem] theorem hi92v7 : hi92.views 7 = none := rfl
@[go_sem] theorem hi92v8 : hi92.views 8 = none := rfl
@[go_sem] theorem hi92v3 : hi92.views 3 = none := rfl
@[go_sem] theorem hi92v9 : hi92.views 9 = none := rfl
attribute [go_sem] hi92a Go.Proofs.Try.ntmps92 Go.Proofs.Try.results92
theorem c_laws_markNodeS {a : List GNode} {k : Int} {zb0 : Bool} {res : Int × (List GNode)} (h : m_laws_markNodeS a k = some res) : CallOk Go.Proofs.Try.prog 92 [.ref 10000 0 0 a.length, .lit (.int .i64 k)] [(10000, 0, .row zb0 (rowsOf GNode.encO a))] (.lit (.int .i64 res.1)) [(10000, 0, .row zb0 (rowsOf GNode.encO res.2))] := by
  refine callOk_of (ra := []) (md := mdT) hT (hi := hi92) Go.Proofs.Try.func92 rfl rfl (by decide +kernel) (by simp) ?_
  unfold m_laws_markNodeS at h
  obtain ⟨q1006, l1, h⟩ := obnd_some h
  simp -implicitDefEqProofs -dsimp only [go_sem]
  refine loopW_loopO (m1 := .mk) (m2 := .mk) [.nf [0, 1, 5] [10000]] (m_laws_markNodeS_L1_St zb0) l1 ?_ ?_
  · simp -implicitDefEqProofs -dsimp only [go_sem]
  · intro nb2 sb2 bb2 b2 gb2
    obtain ⟨k_1, i_1, a_1⟩ := sb2
    unfold m_laws_markNodeS_L1 at b2
    try dsimp only at b2
    rcases ite_some b2 with ⟨h3, b2⟩ | ⟨h3, b2⟩
    · obtain ⟨r1001, g4, b2⟩ := obnd_some b2
      simp -implicitDefEqProofs -dsimp only [go_sem, (eq_true h3)]
      refine callW_of (c_laws_markText g4) ?_
      obtain ⟨x1002, g5, b2⟩ := obnd_some b2
      obtain ⟨h6, h7, h8⟩ := getI_some g5
      obtain ⟨x1003, g9, b2⟩ := obnd_some b2
      obtain ⟨h10, h11, h12⟩ := getI_some g9
      obtain ⟨r1004, g13, b2⟩ := obnd_some b2
      obtain ⟨h14, b2⟩ := chk_some b2
      simp -implicitDefEqProofs -dsimp only [go_sem, (eq_true h3), h6, h7, h8, h10, h11, h12]
      refine viewW_of h14 (by simp only [go_sem]) (c_laws_markIntS g13) ?_
      obtain ⟨x1005, g15, b2⟩ := obnd_some b2
      obtain ⟨h16, h17, h18⟩ := getI_some g15
      cases b2
      simp -implicitDefEqProofs -dsimp only [go_sem, (eq_true h3), h6, h7, h8, h10, h11, h12, h16, h17, h18]
      refine next_of gb2 ?_
      simp -implicitDefEqProofs -dsimp only [go_sem, (eq_true h3), h6, h7, h8, h10, h11, h12, h16, h17, h18]
    · cases b2
      have e19 := (done_of gb2).symm
      subst e19
      try dsimp only at h
      cases h
      simp -implicitDefEqProofs -dsimp only [go_sem, (eq_false h3)]
/- 93 loop.example/g00827/laws.markTieS -/
def m_laws_markTieS_L1_St (zb0 : Bool)  : (Int × Int × (List GTie)) → St
  | (k, i, a) => ⟨[(0, .ref 10000 0 0 a.length), (1, .lit (.int .i64 k)), (5, .lit (.int .i64 i))], [(10000, 0, .row zb0 (rowsOf GTie.enc a))], 2⟩
attribute [go_sem] m_laws_markTieS_L1_St
def hi93 : Hint where
  acts := fun _ => []
  draws := fun
    | _ => ⟨.nil, [], []⟩
theorem hi93a (i : Nat) : hi93.acts i = [] := rfl
theorem hi93v (i : Nat) : hi93.views i = none := rfl
attribute [go_sem] hi93a hi93v Go.Proofs.Try.ntmps93 Go.Proofs.Try.results93
theorem c_laws_markTieS {a : List GTie} {k : Int} {zb0 : Bool} {res : Int × (List GTie)} (h : m_laws_markTieS a k = some res) : CallOk Go.Proofs.Try.prog 93 [.ref 10000 0 0 a.length, .lit (.int .i64 k)] [(10000, 0, .row zb0 (rowsOf GTie.enc a))] (.lit (.int .i64 res.1)) [(10000, 0, .row zb0 (rowsOf GTie.enc res.2))] := by
  refine callOk_of (ra := []) (md := mdT) hT (hi := hi93) Go.Proofs.Try.func93 rfl rfl (by decide +kernel) (by simp) ?_
  unfold m_laws_markTieS at h
  obtain ⟨q1006, l1, h⟩ := obnd_some h
  simp -implicitDefEqProofs -dsimp only [go_sem]
  refine loopW_loopO (m1 := .mk) (m2 := .mk) [.nf [0, 1, 5] [10000]] (m_laws_markTieS_L1_St zb0) l1 ?_ ?_
  · simp -implicitDefEqProofs -dsimp only [go_sem]
  · intro nb2 sb2 bb2 b2 gb2
    obtain ⟨k_1, i_1, a_1⟩ := sb2
    unfold m_laws_markTieS_L1 at b2
    try dsimp only at b2
    rcases ite_some b2 with ⟨h3, b2⟩ | ⟨h3, b2⟩
    · obtain ⟨x1001, g4, b2⟩ := obnd_some b2
      obtain ⟨h5, h6, h7⟩ := getI_some g4
      obtain ⟨x1002, g8, b2⟩ := obnd_some b2
      obtain ⟨h9, h10, h11⟩ := getI_some g8
      obtain ⟨x1003, g12, b2⟩ := obnd_some b2
      obtain ⟨h13, h14, h15⟩ := getI_some g12
      obtain ⟨x1004, g16, b2⟩ := obnd_some b2
      obtain ⟨h17, h18, h19⟩ := getI_some g16
      obtain ⟨x1005, g20, b2⟩ := obnd_some b2
      obtain ⟨h21, h22, h23⟩ := getI_some g20
      cases b2
      simp -implicitDefEqProofs -dsimp only [go_sem, (eq_true h3), h5, h6, h7, h9, h10, h11, h13, h14, h15, h17, h18, h19, h21, h22, h23]
      refine next_of gb2 ?_
      simp -implicitDefEqProofs -dsimp only [go_sem, (eq_true h3), h5, h6, h7, h9, h10, h11, h13, h14, h15, h17, h18, h19, h21, h22, h23]
    · cases b2
      have e24 := (done_of gb2).symm
      subst e24
      try dsimp only at h
      cases h
      simp -implicitDefEqProofs -dsimp only [go_sem, (eq_false h3)]
/- 25 loop.example/g00827/laws.markShow -/
def hi25 : Hint where
  acts := fun _ => []
  draws := fun
    | _ => ⟨.nil, [], []⟩
theorem hi25a (i : Nat) : hi25.acts i = [] := rfl
theorem hi25v (i : Nat) : hi25.views i = none := rfl
attribute [go_sem] hi25a hi25v Go.Proofs.Try.ntmps25 Go.Proofs.Try.results25
theorem c_laws_markShow {a : GShow} {k : Int} {zb0 : Bool} {zb1 : Bool} {res : Int × (List GNode) × (List GTie)} (h : m_laws_markShow a k = some res) : CallOk Go.Proofs.Try.prog 25 [.agg [.ref 10000 0 0 a.nodes.length, .ref 10001 0 0 a.ties.length, .lit (.int .i64 a.horizon)], .lit (.int .i64 k)] [(10000, 0, .row zb0 (rowsOf GNode.encO a.nodes)), (10001, 0, .row zb1 (rowsOf GTie.enc a.ties))] (.lit (.int .i64 res.1)) [(10000, 0, .row zb0 (rowsOf GNode.encO res.2.1)), (10001, 0, .row zb1 (rowsOf GTie.enc res.2.2))] := by
  refine callOk_of (ra := []) (md := mdT) hT (hi := hi25) Go.Proofs.Try.func25 rfl rfl (by decide +kernel) (by simp) ?_
  unfold m_laws_markShow at h
  obtain ⟨r1001, g1, h⟩ := obnd_some h
  simp -implicitDefEqProofs -dsimp only [go_sem]
  refine callW_of (c_laws_markNodeS g1) ?_
  obtain ⟨r1002, g2, h⟩ := obnd_some h
  simp -implicitDefEqProofs -dsimp only [go_sem]
  refine callW_of (c_laws_markTieS g2) ?_
  cases h
  simp -implicitDefEqProofs -dsimp only [go_sem]
/- 27 loop.example/g00827/laws.heldIntS -/
def m_laws_heldIntS_L1_St (a : List Int) : (Int × Int) → St
  | (k, i) => ⟨[(0, .sl (rowsOf eI a)), (1, .lit (.int .i64 k)), (5, .lit (.int .i64 i))], [], 2⟩
attribute [go_sem] m_laws_heldIntS_L1_St
def hi27 : Hint where
  acts := fun _ => []
  draws := fun
    | _ => ⟨.nil, [], []⟩
theorem hi27a (i : Nat) : hi27.acts i = [] := rfl
theorem hi27v (i : Nat) : hi27.views i = none := rfl
attribute [go_sem] hi27a hi27v Go.Proofs.Try.ntmps27 Go.Proofs.Try.results27
theorem c_laws_heldIntS {a : List Int} {k : Int} {res : Int} (h : m_laws_heldIntS a k = some res) : CallOk Go.Proofs.Try.prog 27 [.sl (rowsOf eI a), .lit (.int .i64 k)] [] (.lit (.int .i64 res)) [] := by
  refine callOk_of (ra := []) (md := mdT) hT (hi := hi27) Go.Proofs.Try.func27 rfl rfl (by decide +kernel) (by simp) ?_
  unfold m_laws_heldIntS at h
  obtain ⟨q1002, l1, h⟩ := obnd_some h
  simp -implicitDefEqProofs -dsimp only [go_sem]
  refine loopW_loopO (m1 := .mk) (m2 := .mk) [.nf [0, 1, 5] []] (m_laws_heldIntS_L1_St a) l1 ?_ ?_
  · simp -implicitDefEqProofs -dsimp only [go_sem]
  · intro nb2 sb2 bb2 b2 gb2
    obtain ⟨k_1, i_1⟩ := sb2
    unfold m_laws_heldIntS_L1 at b2
    try dsimp only at b2
    rcases ite_some b2 with ⟨h3, b2⟩ | ⟨h3, b2⟩
    · obtain ⟨x1001, g4, b2⟩ := obnd_some b2
      obtain ⟨h5, h6, h7⟩ := getI_some g4
      rcases ite_some b2 with ⟨h8, b2⟩ | ⟨h8, b2⟩
      · cases b2
        simp -implicitDefEqProofs -dsimp only [go_sem, (eq_true h3), h5, h6, h7, (eq_true h8)]
        refine next_of gb2 ?_
        simp -implicitDefEqProofs -dsimp only [go_sem, (eq_true h3), h5, h6, h7, (eq_true h8)]
      · cases b2
        have e9 := (done_of gb2).symm
        subst e9
        try dsimp only at h
        cases h
        simp -implicitDefEqProofs -dsimp only [go_sem, (eq_true h3), h5, h6, h7, (eq_false h8)]
    · cases b2
      have e10 := (done_of gb2).symm
      subst e10
      try dsimp only at h
      cases h
      simp -implicitDefEqProofs -dsimp only [go_sem, (eq_false h3)]
/- 10 loop.example/g00827/laws.FnExactBrokenTies -/
def hi10 : Hint where
  acts := fun _ => []
  draws := fun
    | 13 => ⟨.cons ⟨0, true, []⟩ (.cons ⟨1, false, []⟩ (.cons ⟨2, false, [0]⟩ (.cons ⟨3, false, []⟩ (.cons ⟨4, false, []⟩ .nil)))), [[], [], [1], [0, 1, 2], [0, 1, 2, 3]], [0, 1, 2, 3, 4]⟩
    | _ => ⟨.nil, [], []⟩
theorem hi10a (i : Nat) : hi10.acts i = [] := rfl
theorem hi10v (i : Nat) : hi10.views i = none := rfl
attribute [go_sem] hi10a hi10v Go.Proofs.Try.ntmps10 Go.Proofs.Try.results10
@[go_sem] theorem hi10d13 : (hi10.draws 13).order = .cons ⟨0, true, []⟩ (.cons ⟨1, false, []⟩ (.cons ⟨2, false, [0]⟩ (.cons ⟨3, false, []⟩ (.cons ⟨4, false, []⟩ .nil)))) := rfl
theorem c_laws_FnExactBrokenTies {aS : GShow} {aTimes : List Int} {res : Bool} (h : m_laws_FnExactBrokenTies aS aTimes = some res) : CallOk Go.Proofs.Try.prog 10 [.agg [.sl (rowsOf GNode.encS aS.nodes), .sl (rowsOf GTie.enc aS.ties), .lit (.int .i64 aS.horizon)], .sl (rowsOf eI aTimes)] [] (.lit (.bool res)) [] := by
  refine callOk_of (ra := []) (md := mdT) hT (hi := hi10) Go.Proofs.Try.func10 rfl rfl (by decide +kernel) (by simp) ?_
  unfold m_laws_FnExactBrokenTies at h
  rcases ite_some h with ⟨h1, h⟩ | ⟨h1, h⟩
  · cases h
    simp -implicitDefEqProofs -dsimp only [go_sem, (eq_true h1)]
  · obtain ⟨r1001, g2, h⟩ := obnd_some h
    simp -implicitDefEqProofs -dsimp only [go_sem, (eq_false h1)]
    refine callW_of (c_laws_szShow g2) ?_
    rcases ite_some h with ⟨h3, h⟩ | ⟨h3, h⟩
    · cases h
      simp -implicitDefEqProofs -dsimp only [go_sem, (eq_false h1), (eq_true h3)]
    · obtain ⟨r1002, g4, h⟩ := obnd_some h
      simp -implicitDefEqProofs -dsimp only [go_sem, (eq_false h1), (eq_false h3)]
      refine callW_of (c_laws_toShow g4) ?_
      obtain ⟨r1003, g5, h⟩ := obnd_some h
      simp -implicitDefEqProofs -dsimp only [go_sem, (eq_false h1), (eq_false h3)]
      refine callW_of (c_laws_toIntS g5) ?_
      obtain ⟨r1004, g6, h⟩ := obnd_some h
      simp -implicitDefEqProofs -dsimp only [go_sem, (eq_false h1), (eq_false h3)]
      refine callW_of (c_spec_BrokenTies g6) ?_
      obtain ⟨r1005, g7, h⟩ := obnd_some h
      simp -implicitDefEqProofs -dsimp only [go_sem, (eq_false h1), (eq_false h3)]
      refine callW_of (c_laws_toShow g7) ?_
      obtain ⟨r1006, g8, h⟩ := obnd_some h
      simp -implicitDefEqProofs -dsimp only [go_sem, (eq_false h1), (eq_false h3)]
      refine callW_of (c_laws_toIntS g8) ?_
      obtain ⟨r1007, g9, h⟩ := obnd_some h
      simp -implicitDefEqProofs -dsimp only [go_sem, (eq_false h1), (eq_false h3)]
      refine callW_of (c_impl_BrokenTies g9) ?_
      obtain ⟨r1008, g10, h⟩ := obnd_some h
      simp -implicitDefEqProofs -dsimp only [go_sem, (eq_false h1), (eq_false h3)]
      refine callW_of (c_laws_eqIntS g10) ?_
      rcases ite_some h with ⟨h11, h⟩ | ⟨h11, h⟩
      · obtain ⟨r1009, g12, h⟩ := obnd_some h
        simp -implicitDefEqProofs -dsimp only [go_sem, (eq_false h1), (eq_false h3), (eq_true h11), (condZ_t h11)]
        refine callW_of (c_laws_toShow g12) ?_
        obtain ⟨r1010, g13, h⟩ := obnd_some h
        simp -implicitDefEqProofs -dsimp only [go_sem, (eq_false h1), (eq_false h3), (eq_true h11), (condZ_t h11)]
        refine callW_of (c_laws_eqShow g13) ?_
        rcases ite_some h with ⟨h14, h⟩ | ⟨h14, h⟩
        · obtain ⟨r1011, g15, h⟩ := obnd_some h
          simp -implicitDefEqProofs -dsimp only [go_sem, (eq_false h1), (eq_false h3), (eq_true h11), (condZ_t h11), (eq_true h14), (condZ_t h14)]
          refine callW_of (c_laws_toIntS g15) ?_
          obtain ⟨r1012, g16, h⟩ := obnd_some h
          simp -implicitDefEqProofs -dsimp only [go_sem, (eq_false h1), (eq_false h3), (eq_true h11), (condZ_t h11), (eq_true h14), (condZ_t h14)]
          refine callW_of (c_laws_eqIntS g16) ?_
          rcases ite_some h with ⟨h17, h⟩ | ⟨h17, h⟩
          · obtain ⟨r1013, g18, h⟩ := obnd_some h
            simp -implicitDefEqProofs -dsimp only [go_sem, (eq_false h1), (eq_false h3), (eq_true h11), (condZ_t h11), (eq_true h14), (condZ_t h14), (eq_true h17), (condZ_t h17)]
            refine callW_of (c_laws_markShow g18) ?_
            obtain ⟨r1014, g19, h⟩ := obnd_some h
            simp -implicitDefEqProofs -dsimp only [go_sem, (eq_false h1), (eq_false h3), (eq_true h11), (condZ_t h11), (eq_true h14), (condZ_t h14), (eq_true h17), (condZ_t h17)]
            refine callW_of (c_laws_markIntS g19) ?_
            rcases ite_some h with ⟨h20, h⟩ | ⟨h20, h⟩
            · cases h
              simp -implicitDefEqProofs -dsimp only [go_sem, (eq_false h1), (eq_false h3), (eq_true h11), (condZ_t h11), (eq_true h14), (condZ_t h14), (eq_true h17), (condZ_t h17), (eq_true h20)]
            · obtain ⟨r1015, g21, h⟩ := obnd_some h
              simp -implicitDefEqProofs -dsimp only [go_sem, (eq_false h1), (eq_false h3), (eq_true h11), (condZ_t h11), (eq_true h14), (condZ_t h14), (eq_true h17), (condZ_t h17), (eq_false h20)]
              refine callW_of (c_laws_eqIntS g21) ?_
              rcases ite_some h with ⟨h22, h⟩ | ⟨h22, h⟩
              · obtain ⟨r1016, g23, h⟩ := obnd_some h
                simp -implicitDefEqProofs -dsimp only [go_sem, (eq_false h1), (eq_false h3), (eq_true h11), (condZ_t h11), (eq_true h14), (condZ_t h14), (eq_true h17), (condZ_t h17), (eq_false h20), (eq_true h22), (condZ_t h22)]
                refine callW_of (c_laws_markIntS g23) ?_
                obtain ⟨h24, h⟩ := chk_some h
                obtain ⟨r1017, g25, h⟩ := obnd_some h
                simp -implicitDefEqProofs -dsimp only [go_sem, (eq_false h1), (eq_false h3), (eq_true h11), (condZ_t h11), (eq_true h14), (condZ_t h14), (eq_true h17), (condZ_t h17), (eq_false h20), (eq_true h22), (condZ_t h22), (eq_true h24)]
                refine callW_of (c_laws_heldIntS g25) ?_
                rcases ite_some h with ⟨h26, h⟩ | ⟨h26, h⟩
                · cases h
                  simp -implicitDefEqProofs -dsimp only [go_sem, (eq_false h1), (eq_false h3), (eq_true h11), (condZ_t h11), (eq_true h14), (condZ_t h14), (eq_true h17), (condZ_t h17), (eq_false h20), (eq_true h22), (condZ_t h22), (eq_true h24), (eq_true h26)]
                · rcases ite_some h with ⟨h27, h⟩ | ⟨h27, h⟩
                  · obtain ⟨r1018, g28, h⟩ := obnd_some h
                    simp -implicitDefEqProofs -dsimp only [go_sem, (eq_false h1), (eq_false h3), (eq_true h11), (condZ_t h11), (eq_true h14), (condZ_t h14), (eq_true h17), (condZ_t h17), (eq_false h20), (eq_true h22), (condZ_t h22), (eq_true h24), (eq_false h26), (eq_true h27)]
                    refine callW_of (c_laws_toShow g28) ?_
                    obtain ⟨r1019, g29, h⟩ := obnd_some h
                    simp -implicitDefEqProofs -dsimp only [go_sem, (eq_false h1), (eq_false h3), (eq_true h11), (condZ_t h11), (eq_true h14), (condZ_t h14), (eq_true h17), (condZ_t h17), (eq_false h20), (eq_true h22), (condZ_t h22), (eq_true h24), (eq_false h26), (eq_true h27)]
                    refine callW_of (c_laws_toIntS g29) ?_
                    obtain ⟨r1020, g30, h⟩ := obnd_some h
                    simp -implicitDefEqProofs -dsimp only [go_sem, (eq_false h1), (eq_false h3), (eq_true h11), (condZ_t h11), (eq_true h14), (condZ_t h14), (eq_true h17), (condZ_t h17), (eq_false h20), (eq_true h22), (condZ_t h22), (eq_true h24), (eq_false h26), (eq_true h27)]
                    refine callW_of (c_impl_BrokenTies g30) ?_
                    obtain ⟨r1021, g31, h⟩ := obnd_some h
                    simp -implicitDefEqProofs -dsimp only [go_sem, (eq_false h1), (eq_false h3), (eq_true h11), (condZ_t h11), (eq_true h14), (condZ_t h14), (eq_true h17), (condZ_t h17), (eq_false h20), (eq_true h22), (condZ_t h22), (eq_true h24), (eq_false h26), (eq_true h27)]
                    refine callW_of (c_laws_eqIntS g31) ?_
                    rcases ite_some h with ⟨h32, h⟩ | ⟨h32, h⟩
                    · obtain ⟨r1022, g33, h⟩ := obnd_some h
                      simp -implicitDefEqProofs -dsimp only [go_sem, (eq_false h1), (eq_false h3), (eq_true h11), (condZ_t h11), (eq_true h14), (condZ_t h14), (eq_true h17), (condZ_t h17), (eq_false h20), (eq_true h22), (condZ_t h22), (eq_true h24), (eq_false h26), (eq_true h27), (eq_true h32), (condZ_t h32)]
                      refine callW_of (c_laws_heldIntS g33) ?_
                      rcases ite_some h with ⟨h34, h⟩ | ⟨h34, h⟩
                      · cases h
                        simp -implicitDefEqProofs -dsimp only [go_sem, (eq_false h1), (eq_false h3), (eq_true h11), (condZ_t h11), (eq_true h14), (condZ_t h14), (eq_true h17), (condZ_t h17), (eq_false h20), (eq_true h22), (condZ_t h22), (eq_true h24), (eq_false h26), (eq_true h27), (eq_true h32), (condZ_t h32), (eq_true h34)]
                      · rcases ite_some h with ⟨h35, h⟩ | ⟨h35, h⟩
                        · cases h
                          simp -implicitDefEqProofs -dsimp only [go_sem, (eq_false h1), (eq_false h3), (eq_true h11), (condZ_t h11), (eq_true h14), (condZ_t h14), (eq_true h17), (condZ_t h17), (eq_false h20), (eq_true h22), (condZ_t h22), (eq_true h24), (eq_false h26), (eq_true h27), (eq_true h32), (condZ_t h32), (eq_false h34), (eq_true h35)]
                        · cases h
                          simp -implicitDefEqProofs -dsimp only [go_sem, (eq_false h1), (eq_false h3), (eq_true h11), (condZ_t h11), (eq_true h14), (condZ_t h14), (eq_true h17), (condZ_t h17), (eq_false h20), (eq_true h22), (condZ_t h22), (eq_true h24), (eq_false h26), (eq_true h27), (eq_true h32), (condZ_t h32), (eq_false h34), (eq_false h35)]
                    · cases h
                      simp -implicitDefEqProofs -dsimp only [go_sem, (eq_false h1), (eq_false h3), (eq_true h11), (condZ_t h11), (eq_true h14), (condZ_t h14), (eq_true h17), (condZ_t h17), (eq_false h20), (eq_true h22), (condZ_t h22), (eq_true h24), (eq_false h26), (eq_true h27), (eq_false h32), (condZ_f h32)]
                  · cases h
                    simp -implicitDefEqProofs -dsimp only [go_sem, (eq_false h1), (eq_false h3), (eq_true h11), (condZ_t h11), (eq_true h14), (condZ_t h14), (eq_true h17), (condZ_t h17), (eq_false h20), (eq_true h22), (condZ_t h22), (eq_true h24), (eq_false h26), (eq_false h27)]
              · cases h
                simp -implicitDefEqProofs -dsimp only [go_sem, (eq_false h1), (eq_false h3), (eq_true h11), (condZ_t h11), (eq_true h14), (condZ_t h14), (eq_true h17), (condZ_t h17), (eq_false h20), (eq_false h22), (condZ_f h22)]
          · cases h
            simp -implicitDefEqProofs -dsimp only [go_sem, (eq_false h1), (eq_false h3), (eq_true h11), (condZ_t h11), (eq_true h14), (condZ_t h14), (eq_false h17), (condZ_f h17)]
        · cases h
          simp -implicitDefEqProofs -dsimp only [go_sem, (eq_false h1), (eq_false h3), (eq_true h11), (condZ_t h11), (eq_false h14), (condZ_f h14)]
      · cases h
        simp -implicitDefEqProofs -dsimp only [go_sem, (eq_false h1), (eq_false h3), (eq_false h11), (condZ_f h11)]
end Go.Proofs.YtgmiaokdnpaglaaY
