/- Functions. -/
import Derived.Test.YteijmljgodikiaaGreatZM
set_option linter.all false
set_option linter.unusedVariables false
set_option linter.unusedSimpArgs false
set_option maxRecDepth 100000
set_option maxHeartbeats 400000
namespace Go.Proofs.YteijmljgodikiaaGreatZ
open Go
/- 48 loop.example/g00827/laws.szIntS -/
def hi48 : Hint where
  acts := fun _ => []
  draws := fun
    | _ => ⟨.nil, [], []⟩
theorem hi48a (i : Nat) : hi48.acts i = [] := rfl
theorem hi48v (i : Nat) : hi48.views i = none := rfl
attribute [go_sem] hi48a hi48v Go.Proofs.Tryz.ntmps48 Go.Proofs.Tryz.results48
theorem c_laws_szIntS {a : List Int} {left : Int} {res : Int} (h : m_laws_szIntS a left = some res) : CallOk Go.Proofs.Tryz.prog 48 [.sl (rowsOf eI a), .lit (.int .i64 left)] [] (.lit (.int .i64 res)) [] := by
  refine callOk_of (ra := []) (md := mdT) hT (hi := hi48) Go.Proofs.Tryz.func48 rfl rfl (by decide +kernel) (by simp) ?_
  unfold m_laws_szIntS at h
  rcases ite_some h with ⟨h1, h⟩ | ⟨h1, h⟩
  · cases h
    simp -implicitDefEqProofs -dsimp only [go_sem, (eq_true h1)]
  · cases h
    simp -implicitDefEqProofs -dsimp only [go_sem, (eq_false h1)]
/- 47 loop.example/g00827/laws.szNode -/
def hi47 : Hint where
  acts := fun _ => []
  draws := fun
    | _ => ⟨.nil, [], []⟩
theorem hi47a (i : Nat) : hi47.acts i = [] := rfl
theorem hi47v (i : Nat) : hi47.views i = none := rfl
attribute [go_sem] hi47a hi47v Go.Proofs.Tryz.ntmps47 Go.Proofs.Tryz.results47
theorem c_laws_szNode {a : GNode} {left : Int} {res : Int} (h : m_laws_szNode a left = some res) : CallOk Go.Proofs.Tryz.prog 47 [.agg [.lit (.string a.name), .sl (rowsOf eI a.label), .lit (.int .i64 a.watch)], .lit (.int .i64 left)] [] (.lit (.int .i64 res)) [] := by
  refine callOk_of (ra := []) (md := mdT) hT (hi := hi47) Go.Proofs.Tryz.func47 rfl rfl (by decide +kernel) (by simp) ?_
  unfold m_laws_szNode at h
  rcases ite_some h with ⟨h1, h⟩ | ⟨h1, h⟩
  · cases h
    simp -implicitDefEqProofs -dsimp only [go_sem, (eq_true h1)]
  · obtain ⟨r1001, g2, h⟩ := obnd_some h
    simp -implicitDefEqProofs -dsimp only [go_sem, (eq_false h1)]
    refine callW_of (c_laws_szIntS g2) ?_
    rcases ite_some h with ⟨h3, h⟩ | ⟨h3, h⟩
    · cases h
      simp -implicitDefEqProofs -dsimp only [go_sem, (eq_false h1), (eq_true h3)]
    · cases h
      simp -implicitDefEqProofs -dsimp only [go_sem, (eq_false h1), (eq_false h3)]
/- 23 loop.example/g00827/laws.szNodeS -/
def m_laws_szNodeS_L1_St (a : List GNode) : (Int × Int) → St
  | (left, i) => ⟨[(0, .sl (rowsOf GNode.encS a)), (1, .lit (.int .i64 left)), (5, .lit (.int .i64 i))], [], 2⟩
attribute [go_sem] m_laws_szNodeS_L1_St
def hi23 : Hint where
  acts := fun _ => []
  draws := fun
    | _ => ⟨.nil, [], []⟩
theorem hi23a (i : Nat) : hi23.acts i = [] := rfl
theorem hi23v (i : Nat) : hi23.views i = none := rfl
attribute [go_sem] hi23a hi23v Go.Proofs.Tryz.ntmps23 Go.Proofs.Tryz.results23
theorem c_laws_szNodeS {a : List GNode} {left : Int} {res : Int} (h : m_laws_szNodeS a left = some res) : CallOk Go.Proofs.Tryz.prog 23 [.sl (rowsOf GNode.encS a), .lit (.int .i64 left)] [] (.lit (.int .i64 res)) [] := by
  refine callOk_of (ra := []) (md := mdT) hT (hi := hi23) Go.Proofs.Tryz.func23 rfl rfl (by decide +kernel) (by simp) ?_
  unfold m_laws_szNodeS at h
  rcases ite_some h with ⟨h1, h⟩ | ⟨h1, h⟩
  · cases h
    simp -implicitDefEqProofs -dsimp only [go_sem, (eq_true h1)]
  · obtain ⟨q1003, l2, h⟩ := obnd_some h
    simp -implicitDefEqProofs -dsimp only [go_sem, (eq_false h1)]
    refine loopW_loopO (m1 := .mk) (m2 := .mk) [.nf [0, 1, 5] []] (m_laws_szNodeS_L1_St a) l2 ?_ ?_
    · simp -implicitDefEqProofs -dsimp only [go_sem, (eq_false h1)]
    · intro nb3 sb3 bb3 b3 gb3
      obtain ⟨left_1, i_1⟩ := sb3
      unfold m_laws_szNodeS_L1 at b3
      try dsimp only at b3
      rcases ite_some b3 with ⟨h4, b3⟩ | ⟨h4, b3⟩
      · obtain ⟨x1001, g5, b3⟩ := obnd_some b3
        obtain ⟨h6, h7, h8⟩ := getI_some g5
        obtain ⟨r1002, g9, b3⟩ := obnd_some b3
        simp -implicitDefEqProofs -dsimp only [go_sem, (eq_false h1), (eq_true h4), h6, h7, h8]
        refine callW_of (c_laws_szNode g9) ?_
        rcases ite_some b3 with ⟨h10, b3⟩ | ⟨h10, b3⟩
        · cases b3
          have e11 := (done_of gb3).symm
          subst e11
          try dsimp only at h
          cases h
          simp -implicitDefEqProofs -dsimp only [go_sem, (eq_false h1), (eq_true h4), h6, h7, h8, (eq_true h10)]
        · cases b3
          simp -implicitDefEqProofs -dsimp only [go_sem, (eq_false h1), (eq_true h4), h6, h7, h8, (eq_false h10)]
          refine next_of gb3 ?_
          simp -implicitDefEqProofs -dsimp only [go_sem, (eq_false h1), (eq_true h4), h6, h7, h8, (eq_false h10)]
      · cases b3
        have e12 := (done_of gb3).symm
        subst e12
        try dsimp only at h
        cases h
        simp -implicitDefEqProofs -dsimp only [go_sem, (eq_false h1), (eq_false h4)]
/- 24 loop.example/g00827/laws.szTieS -/
def hi24 : Hint where
  acts := fun _ => []
  draws := fun
    | _ => ⟨.nil, [], []⟩
theorem hi24a (i : Nat) : hi24.acts i = [] := rfl
theorem hi24v (i : Nat) : hi24.views i = none := rfl
attribute [go_sem] hi24a hi24v Go.Proofs.Tryz.ntmps24 Go.Proofs.Tryz.results24
theorem c_laws_szTieS {a : List GTie} {left : Int} {res : Int} (h : m_laws_szTieS a left = some res) : CallOk Go.Proofs.Tryz.prog 24 [.sl (rowsOf GTie.enc a), .lit (.int .i64 left)] [] (.lit (.int .i64 res)) [] := by
  refine callOk_of (ra := []) (md := mdT) hT (hi := hi24) Go.Proofs.Tryz.func24 rfl rfl (by decide +kernel) (by simp) ?_
  unfold m_laws_szTieS at h
  rcases ite_some h with ⟨h1, h⟩ | ⟨h1, h⟩
  · cases h
    simp -implicitDefEqProofs -dsimp only [go_sem, (eq_true h1)]
  · cases h
    simp -implicitDefEqProofs -dsimp only [go_sem, (eq_false h1)]
/- 5 loop.example/g00827/laws.szShow -/
def hi5 : Hint where
  acts := fun _ => []
  draws := fun
    | _ => ⟨.nil, [], []⟩
theorem hi5a (i : Nat) : hi5.acts i = [] := rfl
theorem hi5v (i : Nat) : hi5.views i = none := rfl
attribute [go_sem] hi5a hi5v Go.Proofs.Tryz.ntmps5 Go.Proofs.Tryz.results5
theorem c_laws_szShow {a : GShow} {left : Int} {res : Int} (h : m_laws_szShow a left = some res) : CallOk Go.Proofs.Tryz.prog 5 [.agg [.sl (rowsOf GNode.encS a.nodes), .sl (rowsOf GTie.enc a.ties), .lit (.int .i64 a.horizon)], .lit (.int .i64 left)] [] (.lit (.int .i64 res)) [] := by
  refine callOk_of (ra := []) (md := mdT) hT (hi := hi5) Go.Proofs.Tryz.func5 rfl rfl (by decide +kernel) (by simp) ?_
  unfold m_laws_szShow at h
  obtain ⟨r1001, g1, h⟩ := obnd_some h
  simp -implicitDefEqProofs -dsimp only [go_sem]
  refine callW_of (c_laws_szNodeS g1) ?_
  rcases ite_some h with ⟨h2, h⟩ | ⟨h2, h⟩
  · cases h
    simp -implicitDefEqProofs -dsimp only [go_sem, (eq_true h2)]
  · obtain ⟨r1002, g3, h⟩ := obnd_some h
    simp -implicitDefEqProofs -dsimp only [go_sem, (eq_false h2)]
    refine callW_of (c_laws_szTieS g3) ?_
    rcases ite_some h with ⟨h4, h⟩ | ⟨h4, h⟩
    · cases h
      simp -implicitDefEqProofs -dsimp only [go_sem, (eq_false h2), (eq_true h4)]
    · cases h
      simp -implicitDefEqProofs -dsimp only [go_sem, (eq_false h2), (eq_false h4)]
/- 41 loop.example/g00827/laws.szState -/
def hi41 : Hint where
  acts := fun _ => []
  draws := fun
    | _ => ⟨.nil, [], []⟩
theorem hi41a (i : Nat) : hi41.acts i = [] := rfl
theorem hi41v (i : Nat) : hi41.views i = none := rfl
attribute [go_sem] hi41a hi41v Go.Proofs.Tryz.ntmps41 Go.Proofs.Tryz.results41
theorem c_laws_szState {a : GState} {left : Int} {res : Int} (h : m_laws_szState a left = some res) : CallOk Go.Proofs.Tryz.prog 41 [.agg [.lit (.int .i64 a.now), .sl (rowsOf eI a.times), .sl (rowsOf eI a.values)], .lit (.int .i64 left)] [] (.lit (.int .i64 res)) [] := by
  refine callOk_of (ra := []) (md := mdT) hT (hi := hi41) Go.Proofs.Tryz.func41 rfl rfl (by decide +kernel) (by simp) ?_
  unfold m_laws_szState at h
  obtain ⟨r1001, g1, h⟩ := obnd_some h
  simp -implicitDefEqProofs -dsimp only [go_sem]
  refine callW_of (c_laws_szIntS g1) ?_
  rcases ite_some h with ⟨h2, h⟩ | ⟨h2, h⟩
  · cases h
    simp -implicitDefEqProofs -dsimp only [go_sem, (eq_true h2)]
  · obtain ⟨r1002, g3, h⟩ := obnd_some h
    simp -implicitDefEqProofs -dsimp only [go_sem, (eq_false h2)]
    refine callW_of (c_laws_szIntS g3) ?_
    rcases ite_some h with ⟨h4, h⟩ | ⟨h4, h⟩
    · cases h
      simp -implicitDefEqProofs -dsimp only [go_sem, (eq_false h2), (eq_true h4)]
    · cases h
      simp -implicitDefEqProofs -dsimp only [go_sem, (eq_false h2), (eq_false h4)]
/- 25 loop.example/g00827/laws.szEntry -/
def hi25 : Hint where
  acts := fun _ => []
  draws := fun
    | _ => ⟨.nil, [], []⟩
theorem hi25a (i : Nat) : hi25.acts i = [] := rfl
theorem hi25v (i : Nat) : hi25.views i = none := rfl
attribute [go_sem] hi25a hi25v Go.Proofs.Tryz.ntmps25 Go.Proofs.Tryz.results25
theorem c_laws_szEntry {a : GEntry} {left : Int} {res : Int} (h : m_laws_szEntry a left = some res) : CallOk Go.Proofs.Tryz.prog 25 [.agg [.lit (.int .i64 a.now), .sl (rowsOf eI a.ties), .sl (rowsOf eI a.nodes), .sl (rowsOf eI a.values)], .lit (.int .i64 left)] [] (.lit (.int .i64 res)) [] := by
  refine callOk_of (ra := []) (md := mdT) hT (hi := hi25) Go.Proofs.Tryz.func25 rfl rfl (by decide +kernel) (by simp) ?_
  unfold m_laws_szEntry at h
  obtain ⟨r1001, g1, h⟩ := obnd_some h
  simp -implicitDefEqProofs -dsimp only [go_sem]
  refine callW_of (c_laws_szIntS g1) ?_
  rcases ite_some h with ⟨h2, h⟩ | ⟨h2, h⟩
  · cases h
    simp -implicitDefEqProofs -dsimp only [go_sem, (eq_true h2)]
  · obtain ⟨r1002, g3, h⟩ := obnd_some h
    simp -implicitDefEqProofs -dsimp only [go_sem, (eq_false h2)]
    refine callW_of (c_laws_szIntS g3) ?_
    rcases ite_some h with ⟨h4, h⟩ | ⟨h4, h⟩
    · cases h
      simp -implicitDefEqProofs -dsimp only [go_sem, (eq_false h2), (eq_true h4)]
    · obtain ⟨r1003, g5, h⟩ := obnd_some h
      simp -implicitDefEqProofs -dsimp only [go_sem, (eq_false h2), (eq_false h4)]
      refine callW_of (c_laws_szIntS g5) ?_
      rcases ite_some h with ⟨h6, h⟩ | ⟨h6, h⟩
      · cases h
        simp -implicitDefEqProofs -dsimp only [go_sem, (eq_false h2), (eq_false h4), (eq_true h6)]
      · cases h
        simp -implicitDefEqProofs -dsimp only [go_sem, (eq_false h2), (eq_false h4), (eq_false h6)]
/- 6 loop.example/g00827/laws.szEntryS -/
def m_laws_szEntryS_L1_St (a : List GEntry) : (Int × Int) → St
  | (left, i) => ⟨[(0, .sl (rowsOf GEntry.encS a)), (1, .lit (.int .i64 left)), (5, .lit (.int .i64 i))], [], 2⟩
attribute [go_sem] m_laws_szEntryS_L1_St
def hi6 : Hint where
  acts := fun _ => []
  draws := fun
    | _ => ⟨.nil, [], []⟩
theorem hi6a (i : Nat) : hi6.acts i = [] := rfl
theorem hi6v (i : Nat) : hi6.views i = none := rfl
attribute [go_sem] hi6a hi6v Go.Proofs.Tryz.ntmps6 Go.Proofs.Tryz.results6
theorem c_laws_szEntryS {a : List GEntry} {left : Int} {res : Int} (h : m_laws_szEntryS a left = some res) : CallOk Go.Proofs.Tryz.prog 6 [.sl (rowsOf GEntry.encS a), .lit (.int .i64 left)] [] (.lit (.int .i64 res)) [] := by
  refine callOk_of (ra := []) (md := mdT) hT (hi := hi6) Go.Proofs.Tryz.func6 rfl rfl (by decide +kernel) (by simp) ?_
  unfold m_laws_szEntryS at h
  rcases ite_some h with ⟨h1, h⟩ | ⟨h1, h⟩
  · cases h
    simp -implicitDefEqProofs -dsimp only [go_sem, (eq_true h1)]
  · obtain ⟨q1003, l2, h⟩ := obnd_some h
    simp -implicitDefEqProofs -dsimp only [go_sem, (eq_false h1)]
    refine loopW_loopO (m1 := .mk) (m2 := .mk) [.nf [0, 1, 5] []] (m_laws_szEntryS_L1_St a) l2 ?_ ?_
    · simp -implicitDefEqProofs -dsimp only [go_sem, (eq_false h1)]
    · intro nb3 sb3 bb3 b3 gb3
      obtain ⟨left_1, i_1⟩ := sb3
      unfold m_laws_szEntryS_L1 at b3
      try dsimp only at b3
      rcases ite_some b3 with ⟨h4, b3⟩ | ⟨h4, b3⟩
      · obtain ⟨x1001, g5, b3⟩ := obnd_some b3
        obtain ⟨h6, h7, h8⟩ := getI_some g5
        obtain ⟨r1002, g9, b3⟩ := obnd_some b3
        simp -implicitDefEqProofs -dsimp only [go_sem, (eq_false h1), (eq_true h4), h6, h7, h8]
        refine callW_of (c_laws_szEntry g9) ?_
        rcases ite_some b3 with ⟨h10, b3⟩ | ⟨h10, b3⟩
        · cases b3
          have e11 := (done_of gb3).symm
          subst e11
          try dsimp only at h
          cases h
          simp -implicitDefEqProofs -dsimp only [go_sem, (eq_false h1), (eq_true h4), h6, h7, h8, (eq_true h10)]
        · cases b3
          simp -implicitDefEqProofs -dsimp only [go_sem, (eq_false h1), (eq_true h4), h6, h7, h8, (eq_false h10)]
          refine next_of gb3 ?_
          simp -implicitDefEqProofs -dsimp only [go_sem, (eq_false h1), (eq_true h4), h6, h7, h8, (eq_false h10)]
      · cases b3
        have e12 := (done_of gb3).symm
        subst e12
        try dsimp only at h
        cases h
        simp -implicitDefEqProofs -dsimp only [go_sem, (eq_false h1), (eq_false h4)]
/- 18 loop.example/g00827/laws.szDesk -/
def hi18 : Hint where
  acts := fun _ => []
  draws := fun
    | _ => ⟨.nil, [], []⟩
theorem hi18a (i : Nat) : hi18.acts i = [] := rfl
theorem hi18v (i : Nat) : hi18.views i = none := rfl
attribute [go_sem] hi18a hi18v Go.Proofs.Tryz.ntmps18 Go.Proofs.Tryz.results18
theorem c_laws_szDesk {a : GDesk} {left : Int} {res : Int} (h : m_laws_szDesk a left = some res) : CallOk Go.Proofs.Tryz.prog 18 [.agg [.sl (rowsOf GNode.encS a.show_.nodes), .sl (rowsOf GTie.enc a.show_.ties), .lit (.int .i64 a.show_.horizon), .lit (.int .i64 a.state.now), .sl (rowsOf eI a.state.times), .sl (rowsOf eI a.state.values), .lit (.bool a.lazy), .sl (rowsOf GEntry.encS a.log)], .lit (.int .i64 left)] [] (.lit (.int .i64 res)) [] := by
  refine callOk_of (ra := []) (md := mdT) hT (hi := hi18) Go.Proofs.Tryz.func18 rfl rfl (by decide +kernel) (by simp) ?_
  unfold m_laws_szDesk at h
  obtain ⟨r1001, g1, h⟩ := obnd_some h
  simp -implicitDefEqProofs -dsimp only [go_sem]
  refine callW_of (c_laws_szShow g1) ?_
  rcases ite_some h with ⟨h2, h⟩ | ⟨h2, h⟩
  · cases h
    simp -implicitDefEqProofs -dsimp only [go_sem, (eq_true h2)]
  · obtain ⟨r1002, g3, h⟩ := obnd_some h
    simp -implicitDefEqProofs -dsimp only [go_sem, (eq_false h2)]
    refine callW_of (c_laws_szState g3) ?_
    rcases ite_some h with ⟨h4, h⟩ | ⟨h4, h⟩
    · cases h
      simp -implicitDefEqProofs -dsimp only [go_sem, (eq_false h2), (eq_true h4)]
    · obtain ⟨r1003, g5, h⟩ := obnd_some h
      simp -implicitDefEqProofs -dsimp only [go_sem, (eq_false h2), (eq_false h4)]
      refine callW_of (c_laws_szEntryS g5) ?_
      rcases ite_some h with ⟨h6, h⟩ | ⟨h6, h⟩
      · cases h
        simp -implicitDefEqProofs -dsimp only [go_sem, (eq_false h2), (eq_false h4), (eq_true h6)]
      · cases h
        simp -implicitDefEqProofs -dsimp only [go_sem, (eq_false h2), (eq_false h4), (eq_false h6)]
/- 54 loop.example/g00827/laws.toIntS -/
def m_laws_toIntS_L1_St (a : List Int) : (Int × (List Int)) → St
  | (i, out) => ⟨[(0, .sl (rowsOf eI a)), (3, .ref 448 1 0 out.length), (4, .lit (.int .i64 i))], [(448, 1, .row true (rowsOf eI out))], 2⟩
attribute [go_sem] m_laws_toIntS_L1_St
def hi54 : Hint where
  acts := fun _ => []
  draws := fun
    | _ => ⟨.nil, [], []⟩
theorem hi54a (i : Nat) : hi54.acts i = [] := rfl
theorem hi54v (i : Nat) : hi54.views i = none := rfl
attribute [go_sem] hi54a hi54v Go.Proofs.Tryz.ntmps54 Go.Proofs.Tryz.results54
theorem c_laws_toIntS {a : List Int} {res : List Int} (h : m_laws_toIntS a = some res) : CallOk Go.Proofs.Tryz.prog 54 [.sl (rowsOf eI a)] [] (.ref 20000 1 0 res.length) [(20000, 1, .row true (rowsOf eI res))] := by
  refine callOk_of (ra := [.home 2]) (md := mdT) hT (hi := hi54) Go.Proofs.Tryz.func54 rfl rfl (by decide +kernel) (by simp) ?_
  unfold m_laws_toIntS at h
  obtain ⟨h1, h⟩ := chk_some h
  obtain ⟨h2, h⟩ := chk_some h
  obtain ⟨q1003, l3, h⟩ := obnd_some h
  simp -implicitDefEqProofs -dsimp only [go_sem, (eq_true h1), (eq_true h2)]
  refine loopW_loopO (m1 := .mk) (m2 := .mk) [.nf [0, 3, 4] [448]] (m_laws_toIntS_L1_St a) l3 ?_ ?_
  · simp -implicitDefEqProofs -dsimp only [go_sem, (eq_true h1), (eq_true h2)]
  · intro nb4 sb4 bb4 b4 gb4
    obtain ⟨i_1, out_1⟩ := sb4
    unfold m_laws_toIntS_L1 at b4
    try dsimp only at b4
    rcases ite_some b4 with ⟨h5, b4⟩ | ⟨h5, b4⟩
    · obtain ⟨x1001, g6, b4⟩ := obnd_some b4
      obtain ⟨h7, h8, h9⟩ := getI_some g6
      obtain ⟨x1002, g10, b4⟩ := obnd_some b4
      obtain ⟨h11, h12, h13⟩ := getI_some g10
      cases b4
      simp -implicitDefEqProofs -dsimp only [go_sem, (eq_true h1), (eq_true h2), (eq_true h5), h7, h8, h9, h11, h12, h13]
      refine next_of gb4 ?_
      simp -implicitDefEqProofs -dsimp only [go_sem, (eq_true h1), (eq_true h2), (eq_true h5), h7, h8, h9, h11, h12, h13]
    · cases b4
      have e14 := (done_of gb4).symm
      subst e14
      try dsimp only at h
      cases h
      simp -implicitDefEqProofs -dsimp only [go_sem, (eq_true h1), (eq_true h2), (eq_false h5)]
/- 52 loop.example/g00827/laws.toNode -/
def hi52 : Hint where
  acts := fun _ => []
  draws := fun
    | _ => ⟨.nil, [], []⟩
theorem hi52a (i : Nat) : hi52.acts i = [] := rfl
theorem hi52v (i : Nat) : hi52.views i = none := rfl
attribute [go_sem] hi52a hi52v Go.Proofs.Tryz.ntmps52 Go.Proofs.Tryz.results52
theorem c_laws_toNode {a : GNode} {res : GNode} (h : m_laws_toNode a = some res) : CallOk Go.Proofs.Tryz.prog 52 [.agg [.lit (.string a.name), .sl (rowsOf eI a.label), .lit (.int .i64 a.watch)]] [] (.agg [.lit (.string res.name), .ref 20000 1 0 res.label.length, .lit (.int .i64 res.watch)]) [(20000, 1, .row true (rowsOf eI res.label))] := by
  refine callOk_of (ra := [.homeCell 128 1]) (md := mdT) hT (hi := hi52) Go.Proofs.Tryz.func52 rfl rfl (by decide +kernel) (by simp) ?_
  unfold m_laws_toNode at h
  obtain ⟨r1001, g1, h⟩ := obnd_some h
  simp -implicitDefEqProofs -dsimp only [go_sem]
  refine callW_of (c_laws_toIntS g1) ?_
  cases h
  simp -implicitDefEqProofs -dsimp only [go_sem]
/- 27 loop.example/g00827/laws.toNodeS -/
def m_laws_toNodeS_L1_St (a : List GNode) : (Int × (List GNode)) → St
  | (i, out) => ⟨[(0, .sl (rowsOf GNode.encS a)), (3, .ref 448 1 0 out.length), (4, .lit (.int .i64 i))], [(448, 1, .row true (rowsOf GNode.encO out))], 2⟩
attribute [go_sem] m_laws_toNodeS_L1_St
def hi27 : Hint where
  acts := fun _ => []
  draws := fun
    | _ => ⟨.nil, [], []⟩
theorem hi27a (i : Nat) : hi27.acts i = [] := rfl
theorem hi27v (i : Nat) : hi27.views i = none := rfl
attribute [go_sem] hi27a hi27v Go.Proofs.Tryz.ntmps27 Go.Proofs.Tryz.results27
theorem c_laws_toNodeS {a : List GNode} {res : List GNode} (h : m_laws_toNodeS a = some res) : CallOk Go.Proofs.Tryz.prog 27 [.sl (rowsOf GNode.encS a)] [] (.ref 20000 1 0 res.length) [(20000, 1, .row true (rowsOf GNode.encO res))] := by
  refine callOk_of (ra := [.home 2]) (md := mdT) hT (hi := hi27) Go.Proofs.Tryz.func27 rfl rfl (by decide +kernel) (by simp) ?_
  unfold m_laws_toNodeS at h
  obtain ⟨h1, h⟩ := chk_some h
  obtain ⟨h2, h⟩ := chk_some h
  obtain ⟨q1004, l3, h⟩ := obnd_some h
  simp -implicitDefEqProofs -dsimp only [go_sem, (eq_true h1), (eq_true h2)]
  refine loopW_loopO (m1 := .mk) (m2 := .mk) [.nf [0, 3, 4] [448]] (m_laws_toNodeS_L1_St a) l3 ?_ ?_
  · simp -implicitDefEqProofs -dsimp only [go_sem, (eq_true h1), (eq_true h2)]
  · intro nb4 sb4 bb4 b4 gb4
    obtain ⟨i_1, out_1⟩ := sb4
    unfold m_laws_toNodeS_L1 at b4
    try dsimp only at b4
    rcases ite_some b4 with ⟨h5, b4⟩ | ⟨h5, b4⟩
    · obtain ⟨x1001, g6, b4⟩ := obnd_some b4
      obtain ⟨h7, h8, h9⟩ := getI_some g6
      obtain ⟨r1002, g10, b4⟩ := obnd_some b4
      simp -implicitDefEqProofs -dsimp only [go_sem, (eq_true h1), (eq_true h2), (eq_true h5), h7, h8, h9]
      refine callW_of (c_laws_toNode g10) ?_
      obtain ⟨x1003, g11, b4⟩ := obnd_some b4
      obtain ⟨h12, h13, h14⟩ := getI_some g11
      cases b4
      simp -implicitDefEqProofs -dsimp only [go_sem, (eq_true h1), (eq_true h2), (eq_true h5), h7, h8, h9, h12, h13, h14]
      refine next_of gb4 ?_
      simp -implicitDefEqProofs -dsimp only [go_sem, (eq_true h1), (eq_true h2), (eq_true h5), h7, h8, h9, h12, h13, h14]
    · cases b4
      have e15 := (done_of gb4).symm
      subst e15
      try dsimp only at h
      cases h
      simp -implicitDefEqProofs -dsimp only [go_sem, (eq_true h1), (eq_true h2), (eq_false h5)]
/- 53 loop.example/g00827/laws.toTie -/
def hi53 : Hint where
  acts := fun _ => []
  draws := fun
    | _ => ⟨.nil, [], []⟩
theorem hi53a (i : Nat) : hi53.acts i = [] := rfl
theorem hi53v (i : Nat) : hi53.views i = none := rfl
attribute [go_sem] hi53a hi53v Go.Proofs.Tryz.ntmps53 Go.Proofs.Tryz.results53
theorem c_laws_toTie {a : GTie} {res : GTie} (h : m_laws_toTie a = some res) : CallOk Go.Proofs.Tryz.prog 53 [.agg [.lit (.int .i64 a.from_), .lit (.int .i64 a.to), .lit (.int .i64 a.low), .lit (.int .i64 a.high), .lit (.bool a.free)]] [] (.agg [.lit (.int .i64 res.from_), .lit (.int .i64 res.to), .lit (.int .i64 res.low), .lit (.int .i64 res.high), .lit (.bool res.free)]) [] := by
  refine callOk_of (ra := []) (md := mdT) hT (hi := hi53) Go.Proofs.Tryz.func53 rfl rfl (by decide +kernel) (by simp) ?_
  unfold m_laws_toTie at h
  cases h
  simp -implicitDefEqProofs -dsimp only [go_sem]
/- 28 loop.example/g00827/laws.toTieS -/
def m_laws_toTieS_L1_St (a : List GTie) : (Int × (List GTie)) → St
  | (i, out) => ⟨[(0, .sl (rowsOf GTie.enc a)), (3, .ref 448 1 0 out.length), (4, .lit (.int .i64 i))], [(448, 1, .row true (rowsOf GTie.enc out))], 2⟩
attribute [go_sem] m_laws_toTieS_L1_St
def hi28 : Hint where
  acts := fun _ => []
  draws := fun
    | _ => ⟨.nil, [], []⟩
theorem hi28a (i : Nat) : hi28.acts i = [] := rfl
theorem hi28v (i : Nat) : hi28.views i = none := rfl
attribute [go_sem] hi28a hi28v Go.Proofs.Tryz.ntmps28 Go.Proofs.Tryz.results28
theorem c_laws_toTieS {a : List GTie} {res : List GTie} (h : m_laws_toTieS a = some res) : CallOk Go.Proofs.Tryz.prog 28 [.sl (rowsOf GTie.enc a)] [] (.ref 20000 1 0 res.length) [(20000, 1, .row true (rowsOf GTie.enc res))] := by
  refine callOk_of (ra := [.home 2]) (md := mdT) hT (hi := hi28) Go.Proofs.Tryz.func28 rfl rfl (by decide +kernel) (by simp) ?_
  unfold m_laws_toTieS at h
  obtain ⟨h1, h⟩ := chk_some h
  obtain ⟨h2, h⟩ := chk_some h
  obtain ⟨q1004, l3, h⟩ := obnd_some h
  simp -implicitDefEqProofs -dsimp only [go_sem, (eq_true h1), (eq_true h2)]
  refine loopW_loopO (m1 := .mk) (m2 := .mk) [.nf [0, 3, 4] [448]] (m_laws_toTieS_L1_St a) l3 ?_ ?_
  · simp -implicitDefEqProofs -dsimp only [go_sem, (eq_true h1), (eq_true h2)]
  · intro nb4 sb4 bb4 b4 gb4
    obtain ⟨i_1, out_1⟩ := sb4
    unfold m_laws_toTieS_L1 at b4
    try dsimp only at b4
    rcases ite_some b4 with ⟨h5, b4⟩ | ⟨h5, b4⟩
    · obtain ⟨x1001, g6, b4⟩ := obnd_some b4
      obtain ⟨h7, h8, h9⟩ := getI_some g6
      obtain ⟨r1002, g10, b4⟩ := obnd_some b4
      simp -implicitDefEqProofs -dsimp only [go_sem, (eq_true h1), (eq_true h2), (eq_true h5), h7, h8, h9]
      refine callW_of (c_laws_toTie g10) ?_
      obtain ⟨x1003, g11, b4⟩ := obnd_some b4
      obtain ⟨h12, h13, h14⟩ := getI_some g11
      cases b4
      simp -implicitDefEqProofs -dsimp only [go_sem, (eq_true h1), (eq_true h2), (eq_true h5), h7, h8, h9, h12, h13, h14]
      refine next_of gb4 ?_
      simp -implicitDefEqProofs -dsimp only [go_sem, (eq_true h1), (eq_true h2), (eq_true h5), h7, h8, h9, h12, h13, h14]
    · cases b4
      have e15 := (done_of gb4).symm
      subst e15
      try dsimp only at h
      cases h
      simp -implicitDefEqProofs -dsimp only [go_sem, (eq_true h1), (eq_true h2), (eq_false h5)]
/- 8 loop.example/g00827/laws.toShow -/
def hi8 : Hint where
  acts := fun _ => []
  draws := fun
    | _ => ⟨.nil, [], []⟩
theorem hi8a (i : Nat) : hi8.acts i = [] := rfl
theorem hi8v (i : Nat) : hi8.views i = none := rfl
attribute [go_sem] hi8a hi8v Go.Proofs.Tryz.ntmps8 Go.Proofs.Tryz.results8
theorem c_laws_toShow {a : GShow} {res : GShow} (h : m_laws_toShow a = some res) : CallOk Go.Proofs.Tryz.prog 8 [.agg [.sl (rowsOf GNode.encS a.nodes), .sl (rowsOf GTie.enc a.ties), .lit (.int .i64 a.horizon)]] [] (.agg [.ref 20000 1 0 res.nodes.length, .ref 20001 1 0 res.ties.length, .lit (.int .i64 res.horizon)]) [(20000, 1, .row true (rowsOf GNode.encO res.nodes)), (20001, 1, .row true (rowsOf GTie.enc res.ties))] := by
  refine callOk_of (ra := [.homeCell 128 0, .homeCell 128 1]) (md := mdT) hT (hi := hi8) Go.Proofs.Tryz.func8 rfl rfl (by decide +kernel) (by simp) ?_
  unfold m_laws_toShow at h
  obtain ⟨r1001, g1, h⟩ := obnd_some h
  simp -implicitDefEqProofs -dsimp only [go_sem]
  refine callW_of (c_laws_toNodeS g1) ?_
  obtain ⟨r1002, g2, h⟩ := obnd_some h
  simp -implicitDefEqProofs -dsimp only [go_sem]
  refine callW_of (c_laws_toTieS g2) ?_
  cases h
  simp -implicitDefEqProofs -dsimp only [go_sem]
/- 44 loop.example/g00827/laws.toState -/
def hi44 : Hint where
  acts := fun _ => []
  draws := fun
    | _ => ⟨.nil, [], []⟩
theorem hi44a (i : Nat) : hi44.acts i = [] := rfl
theorem hi44v (i : Nat) : hi44.views i = none := rfl
attribute [go_sem] hi44a hi44v Go.Proofs.Tryz.ntmps44 Go.Proofs.Tryz.results44
theorem c_laws_toState {a : GState} {res : GState} (h : m_laws_toState a = some res) : CallOk Go.Proofs.Tryz.prog 44 [.agg [.lit (.int .i64 a.now), .sl (rowsOf eI a.times), .sl (rowsOf eI a.values)]] [] (.agg [.lit (.int .i64 res.now), .ref 20000 1 0 res.times.length, .ref 20001 1 0 res.values.length]) [(20000, 1, .row true (rowsOf eI res.times)), (20001, 1, .row true (rowsOf eI res.values))] := by
  refine callOk_of (ra := [.homeCell 128 1, .homeCell 128 2]) (md := mdT) hT (hi := hi44) Go.Proofs.Tryz.func44 rfl rfl (by decide +kernel) (by simp) ?_
  unfold m_laws_toState at h
  obtain ⟨r1001, g1, h⟩ := obnd_some h
  simp -implicitDefEqProofs -dsimp only [go_sem]
  refine callW_of (c_laws_toIntS g1) ?_
  obtain ⟨r1002, g2, h⟩ := obnd_some h
  simp -implicitDefEqProofs -dsimp only [go_sem]
  refine callW_of (c_laws_toIntS g2) ?_
  cases h
  simp -implicitDefEqProofs -dsimp only [go_sem]
/- 29 loop.example/g00827/laws.toEntry -/
def hi29 : Hint where
  acts := fun _ => []
  draws := fun
    | _ => ⟨.nil, [], []⟩
theorem hi29a (i : Nat) : hi29.acts i = [] := rfl
theorem hi29v (i : Nat) : hi29.views i = none := rfl
attribute [go_sem] hi29a hi29v Go.Proofs.Tryz.ntmps29 Go.Proofs.Tryz.results29
theorem c_laws_toEntry {a : GEntry} {res : GEntry} (h : m_laws_toEntry a = some res) : CallOk Go.Proofs.Tryz.prog 29 [.agg [.lit (.int .i64 a.now), .sl (rowsOf eI a.ties), .sl (rowsOf eI a.nodes), .sl (rowsOf eI a.values)]] [] (.agg [.lit (.int .i64 res.now), .ref 20000 1 0 res.ties.length, .ref 20001 1 0 res.nodes.length, .ref 20002 1 0 res.values.length]) [(20000, 1, .row true (rowsOf eI res.ties)), (20001, 1, .row true (rowsOf eI res.nodes)), (20002, 1, .row true (rowsOf eI res.values))] := by
  refine callOk_of (ra := [.homeCell 128 1, .homeCell 128 2, .homeCell 128 3]) (md := mdT) hT (hi := hi29) Go.Proofs.Tryz.func29 rfl rfl (by decide +kernel) (by simp) ?_
  unfold m_laws_toEntry at h
  obtain ⟨r1001, g1, h⟩ := obnd_some h
  simp -implicitDefEqProofs -dsimp only [go_sem]
  refine callW_of (c_laws_toIntS g1) ?_
  obtain ⟨r1002, g2, h⟩ := obnd_some h
  simp -implicitDefEqProofs -dsimp only [go_sem]
  refine callW_of (c_laws_toIntS g2) ?_
  obtain ⟨r1003, g3, h⟩ := obnd_some h
  simp -implicitDefEqProofs -dsimp only [go_sem]
  refine callW_of (c_laws_toIntS g3) ?_
  cases h
  simp -implicitDefEqProofs -dsimp only [go_sem]
/- 9 loop.example/g00827/laws.toEntryS -/
def m_laws_toEntryS_L1_St (a : List GEntry) : (Int × (List GEntry)) → St
  | (i, out) => ⟨[(0, .sl (rowsOf GEntry.encS a)), (3, .ref 448 1 0 out.length), (4, .lit (.int .i64 i))], [(448, 1, .row true (rowsOf GEntry.encO out))], 2⟩
attribute [go_sem] m_laws_toEntryS_L1_St
def hi9 : Hint where
  acts := fun _ => []
  draws := fun
    | _ => ⟨.nil, [], []⟩
theorem hi9a (i : Nat) : hi9.acts i = [] := rfl
theorem hi9v (i : Nat) : hi9.views i = none := rfl
attribute [go_sem] hi9a hi9v Go.Proofs.Tryz.ntmps9 Go.Proofs.Tryz.results9
theorem c_laws_toEntryS {a : List GEntry} {res : List GEntry} (h : m_laws_toEntryS a = some res) : CallOk Go.Proofs.Tryz.prog 9 [.sl (rowsOf GEntry.encS a)] [] (.ref 20000 1 0 res.length) [(20000, 1, .row true (rowsOf GEntry.encO res))] := by
  refine callOk_of (ra := [.home 2]) (md := mdT) hT (hi := hi9) Go.Proofs.Tryz.func9 rfl rfl (by decide +kernel) (by simp) ?_
  unfold m_laws_toEntryS at h
  obtain ⟨h1, h⟩ := chk_some h
  obtain ⟨h2, h⟩ := chk_some h
  obtain ⟨q1004, l3, h⟩ := obnd_some h
  simp -implicitDefEqProofs -dsimp only [go_sem, (eq_true h1), (eq_true h2)]
  refine loopW_loopO (m1 := .mk) (m2 := .mk) [.nf [0, 3, 4] [448]] (m_laws_toEntryS_L1_St a) l3 ?_ ?_
  · simp -implicitDefEqProofs -dsimp only [go_sem, (eq_true h1), (eq_true h2)]
  · intro nb4 sb4 bb4 b4 gb4
    obtain ⟨i_1, out_1⟩ := sb4
    unfold m_laws_toEntryS_L1 at b4
    try dsimp only at b4
    rcases ite_some b4 with ⟨h5, b4⟩ | ⟨h5, b4⟩
    · obtain ⟨x1001, g6, b4⟩ := obnd_some b4
      obtain ⟨h7, h8, h9⟩ := getI_some g6
      obtain ⟨r1002, g10, b4⟩ := obnd_some b4
      simp -implicitDefEqProofs -dsimp only [go_sem, (eq_true h1), (eq_true h2), (eq_true h5), h7, h8, h9]
      refine callW_of (c_laws_toEntry g10) ?_
      obtain ⟨x1003, g11, b4⟩ := obnd_some b4
      obtain ⟨h12, h13, h14⟩ := getI_some g11
      cases b4
      simp -implicitDefEqProofs -dsimp only [go_sem, (eq_true h1), (eq_true h2), (eq_true h5), h7, h8, h9, h12, h13, h14]
      refine next_of gb4 ?_
      simp -implicitDefEqProofs -dsimp only [go_sem, (eq_true h1), (eq_true h2), (eq_true h5), h7, h8, h9, h12, h13, h14]
    · cases b4
      have e15 := (done_of gb4).symm
      subst e15
      try dsimp only at h
      cases h
      simp -implicitDefEqProofs -dsimp only [go_sem, (eq_true h1), (eq_true h2), (eq_false h5)]
/- 20 loop.example/g00827/laws.toDesk -/
def hi20 : Hint where
  acts := fun _ => []
  draws := fun
    | _ => ⟨.nil, [], []⟩
theorem hi20a (i : Nat) : hi20.acts i = [] := rfl
theorem hi20v (i : Nat) : hi20.views i = none := rfl
attribute [go_sem] hi20a hi20v Go.Proofs.Tryz.ntmps20 Go.Proofs.Tryz.results20
theorem c_laws_toDesk {a : GDesk} {res : GDesk} (h : m_laws_toDesk a = some res) : CallOk Go.Proofs.Tryz.prog 20 [.agg [.sl (rowsOf GNode.encS a.show_.nodes), .sl (rowsOf GTie.enc a.show_.ties), .lit (.int .i64 a.show_.horizon), .lit (.int .i64 a.state.now), .sl (rowsOf eI a.state.times), .sl (rowsOf eI a.state.values), .lit (.bool a.lazy), .sl (rowsOf GEntry.encS a.log)]] [] (.agg [.ref 20000 1 0 res.show_.nodes.length, .ref 20001 1 0 res.show_.ties.length, .lit (.int .i64 res.show_.horizon), .lit (.int .i64 res.state.now), .ref 20002 1 0 res.state.times.length, .ref 20003 1 0 res.state.values.length, .lit (.bool res.lazy), .ref 20004 1 0 res.log.length]) [(20000, 1, .row true (rowsOf GNode.encO res.show_.nodes)), (20001, 1, .row true (rowsOf GTie.enc res.show_.ties)), (20002, 1, .row true (rowsOf eI res.state.times)), (20003, 1, .row true (rowsOf eI res.state.values)), (20004, 1, .row true (rowsOf GEntry.encO res.log))] := by
  refine callOk_of (ra := [.homeCell 128 0, .homeCell 128 1, .homeCell 128 4, .homeCell 128 5, .homeCell 128 7]) (md := mdT) hT (hi := hi20) Go.Proofs.Tryz.func20 rfl rfl (by decide +kernel) (by simp) ?_
  unfold m_laws_toDesk at h
  obtain ⟨r1001, g1, h⟩ := obnd_some h
  simp -implicitDefEqProofs -dsimp only [go_sem]
  refine callW_of (c_laws_toShow g1) ?_
  obtain ⟨r1002, g2, h⟩ := obnd_some h
  simp -implicitDefEqProofs -dsimp only [go_sem]
  refine callW_of (c_laws_toState g2) ?_
  obtain ⟨r1003, g3, h⟩ := obnd_some h
  simp -implicitDefEqProofs -dsimp only [go_sem]
  refine callW_of (c_laws_toEntryS g3) ?_
  cases h
  simp -implicitDefEqProofs -dsimp only [go_sem]
/- 73 loop.example/g00827/spec.l01In -/
def hi73 : Hint where
  acts := fun _ => []
  draws := fun
    | _ => ⟨.nil, [], []⟩
theorem hi73a (i : Nat) : hi73.acts i = [] := rfl
theorem hi73v (i : Nat) : hi73.views i = none := rfl
attribute [go_sem] hi73a hi73v Go.Proofs.Tryz.ntmps73 Go.Proofs.Tryz.results73
theorem c_spec_l01In {n : Int} {lo : Int} {hi : Int} {res : Bool} (h : m_spec_l01In n lo hi = some res) : CallOk Go.Proofs.Tryz.prog 73 [.lit (.int .i64 n), .lit (.int .i64 lo), .lit (.int .i64 hi)] [] (.lit (.bool res)) [] := by
  refine callOk_of (ra := []) (md := mdT) hT (hi := hi73) Go.Proofs.Tryz.func73 rfl rfl (by decide +kernel) (by simp) ?_
  unfold m_spec_l01In at h
  rcases ite_some h with ⟨h1, h⟩ | ⟨h1, h⟩
  · cases h
    simp -implicitDefEqProofs -dsimp only [go_sem, (eq_true h1)]
  · cases h
    simp -implicitDefEqProofs -dsimp only [go_sem, (eq_false h1)]
/- 138 loop.example/g00827/spec.IsName -/
def m_spec_IsName_L1_St (s : ByteArray) (i : Int) : St := ⟨[(0, .lit (.string s)), (3, .lit (.int .i64 i))], [], 2⟩
attribute [go_sem] m_spec_IsName_L1_St
def hi138 : Hint where
  acts := fun _ => []
  draws := fun
    | _ => ⟨.nil, [], []⟩
theorem hi138a (i : Nat) : hi138.acts i = [] := rfl
theorem hi138v (i : Nat) : hi138.views i = none := rfl
attribute [go_sem] hi138a hi138v Go.Proofs.Tryz.ntmps138 Go.Proofs.Tryz.results138
theorem c_spec_IsName {s : ByteArray} {res : Bool} (h : m_spec_IsName s = some res) : CallOk Go.Proofs.Tryz.prog 138 [.lit (.string s)] [] (.lit (.bool res)) [] := by
  refine callOk_of (ra := []) (md := mdT) hT (hi := hi138) Go.Proofs.Tryz.func138 rfl rfl (by decide +kernel) (by simp) ?_
  unfold m_spec_IsName at h
  obtain ⟨q1003, l1, h⟩ := obnd_some h
  simp -implicitDefEqProofs -dsimp only [go_sem]
  refine loopW_loopO (m1 := .mk) (m2 := .mk) [.nf [0, 3] []] (m_spec_IsName_L1_St s) l1 ?_ ?_
  · simp -implicitDefEqProofs -dsimp only [go_sem]
  · intro nb2 sb2 bb2 b2 gb2
    obtain ⟨i_1, eb2⟩ : ∃ v, v = sb2 := ⟨_, rfl⟩; subst eb2
    unfold m_spec_IsName_L1 at b2
    try dsimp only at b2
    rcases ite_some b2 with ⟨h3, b2⟩ | ⟨h3, b2⟩
    · obtain ⟨c1001, g4, b2⟩ := obnd_some b2
      obtain ⟨h5, h6, h7⟩ := getS_some g4
      rcases ite_some b2 with ⟨h8, b2⟩ | ⟨h8, b2⟩
      · rcases ite_some b2 with ⟨h9, b2⟩ | ⟨h9, b2⟩
        · cases b2
          simp -implicitDefEqProofs -dsimp only [go_sem, (eq_true h3), h5, h6, h7, (eq_true h8), (eq_true h9)]
          refine next_of gb2 ?_
          simp -implicitDefEqProofs -dsimp only [go_sem, (eq_true h3), h5, h6, h7, (eq_true h8), (eq_true h9)]
        · rcases ite_some b2 with ⟨h10, b2⟩ | ⟨h10, b2⟩
          · cases b2
            have e11 := (done_of gb2).symm
            subst e11
            try dsimp only at h
            cases h
            simp -implicitDefEqProofs -dsimp only [go_sem, (eq_true h3), h5, h6, h7, (eq_true h8), (eq_false h9), (eq_true h10)]
          · rcases ite_some b2 with ⟨h12, b2⟩ | ⟨h12, b2⟩
            · cases b2
              have e13 := (done_of gb2).symm
              subst e13
              try dsimp only at h
              cases h
              simp -implicitDefEqProofs -dsimp only [go_sem, (eq_true h3), h5, h6, h7, (eq_true h8), (eq_false h9), (eq_false h10), (eq_true h12)]
            · rcases ite_some b2 with ⟨h14, b2⟩ | ⟨h14, b2⟩
              · cases b2
                have e15 := (done_of gb2).symm
                subst e15
                try dsimp only at h
                cases h
                simp -implicitDefEqProofs -dsimp only [go_sem, (eq_true h3), h5, h6, h7, (eq_true h8), (eq_false h9), (eq_false h10), (eq_false h12), (eq_true h14)]
              · cases b2
                simp -implicitDefEqProofs -dsimp only [go_sem, (eq_true h3), h5, h6, h7, (eq_true h8), (eq_false h9), (eq_false h10), (eq_false h12), (eq_false h14)]
                refine next_of gb2 ?_
                simp -implicitDefEqProofs -dsimp only [go_sem, (eq_true h3), h5, h6, h7, (eq_true h8), (eq_false h9), (eq_false h10), (eq_false h12), (eq_false h14)]
      · rcases ite_some b2 with ⟨h16, b2⟩ | ⟨h16, b2⟩
        · cases b2
          have e17 := (done_of gb2).symm
          subst e17
          try dsimp only at h
          cases h
          simp -implicitDefEqProofs -dsimp only [go_sem, (eq_true h3), h5, h6, h7, (eq_false h8), (eq_true h16)]
        · rcases ite_some b2 with ⟨h18, b2⟩ | ⟨h18, b2⟩
          · cases b2
            have e19 := (done_of gb2).symm
            subst e19
            try dsimp only at h
            cases h
            simp -implicitDefEqProofs -dsimp only [go_sem, (eq_true h3), h5, h6, h7, (eq_false h8), (eq_false h16), (eq_true h18)]
          · rcases ite_some b2 with ⟨h20, b2⟩ | ⟨h20, b2⟩
            · cases b2
              have e21 := (done_of gb2).symm
              subst e21
              try dsimp only at h
              cases h
              simp -implicitDefEqProofs -dsimp only [go_sem, (eq_true h3), h5, h6, h7, (eq_false h8), (eq_false h16), (eq_false h18), (eq_true h20)]
            · cases b2
              simp -implicitDefEqProofs -dsimp only [go_sem, (eq_true h3), h5, h6, h7, (eq_false h8), (eq_false h16), (eq_false h18), (eq_false h20)]
              refine next_of gb2 ?_
              simp -implicitDefEqProofs -dsimp only [go_sem, (eq_true h3), h5, h6, h7, (eq_false h8), (eq_false h16), (eq_false h18), (eq_false h20)]
    · cases b2
      have e22 := (done_of gb2).symm
      subst e22
      try dsimp only at h
      obtain ⟨r1002, g23, h⟩ := obnd_some h
      simp -implicitDefEqProofs -dsimp only [go_sem, (eq_false h3)]
      refine callW_of (c_spec_l01In g23) ?_
      cases h
      simp -implicitDefEqProofs -dsimp only [go_sem, (eq_false h3)]
/- 106 loop.example/g00827/spec.l07Prop -/
def hi106 : Hint where
  acts := fun _ => []
  draws := fun
    | _ => ⟨.nil, [], []⟩
theorem hi106a (i : Nat) : hi106.acts i = [] := rfl
theorem hi106v (i : Nat) : hi106.views i = none := rfl
attribute [go_sem] hi106a hi106v Go.Proofs.Tryz.ntmps106 Go.Proofs.Tryz.results106
theorem c_spec_l07Prop {n : Int} {res : Int} (h : m_spec_l07Prop n = some res) : CallOk Go.Proofs.Tryz.prog 106 [.lit (.int .i64 n)] [] (.lit (.int .i64 res)) [] := by
  refine callOk_of (ra := []) (md := mdT) hT (hi := hi106) Go.Proofs.Tryz.func106 rfl rfl (by decide +kernel) (by simp) ?_
  unfold m_spec_l07Prop at h
  rcases ite_some h with ⟨h1, h⟩ | ⟨h1, h⟩
  · cases h
    simp -implicitDefEqProofs -dsimp only [go_sem, (eq_true h1)]
  · cases h
    simp -implicitDefEqProofs -dsimp only [go_sem, (eq_false h1)]
/- 79 loop.example/g00827/spec.LabelOk -/
def m_spec_LabelOk_L1_St (l : List Int) (v6 : Int) (v7 : Int) : St := ⟨[(0, .sl (rowsOf eI l)), (5, .sl (rowsOf eI l)), (6, .lit (.int .i64 v6)), (7, .lit (.int .i64 v7))], [], 2⟩
attribute [go_sem] m_spec_LabelOk_L1_St
def hi79 : Hint where
  acts := fun _ => []
  draws := fun
    | _ => ⟨.nil, [], []⟩
theorem hi79a (i : Nat) : hi79.acts i = [] := rfl
theorem hi79v (i : Nat) : hi79.views i = none := rfl
attribute [go_sem] hi79a hi79v Go.Proofs.Tryz.ntmps79 Go.Proofs.Tryz.results79
theorem c_spec_LabelOk {l : List Int} {res : Bool} (h : m_spec_LabelOk l = some res) : CallOk Go.Proofs.Tryz.prog 79 [.sl (rowsOf eI l)] [] (.lit (.bool res)) [] := by
  refine callOk_of (ra := []) (md := mdT) hT (hi := hi79) Go.Proofs.Tryz.func79 rfl rfl (by decide +kernel) (by simp) ?_
  unfold m_spec_LabelOk at h
  obtain ⟨q1006, l1, h⟩ := obnd_some h
  simp -implicitDefEqProofs -dsimp only [go_sem]
  refine loopW_loopO (m1 := .mk) (m2 := .mk) [.nf [0, 5, 6, 7] []] (m_spec_LabelOk_L1_St l ((l.length : Nat) : Int)) l1 ?_ ?_
  · simp -implicitDefEqProofs -dsimp only [go_sem]
  · intro nb2 sb2 bb2 b2 gb2
    obtain ⟨v7_1, eb2⟩ : ∃ v, v = sb2 := ⟨_, rfl⟩; subst eb2
    unfold m_spec_LabelOk_L1 at b2
    try dsimp only at b2
    rcases ite_some b2 with ⟨h3, b2⟩ | ⟨h3, b2⟩
    · obtain ⟨x1001, g4, b2⟩ := obnd_some b2
      obtain ⟨h5, h6, h7⟩ := getI_some g4
      rcases ite_some b2 with ⟨h8, b2⟩ | ⟨h8, b2⟩
      · cases b2
        have e9 := (done_of gb2).symm
        subst e9
        try dsimp only at h
        cases h
        simp -implicitDefEqProofs -dsimp only [go_sem, (eq_true h3), h5, h6, h7, (eq_true h8)]
      · obtain ⟨r1002, g10, b2⟩ := obnd_some b2
        simp -implicitDefEqProofs -dsimp only [go_sem, (eq_true h3), h5, h6, h7, (eq_false h8)]
        refine callW_of (c_spec_l01In g10) ?_
        rcases ite_some b2 with ⟨h11, b2⟩ | ⟨h11, b2⟩
        · rcases ite_some b2 with ⟨h12, b2⟩ | ⟨h12, b2⟩
          · obtain ⟨x1003, g13, b2⟩ := obnd_some b2
            obtain ⟨h14, h15, h16⟩ := getI_some g13
            obtain ⟨r1004, g17, b2⟩ := obnd_some b2
            simp -implicitDefEqProofs -dsimp only [go_sem, (eq_true h3), h5, h6, h7, (eq_false h8), (eq_true h11), (condZ_t h11), (eq_true h12), h14, h15, h16]
            refine callW_of (c_spec_l07Prop g17) ?_
            obtain ⟨r1005, g18, b2⟩ := obnd_some b2
            simp -implicitDefEqProofs -dsimp only [go_sem, (eq_true h3), h5, h6, h7, (eq_false h8), (eq_true h11), (condZ_t h11), (eq_true h12), h14, h15, h16]
            refine callW_of (c_spec_l07Prop g18) ?_
            rcases ite_some b2 with ⟨h19, b2⟩ | ⟨h19, b2⟩
            · cases b2
              have e20 := (done_of gb2).symm
              subst e20
              try dsimp only at h
              cases h
              simp -implicitDefEqProofs -dsimp only [go_sem, (eq_true h3), h5, h6, h7, (eq_false h8), (eq_true h11), (condZ_t h11), (eq_true h12), h14, h15, h16, (eq_true h19)]
            · cases b2
              simp -implicitDefEqProofs -dsimp only [go_sem, (eq_true h3), h5, h6, h7, (eq_false h8), (eq_true h11), (condZ_t h11), (eq_true h12), h14, h15, h16, (eq_false h19)]
              refine next_of gb2 ?_
              simp -implicitDefEqProofs -dsimp only [go_sem, (eq_true h3), h5, h6, h7, (eq_false h8), (eq_true h11), (condZ_t h11), (eq_true h12), h14, h15, h16, (eq_false h19)]
          · cases b2
            simp -implicitDefEqProofs -dsimp only [go_sem, (eq_true h3), h5, h6, h7, (eq_false h8), (eq_true h11), (condZ_t h11), (eq_false h12)]
            refine next_of gb2 ?_
            simp -implicitDefEqProofs -dsimp only [go_sem, (eq_true h3), h5, h6, h7, (eq_false h8), (eq_true h11), (condZ_t h11), (eq_false h12)]
        · cases b2
          have e21 := (done_of gb2).symm
          subst e21
          try dsimp only at h
          cases h
          simp -implicitDefEqProofs -dsimp only [go_sem, (eq_true h3), h5, h6, h7, (eq_false h8), (eq_false h11), (condZ_f h11)]
    · cases b2
      have e22 := (done_of gb2).symm
      subst e22
      try dsimp only at h
      cases h
      simp -implicitDefEqProofs -dsimp only [go_sem, (eq_false h3)]
/- 110 loop.example/g00827/spec.NodeOk -/
def hi110 : Hint where
  acts := fun _ => []
  draws := fun
    | _ => ⟨.nil, [], []⟩
theorem hi110a (i : Nat) : hi110.acts i = [] := rfl
theorem hi110v (i : Nat) : hi110.views i = none := rfl
attribute [go_sem] hi110a hi110v Go.Proofs.Tryz.ntmps110 Go.Proofs.Tryz.results110
theorem c_spec_NodeOk {n : GNode} {res : Bool} (h : m_spec_NodeOk n = some res) : CallOk Go.Proofs.Tryz.prog 110 [.agg [.lit (.string n.name), .sl (rowsOf eI n.label), .lit (.int .i64 n.watch)]] [] (.lit (.bool res)) [] := by
  refine callOk_of (ra := []) (md := mdT) hT (hi := hi110) Go.Proofs.Tryz.func110 rfl rfl (by decide +kernel) (by simp) ?_
  unfold m_spec_NodeOk at h
  obtain ⟨r1001, g1, h⟩ := obnd_some h
  simp -implicitDefEqProofs -dsimp only [go_sem]
  refine callW_of (c_spec_IsName g1) ?_
  rcases ite_some h with ⟨h2, h⟩ | ⟨h2, h⟩
  · obtain ⟨r1002, g3, h⟩ := obnd_some h
    simp -implicitDefEqProofs -dsimp only [go_sem, (eq_true h2), (condZ_t h2)]
    refine callW_of (c_spec_LabelOk g3) ?_
    rcases ite_some h with ⟨h4, h⟩ | ⟨h4, h⟩
    · obtain ⟨r1003, g5, h⟩ := obnd_some h
      simp -implicitDefEqProofs -dsimp only [go_sem, (eq_true h2), (condZ_t h2), (eq_true h4), (condZ_t h4)]
      refine callW_of (c_spec_l01In g5) ?_
      cases h
      simp -implicitDefEqProofs -dsimp only [go_sem, (eq_true h2), (condZ_t h2), (eq_true h4), (condZ_t h4)]
    · cases h
      simp -implicitDefEqProofs -dsimp only [go_sem, (eq_true h2), (condZ_t h2), (eq_false h4), (condZ_f h4)]
  · cases h
    simp -implicitDefEqProofs -dsimp only [go_sem, (eq_false h2), (condZ_f h2)]
/- 111 loop.example/g00827/spec.NodeNamed -/
def m_spec_NodeNamed_L1_St (name : ByteArray) (v8 : List GNode) (v9 : Int) (v10 : Int) : St := ⟨[(1, .lit (.string name)), (8, .sl (rowsOf GNode.encS v8)), (9, .lit (.int .i64 v9)), (10, .lit (.int .i64 v10))], [], 2⟩
attribute [go_sem] m_spec_NodeNamed_L1_St
def hi111 : Hint where
  acts := fun _ => []
  draws := fun
    | _ => ⟨.nil, [], []⟩
theorem hi111a (i : Nat) : hi111.acts i = [] := rfl
theorem hi111v (i : Nat) : hi111.views i = none := rfl
attribute [go_sem] hi111a hi111v Go.Proofs.Tryz.ntmps111 Go.Proofs.Tryz.results111
theorem c_spec_NodeNamed {s : GShow} {name : ByteArray} {res : Int} (h : m_spec_NodeNamed s name = some res) : CallOk Go.Proofs.Tryz.prog 111 [.agg [.sl (rowsOf GNode.encS s.nodes), .sl (rowsOf GTie.enc s.ties), .lit (.int .i64 s.horizon)], .lit (.string name)] [] (.lit (.int .i64 res)) [] := by
  refine callOk_of (ra := []) (md := mdT) hT (hi := hi111) Go.Proofs.Tryz.func111 rfl rfl (by decide +kernel) (by simp) ?_
  unfold m_spec_NodeNamed at h
  obtain ⟨q1002, l1, h⟩ := obnd_some h
  simp -implicitDefEqProofs -dsimp only [go_sem]
  refine loopW_loopO (m1 := .mk) (m2 := .mk) [.nf [1, 8, 9, 10] []] (m_spec_NodeNamed_L1_St name s.nodes ((s.nodes.length : Nat) : Int)) l1 ?_ ?_
  · simp -implicitDefEqProofs -dsimp only [go_sem]
  · intro nb2 sb2 bb2 b2 gb2
    obtain ⟨v10_1, eb2⟩ : ∃ v, v = sb2 := ⟨_, rfl⟩; subst eb2
    unfold m_spec_NodeNamed_L1 at b2
    try dsimp only at b2
    rcases ite_some b2 with ⟨h3, b2⟩ | ⟨h3, b2⟩
    · obtain ⟨x1001, g4, b2⟩ := obnd_some b2
      obtain ⟨h5, h6, h7⟩ := getI_some g4
      rcases ite_some b2 with ⟨h8, b2⟩ | ⟨h8, b2⟩
      · cases b2
        have e9 := (done_of gb2).symm
        subst e9
        try dsimp only at h
        cases h
        simp -implicitDefEqProofs -dsimp only [go_sem, (eq_true h3), h5, h6, h7, (eq_true h8)]
      · cases b2
        simp -implicitDefEqProofs -dsimp only [go_sem, (eq_true h3), h5, h6, h7, (eq_false h8)]
        refine next_of gb2 ?_
        simp -implicitDefEqProofs -dsimp only [go_sem, (eq_true h3), h5, h6, h7, (eq_false h8)]
    · cases b2
      have e10 := (done_of gb2).symm
      subst e10
      try dsimp only at h
      cases h
      simp -implicitDefEqProofs -dsimp only [go_sem, (eq_false h3)]
/- 75 loop.example/g00827/spec.l08Watcher -/
def m_spec_l08Watcher_L1_St (p : Int) (v8 : List GNode) (v9 : Int) (v10 : Int) : St := ⟨[(1, .lit (.int .i64 p)), (8, .sl (rowsOf GNode.encS v8)), (9, .lit (.int .i64 v9)), (10, .lit (.int .i64 v10))], [], 2⟩
attribute [go_sem] m_spec_l08Watcher_L1_St
def hi75 : Hint where
  acts := fun _ => []
  draws := fun
    | _ => ⟨.nil, [], []⟩
theorem hi75a (i : Nat) : hi75.acts i = [] := rfl
theorem hi75v (i : Nat) : hi75.views i = none := rfl
attribute [go_sem] hi75a hi75v Go.Proofs.Tryz.ntmps75 Go.Proofs.Tryz.results75
theorem c_spec_l08Watcher {s : GShow} {p : Int} {res : Int} (h : m_spec_l08Watcher s p = some res) : CallOk Go.Proofs.Tryz.prog 75 [.agg [.sl (rowsOf GNode.encS s.nodes), .sl (rowsOf GTie.enc s.ties), .lit (.int .i64 s.horizon)], .lit (.int .i64 p)] [] (.lit (.int .i64 res)) [] := by
  refine callOk_of (ra := []) (md := mdT) hT (hi := hi75) Go.Proofs.Tryz.func75 rfl rfl (by decide +kernel) (by simp) ?_
  unfold m_spec_l08Watcher at h
  obtain ⟨q1002, l1, h⟩ := obnd_some h
  simp -implicitDefEqProofs -dsimp only [go_sem]
  refine loopW_loopO (m1 := .mk) (m2 := .mk) [.nf [1, 8, 9, 10] []] (m_spec_l08Watcher_L1_St p s.nodes ((s.nodes.length : Nat) : Int)) l1 ?_ ?_
  · simp -implicitDefEqProofs -dsimp only [go_sem]
  · intro nb2 sb2 bb2 b2 gb2
    obtain ⟨v10_1, eb2⟩ : ∃ v, v = sb2 := ⟨_, rfl⟩; subst eb2
    unfold m_spec_l08Watcher_L1 at b2
    try dsimp only at b2
    rcases ite_some b2 with ⟨h3, b2⟩ | ⟨h3, b2⟩
    · obtain ⟨x1001, g4, b2⟩ := obnd_some b2
      obtain ⟨h5, h6, h7⟩ := getI_some g4
      rcases ite_some b2 with ⟨h8, b2⟩ | ⟨h8, b2⟩
      · cases b2
        have e9 := (done_of gb2).symm
        subst e9
        try dsimp only at h
        cases h
        simp -implicitDefEqProofs -dsimp only [go_sem, (eq_true h3), h5, h6, h7, (eq_true h8)]
      · cases b2
        simp -implicitDefEqProofs -dsimp only [go_sem, (eq_true h3), h5, h6, h7, (eq_false h8)]
        refine next_of gb2 ?_
        simp -implicitDefEqProofs -dsimp only [go_sem, (eq_true h3), h5, h6, h7, (eq_false h8)]
    · cases b2
      have e10 := (done_of gb2).symm
      subst e10
      try dsimp only at h
      cases h
      simp -implicitDefEqProofs -dsimp only [go_sem, (eq_false h3)]
/- 112 loop.example/g00827/spec.l07Has -/
def m_spec_l07Has_L1_St (n : Int) (v7 : List Int) (v8 : Int) (v9 : Int) : St := ⟨[(1, .lit (.int .i64 n)), (7, .sl (rowsOf eI v7)), (8, .lit (.int .i64 v8)), (9, .lit (.int .i64 v9))], [], 2⟩
attribute [go_sem] m_spec_l07Has_L1_St
def hi112 : Hint where
  acts := fun _ => []
  draws := fun
    | _ => ⟨.nil, [], []⟩
theorem hi112a (i : Nat) : hi112.acts i = [] := rfl
theorem hi112v (i : Nat) : hi112.views i = none := rfl
attribute [go_sem] hi112a hi112v Go.Proofs.Tryz.ntmps112 Go.Proofs.Tryz.results112
theorem c_spec_l07Has {l : List Int} {n : Int} {res : Bool} (h : m_spec_l07Has l n = some res) : CallOk Go.Proofs.Tryz.prog 112 [.sl (rowsOf eI l), .lit (.int .i64 n)] [] (.lit (.bool res)) [] := by
  refine callOk_of (ra := []) (md := mdT) hT (hi := hi112) Go.Proofs.Tryz.func112 rfl rfl (by decide +kernel) (by simp) ?_
  unfold m_spec_l07Has at h
  obtain ⟨q1002, l1, h⟩ := obnd_some h
  simp -implicitDefEqProofs -dsimp only [go_sem]
  refine loopW_loopO (m1 := .mk) (m2 := .mk) [.nf [1, 7, 8, 9] []] (m_spec_l07Has_L1_St n l ((l.length : Nat) : Int)) l1 ?_ ?_
  · simp -implicitDefEqProofs -dsimp only [go_sem]
  · intro nb2 sb2 bb2 b2 gb2
    obtain ⟨v9_1, eb2⟩ : ∃ v, v = sb2 := ⟨_, rfl⟩; subst eb2
    unfold m_spec_l07Has_L1 at b2
    try dsimp only at b2
    rcases ite_some b2 with ⟨h3, b2⟩ | ⟨h3, b2⟩
    · obtain ⟨x1001, g4, b2⟩ := obnd_some b2
      obtain ⟨h5, h6, h7⟩ := getI_some g4
      rcases ite_some b2 with ⟨h8, b2⟩ | ⟨h8, b2⟩
      · cases b2
        have e9 := (done_of gb2).symm
        subst e9
        try dsimp only at h
        cases h
        simp -implicitDefEqProofs -dsimp only [go_sem, (eq_true h3), h5, h6, h7, (eq_true h8)]
      · cases b2
        simp -implicitDefEqProofs -dsimp only [go_sem, (eq_true h3), h5, h6, h7, (eq_false h8)]
        refine next_of gb2 ?_
        simp -implicitDefEqProofs -dsimp only [go_sem, (eq_true h3), h5, h6, h7, (eq_false h8)]
    · cases b2
      have e10 := (done_of gb2).symm
      subst e10
      try dsimp only at h
      cases h
      simp -implicitDefEqProofs -dsimp only [go_sem, (eq_false h3)]
/- 113 loop.example/g00827/spec.ImpliesLabel -/
def m_spec_ImpliesLabel_L1_St (a : List Int) (v15 : List Int) (v16 : Int) (v17 : Int) : St := ⟨[(0, .sl (rowsOf eI a)), (15, .sl (rowsOf eI v15)), (16, .lit (.int .i64 v16)), (17, .lit (.int .i64 v17))], [], 2⟩
attribute [go_sem] m_spec_ImpliesLabel_L1_St
def hi113 : Hint where
  acts := fun _ => []
  draws := fun
    | _ => ⟨.nil, [], []⟩
theorem hi113a (i : Nat) : hi113.acts i = [] := rfl
theorem hi113v (i : Nat) : hi113.views i = none := rfl
attribute [go_sem] hi113a hi113v Go.Proofs.Tryz.ntmps113 Go.Proofs.Tryz.results113
theorem c_spec_ImpliesLabel {a : List Int} {b : List Int} {res : Bool} (h : m_spec_ImpliesLabel a b = some res) : CallOk Go.Proofs.Tryz.prog 113 [.sl (rowsOf eI a), .sl (rowsOf eI b)] [] (.lit (.bool res)) [] := by
  refine callOk_of (ra := []) (md := mdT) hT (hi := hi113) Go.Proofs.Tryz.func113 rfl rfl (by decide +kernel) (by simp) ?_
  unfold m_spec_ImpliesLabel at h
  obtain ⟨r1001, g1, h⟩ := obnd_some h
  simp -implicitDefEqProofs -dsimp only [go_sem]
  refine callW_of (c_spec_LabelOk g1) ?_
  rcases ite_some h with ⟨h2, h⟩ | ⟨h2, h⟩
  · obtain ⟨r1002, g3, h⟩ := obnd_some h
    simp -implicitDefEqProofs -dsimp only [go_sem, (eq_true h2), (condZ_t h2)]
    refine callW_of (c_spec_LabelOk g3) ?_
    rcases ite_some h with ⟨h4, h⟩ | ⟨h4, h⟩
    · obtain ⟨q1005, l5, h⟩ := obnd_some h
      simp -implicitDefEqProofs -dsimp only [go_sem, (eq_true h2), (condZ_t h2), (eq_true h4), (condZ_t h4)]
      refine loopW_loopO (m1 := .mk) (m2 := .mk) [.nf [0, 15, 16, 17] []] (m_spec_ImpliesLabel_L1_St a b ((b.length : Nat) : Int)) l5 ?_ ?_
      · simp -implicitDefEqProofs -dsimp only [go_sem, (eq_true h2), (condZ_t h2), (eq_true h4), (condZ_t h4)]
      · intro nb6 sb6 bb6 b6 gb6
        obtain ⟨v17_1, eb6⟩ : ∃ v, v = sb6 := ⟨_, rfl⟩; subst eb6
        unfold m_spec_ImpliesLabel_L1 at b6
        try dsimp only at b6
        rcases ite_some b6 with ⟨h7, b6⟩ | ⟨h7, b6⟩
        · obtain ⟨x1003, g8, b6⟩ := obnd_some b6
          obtain ⟨h9, h10, h11⟩ := getI_some g8
          obtain ⟨r1004, g12, b6⟩ := obnd_some b6
          simp -implicitDefEqProofs -dsimp only [go_sem, (eq_true h2), (condZ_t h2), (eq_true h4), (condZ_t h4), (eq_true h7), h9, h10, h11]
          refine callW_of (c_spec_l07Has g12) ?_
          rcases ite_some b6 with ⟨h13, b6⟩ | ⟨h13, b6⟩
          · cases b6
            simp -implicitDefEqProofs -dsimp only [go_sem, (eq_true h2), (condZ_t h2), (eq_true h4), (condZ_t h4), (eq_true h7), h9, h10, h11, (eq_true h13), (condZ_t h13)]
            refine next_of gb6 ?_
            simp -implicitDefEqProofs -dsimp only [go_sem, (eq_true h2), (condZ_t h2), (eq_true h4), (condZ_t h4), (eq_true h7), h9, h10, h11, (eq_true h13), (condZ_t h13)]
          · cases b6
            have e14 := (done_of gb6).symm
            subst e14
            try dsimp only at h
            cases h
            simp -implicitDefEqProofs -dsimp only [go_sem, (eq_true h2), (condZ_t h2), (eq_true h4), (condZ_t h4), (eq_true h7), h9, h10, h11, (eq_false h13), (condZ_f h13)]
        · cases b6
          have e15 := (done_of gb6).symm
          subst e15
          try dsimp only at h
          cases h
          simp -implicitDefEqProofs -dsimp only [go_sem, (eq_true h2), (condZ_t h2), (eq_true h4), (condZ_t h4), (eq_false h7)]
    · cases h
      simp -implicitDefEqProofs -dsimp only [go_sem, (eq_true h2), (condZ_t h2), (eq_false h4), (condZ_f h4)]
  · cases h
    simp -implicitDefEqProofs -dsimp only [go_sem, (eq_false h2), (condZ_f h2)]
/- 82 loop.example/g00827/spec.l08Nodes -/
def m_spec_l08Nodes_L1_St (v33 : List GNode) (v34 : Int) (s_1 : List GTie) (s_2 : Int) (v35 : Int) : St := ⟨[(1, .ptr 64 1 0 0), (33, .sl (rowsOf GNode.encS v33)), (34, .lit (.int .i64 v34)), (35, .lit (.int .i64 v35))], [(64, 1, .var [.sl (rowsOf GNode.encS v33), .sl (rowsOf GTie.enc s_1), .lit (.int .i64 s_2)])], 2⟩
attribute [go_sem] m_spec_l08Nodes_L1_St
def m_spec_l08Nodes_L3_St (v66 : List GNode) (v67 : Int) (v68 : Int) (v73 : List Int) (v74 : Int) (s_1 : List GTie) (s_2 : Int) (n_0 : ByteArray) (n_2 : Int) (v75 : Int) : St := ⟨[(1, .ptr 64 1 0 0), (6, .ptr 384 1 0 0), (66, .sl (rowsOf GNode.encS v66)), (67, .lit (.int .i64 v67)), (68, .lit (.int .i64 v68)), (73, .sl (rowsOf eI v73)), (74, .lit (.int .i64 v74)), (75, .lit (.int .i64 v75))], [(64, 1, .var [.sl (rowsOf GNode.encS v66), .sl (rowsOf GTie.enc s_1), .lit (.int .i64 s_2)]), (384, 1, .var [.lit (.string n_0), .sl (rowsOf eI v73), .lit (.int .i64 n_2)])], 2⟩
attribute [go_sem] m_spec_l08Nodes_L3_St
def m_spec_l08Nodes_L4_St (v66 : List GNode) (v67 : Int) (s_1 : List GTie) (s_2 : Int) (v68 : Int) : St := ⟨[(1, .ptr 64 1 0 0), (66, .sl (rowsOf GNode.encS v66)), (67, .lit (.int .i64 v67)), (68, .lit (.int .i64 v68))], [(64, 1, .var [.sl (rowsOf GNode.encS v66), .sl (rowsOf GTie.enc s_1), .lit (.int .i64 s_2)])], 2⟩
attribute [go_sem] m_spec_l08Nodes_L4_St
def hi82 : Hint where
  acts := fun _ => []
  draws := fun
    | 15 => ⟨.cons ⟨0, true, []⟩ (.cons ⟨1, false, []⟩ (.cons ⟨2, false, [0]⟩ (.cons ⟨3, false, []⟩ (.cons ⟨4, false, []⟩ .nil)))), [[], [], [1], [0, 1, 2], [0, 1, 2, 3]], [0, 1, 2, 3, 4]⟩
    | 16 => ⟨.cons ⟨0, false, []⟩ (.cons ⟨1, false, []⟩ (.cons ⟨2, false, []⟩ (.cons ⟨3, false, []⟩ (.cons ⟨4, false, []⟩ (.cons ⟨5, false, []⟩ (.cons ⟨6, false, []⟩ (.cons ⟨7, false, []⟩ (.cons ⟨8, false, []⟩ (.cons ⟨9, false, []⟩ (.cons ⟨10, false, []⟩ (.cons ⟨11, false, []⟩ (.cons ⟨12, false, []⟩ (.cons ⟨13, false, []⟩ (.cons ⟨14, false, []⟩ (.cons ⟨15, false, []⟩ (.cons ⟨16, false, []⟩ (.cons ⟨17, false, []⟩ (.cons ⟨18, false, []⟩ (.cons ⟨19, false, []⟩ (.cons ⟨20, false, []⟩ (.cons ⟨21, false, []⟩ (.cons ⟨22, false, []⟩ (.cons ⟨23, false, []⟩ (.cons ⟨24, false, []⟩ (.cons ⟨25, false, []⟩ (.cons ⟨26, false, []⟩ (.cons ⟨27, false, []⟩ (.cons ⟨28, false, []⟩ (.cons ⟨29, false, []⟩ (.cons ⟨30, false, []⟩ (.cons ⟨31, false, []⟩ (.cons ⟨32, false, []⟩ (.cons ⟨33, false, []⟩ (.cons ⟨34, false, []⟩ .nil)))))))))))))))))))))))))))))))))), [[], [0], [0, 1], [0, 1, 2], [0, 1, 2, 3], [0, 1, 2], [0, 1, 2, 3, 4, 5], [0, 1, 2, 3, 4, 5, 6], [0, 1, 2, 3, 4, 5, 6, 7], [0, 1, 2], [0, 1, 2, 3, 4, 5, 6, 7, 8, 9], [0, 1, 2, 3, 4, 5, 6, 7, 8, 9, 10], [0, 1, 2, 3, 4, 5, 6, 7, 8, 9, 10, 11], [0, 1, 2, 3, 4, 5, 6, 7, 8, 9, 10, 11, 12], [0, 1, 2, 3, 4, 5, 6, 7, 8, 9, 10, 11, 12, 13], [0, 1, 2, 3, 4, 5, 6, 7, 8, 9, 10, 11, 12], [0, 1, 2, 3, 4, 5, 6, 7, 8, 9, 10, 11, 12, 13, 14, 15], [0, 1, 2, 3, 4, 5, 6, 7, 8, 9, 10, 11, 12, 13, 14, 15, 16], [0, 1, 2, 3, 4, 5, 6, 7, 8, 9, 10, 11, 12, 13, 14, 15, 16, 17], [0, 1, 2, 3, 4, 5, 6, 7, 8, 9, 10, 11, 12], [0, 1, 2, 3, 4, 5, 6, 7, 8, 9, 10, 11, 12, 19], [0, 1, 2, 3, 4, 5, 6, 7, 8, 9, 10, 11, 12, 13, 14, 15, 16, 17, 18, 19, 20], [0, 1, 2, 3, 4, 5, 6, 7, 8, 9, 10, 11, 12, 13, 14, 15, 16, 17, 18, 19, 20, 21], [0, 1, 2, 3, 4, 5, 6, 7, 8, 9, 10, 11, 12, 13, 14, 15, 16, 17, 18, 19, 20, 21, 22], [0, 1, 2, 3, 4, 5, 6, 7, 8, 9, 10, 11, 12, 13, 14, 15, 16, 17, 18, 19, 20, 21, 22, 23], [0, 1, 2, 3, 4, 5, 6, 7, 8, 9, 10, 11, 12, 13, 14, 15, 16, 17, 18, 19, 20, 21, 22, 23, 24], [0, 1, 2, 3, 4, 5, 6, 7, 8, 9, 10, 11, 12, 13, 14, 15, 16, 17, 18, 19, 20, 21, 22, 23], [0, 1, 2, 3, 4, 5, 6, 7, 8, 9, 10, 11, 12, 13, 14, 15, 16, 17, 18, 19, 20, 21, 22, 23, 26], [0, 1, 2, 3, 4, 5, 6, 7, 8, 9, 10, 11, 12, 13, 14, 15, 16, 17, 18, 19, 20, 21, 22, 23], [0, 1, 2, 3, 4, 5, 6, 7, 8, 9, 10, 11, 12, 13, 14, 15, 16, 17, 18, 19, 20, 21, 22, 23, 26, 27, 28], [0, 1, 2, 3, 4, 5, 6, 7, 8, 9, 10, 11, 12, 13, 14, 15, 16, 17, 18, 19, 20, 21, 22, 23, 26, 27, 28, 29], [0, 1, 2, 3, 4, 5, 6, 7, 8, 9, 10, 11, 12, 13, 14, 15, 16, 17, 18, 19, 20, 21, 22, 23, 26, 27, 28, 29, 30], [0, 1, 2, 3, 4, 5, 6, 7, 8, 9, 10, 11, 12, 13, 14, 15, 16, 17, 18, 19, 20, 21, 22, 23, 24, 25, 26, 27, 28, 29, 30, 31], [0, 1, 2, 3, 4, 5, 6, 7, 8, 9, 10, 11, 12, 13, 14, 15, 16, 17, 18, 19, 20, 21, 22, 23, 24, 25, 26, 27, 28, 29, 30, 31, 32], [0, 1, 2, 3, 4, 5, 6, 7, 8, 9, 10, 11, 12, 13, 14, 15, 16, 17, 18, 19, 20, 21, 22, 23, 24, 25, 26, 27, 28, 29, 30, 31, 32, 33]], [0, 1, 2, 3, 4, 5, 6, 7, 8, 9, 10, 11, 12, 13, 14, 15, 16, 17, 18, 19, 20, 21, 22, 23, 24, 25, 26, 27, 28, 29, 30, 31, 32, 33, 34]⟩
    | _ => ⟨.nil, [], []⟩
theorem hi82a (i : Nat) : hi82.acts i = [] := rfl
theorem hi82v (i : Nat) : hi82.views i = none := rfl
attribute [go_sem] hi82a hi82v Go.Proofs.Tryz.ntmps82 Go.Proofs.Tryz.results82
@[go_sem] theorem hi82d15 : (hi82.draws 15).order = .cons ⟨0, true, []⟩ (.cons ⟨1, false, []⟩ (.cons ⟨2, false, [0]⟩ (.cons ⟨3, false, []⟩ (.cons ⟨4, false, []⟩ .nil)))) := rfl
@[go_sem] theorem hi82d16 : (hi82.draws 16).order = .cons ⟨0, false, []⟩ (.cons ⟨1, false, []⟩ (.cons ⟨2, false, []⟩ (.cons ⟨3, false, []⟩ (.cons ⟨4, false, []⟩ (.cons ⟨5, false, []⟩ (.cons ⟨6, false, []⟩ (.cons ⟨7, false, []⟩ (.cons ⟨8, false, []⟩ (.cons ⟨9, false, []⟩ (.cons ⟨10, false, []⟩ (.cons ⟨11, false, []⟩ (.cons ⟨12, false, []⟩ (.cons ⟨13, false, []⟩ (.cons ⟨14, false, []⟩ (.cons ⟨15, false, []⟩ (.cons ⟨16, false, []⟩ (.cons ⟨17, false, []⟩ (.cons ⟨18, false, []⟩ (.cons ⟨19, false, []⟩ (.cons ⟨20, false, []⟩ (.cons ⟨21, false, []⟩ (.cons ⟨22, false, []⟩ (.cons ⟨23, false, []⟩ (.cons ⟨24, false, []⟩ (.cons ⟨25, false, []⟩ (.cons ⟨26, false, []⟩ (.cons ⟨27, false, []⟩ (.cons ⟨28, false, []⟩ (.cons ⟨29, false, []⟩ (.cons ⟨30, false, []⟩ (.cons ⟨31, false, []⟩ (.cons ⟨32, false, []⟩ (.cons ⟨33, false, []⟩ (.cons ⟨34, false, []⟩ .nil)))))))))))))))))))))))))))))))))) := rfl
theorem c_spec_l08Nodes {s : GShow} {res : Bool} (h : m_spec_l08Nodes s = some res) : CallOk Go.Proofs.Tryz.prog 82 [.agg [.sl (rowsOf GNode.encS s.nodes), .sl (rowsOf GTie.enc s.ties), .lit (.int .i64 s.horizon)]] [] (.lit (.bool res)) [] := by
  refine callOk_of (ra := []) (md := mdT) hT (hi := hi82) Go.Proofs.Tryz.func82 rfl rfl (by decide +kernel) (by simp) ?_
  unfold m_spec_l08Nodes at h
  obtain ⟨r1001, g1, h⟩ := obnd_some h
  simp -implicitDefEqProofs -dsimp only [go_sem]
  refine callW_of (c_spec_l01In g1) ?_
  rcases ite_some h with ⟨h2, h⟩ | ⟨h2, h⟩
  · obtain ⟨x1002, g3, h⟩ := obnd_some h
    obtain ⟨h5, h6⟩ := getI_nat (k := 0) g3
    rcases ite_some h with ⟨h7, h⟩ | ⟨h7, h⟩
    · cases h
      simp -implicitDefEqProofs -dsimp only [go_sem, (eq_true h2), (condZ_t h2), h5, h6, (eq_true h7)]
    · rcases ite_some h with ⟨h8, h⟩ | ⟨h8, h⟩
      · obtain ⟨q1017, l9, h⟩ := obnd_some h
        simp -implicitDefEqProofs -dsimp only [go_sem, (eq_true h2), (condZ_t h2), h5, h6, (eq_false h7), (eq_true h8)]
        refine loopW_loopO (m1 := .mk) (m2 := .mk) [.nf [1, 33, 34, 35] [64]] (m_spec_l08Nodes_L1_St s.nodes ((s.nodes.length : Nat) : Int) s.ties s.horizon) l9 ?_ ?_
        · simp -implicitDefEqProofs -dsimp only [go_sem, (eq_true h2), (condZ_t h2), h5, h6, (eq_false h7), (eq_true h8)]
        · intro nb10 sb10 bb10 b10 gb10
          obtain ⟨v35_1, eb10⟩ : ∃ v, v = sb10 := ⟨_, rfl⟩; subst eb10
          unfold m_spec_l08Nodes_L1 at b10
          try dsimp only at b10
          rcases ite_some b10 with ⟨h11, b10⟩ | ⟨h11, b10⟩
          · obtain ⟨x1003, g12, b10⟩ := obnd_some b10
            obtain ⟨h13, h14, h15⟩ := getI_some g12
            obtain ⟨r1004, g16, b10⟩ := obnd_some b10
            simp -implicitDefEqProofs -dsimp only [go_sem, (eq_true h2), (condZ_t h2), h5, h6, (eq_false h7), (eq_true h8), (eq_true h11), h13, h14, h15]
            refine callW_of (c_spec_NodeOk g16) ?_
            rcases ite_some b10 with ⟨h17, b10⟩ | ⟨h17, b10⟩
            · obtain ⟨r1005, g18, b10⟩ := obnd_some b10
              simp -implicitDefEqProofs -dsimp only [go_sem, (eq_true h2), (condZ_t h2), h5, h6, (eq_false h7), (eq_true h8), (eq_true h11), h13, h14, h15, (eq_true h17), (condZ_t h17)]
              refine callW_of (c_spec_NodeNamed g18) ?_
              rcases ite_some b10 with ⟨h19, b10⟩ | ⟨h19, b10⟩
              · rcases ite_some b10 with ⟨h20, b10⟩ | ⟨h20, b10⟩
                · cases b10
                  simp -implicitDefEqProofs -dsimp only [go_sem, (eq_true h2), (condZ_t h2), h5, h6, (eq_false h7), (eq_true h8), (eq_true h11), h13, h14, h15, (eq_true h17), (condZ_t h17), (eq_true h19), (eq_true h20)]
                  refine next_of gb10 ?_
                  simp -implicitDefEqProofs -dsimp only [go_sem, (eq_true h2), (condZ_t h2), h5, h6, (eq_false h7), (eq_true h8), (eq_true h11), h13, h14, h15, (eq_true h17), (condZ_t h17), (eq_true h19), (eq_true h20)]
                · obtain ⟨r1006, g21, b10⟩ := obnd_some b10
                  simp -implicitDefEqProofs -dsimp only [go_sem, (eq_true h2), (condZ_t h2), h5, h6, (eq_false h7), (eq_true h8), (eq_true h11), h13, h14, h15, (eq_true h17), (condZ_t h17), (eq_true h19), (eq_false h20)]
                  refine callW_of (c_spec_l08Watcher g21) ?_
                  rcases ite_some b10 with ⟨h22, b10⟩ | ⟨h22, b10⟩
                  · cases b10
                    simp -implicitDefEqProofs -dsimp only [go_sem, (eq_true h2), (condZ_t h2), h5, h6, (eq_false h7), (eq_true h8), (eq_true h11), h13, h14, h15, (eq_true h17), (condZ_t h17), (eq_true h19), (eq_false h20), (eq_true h22)]
                    refine next_of gb10 ?_
                    simp -implicitDefEqProofs -dsimp only [go_sem, (eq_true h2), (condZ_t h2), h5, h6, (eq_false h7), (eq_true h8), (eq_true h11), h13, h14, h15, (eq_true h17), (condZ_t h17), (eq_true h19), (eq_false h20), (eq_true h22)]
                  · cases b10
                    have e23 := (done_of gb10).symm
                    subst e23
                    try dsimp only at h
                    cases h
                    simp -implicitDefEqProofs -dsimp only [go_sem, (eq_true h2), (condZ_t h2), h5, h6, (eq_false h7), (eq_true h8), (eq_true h11), h13, h14, h15, (eq_true h17), (condZ_t h17), (eq_true h19), (eq_false h20), (eq_false h22)]
              · cases b10
                have e24 := (done_of gb10).symm
                subst e24
                try dsimp only at h
                cases h
                simp -implicitDefEqProofs -dsimp only [go_sem, (eq_true h2), (condZ_t h2), h5, h6, (eq_false h7), (eq_true h8), (eq_true h11), h13, h14, h15, (eq_true h17), (condZ_t h17), (eq_false h19)]
            · cases b10
              have e25 := (done_of gb10).symm
              subst e25
              try dsimp only at h
              cases h
              simp -implicitDefEqProofs -dsimp only [go_sem, (eq_true h2), (condZ_t h2), h5, h6, (eq_false h7), (eq_true h8), (eq_true h11), h13, h14, h15, (eq_false h17), (condZ_f h17)]
          · cases b10
            have e26 := (done_of gb10).symm
            subst e26
            try dsimp only at h
            obtain ⟨q1016, l27, h⟩ := obnd_some h
            simp -implicitDefEqProofs -dsimp only [go_sem, (eq_true h2), (condZ_t h2), h5, h6, (eq_false h7), (eq_true h8), (eq_false h11)]
            refine loopW_loopO (m1 := .mk) (m2 := .mk) [.nf [1, 66, 67, 68] [64]] (m_spec_l08Nodes_L4_St s.nodes ((s.nodes.length : Nat) : Int) s.ties s.horizon) l27 ?_ ?_
            · simp -implicitDefEqProofs -dsimp only [go_sem, (eq_true h2), (condZ_t h2), h5, h6, (eq_false h7), (eq_true h8), (eq_false h11)]
            · intro nb28 sb28 bb28 b28 gb28
              obtain ⟨v68_2, eb28⟩ : ∃ v, v = sb28 := ⟨_, rfl⟩; subst eb28
              unfold m_spec_l08Nodes_L4 at b28
              try dsimp only at b28
              rcases ite_some b28 with ⟨h29, b28⟩ | ⟨h29, b28⟩
              · obtain ⟨x1007, g30, b28⟩ := obnd_some b28
                obtain ⟨h31, h32, h33⟩ := getI_some g30
                obtain ⟨q1015, l34, b28⟩ := obnd_some b28
                simp -implicitDefEqProofs -dsimp only [go_sem, (eq_true h2), (condZ_t h2), h5, h6, (eq_false h7), (eq_true h8), (eq_false h11), (eq_true h29), h31, h32, h33]
                refine loopW_loopO (m1 := .mk) (m2 := .mk) [.nf [1, 6, 66, 67, 68, 73, 74, 75] [64, 384]] (m_spec_l08Nodes_L3_St s.nodes ((s.nodes.length : Nat) : Int) v68_2 x1007.label ((x1007.label.length : Nat) : Int) s.ties s.horizon x1007.name x1007.watch) l34 ?_ ?_
                · simp -implicitDefEqProofs -dsimp only [go_sem, (eq_true h2), (condZ_t h2), h5, h6, (eq_false h7), (eq_true h8), (eq_false h11), (eq_true h29), h31, h32, h33]
                · intro nb35 sb35 bb35 b35 gb35
                  obtain ⟨v75_3, eb35⟩ : ∃ v, v = sb35 := ⟨_, rfl⟩; subst eb35
                  unfold m_spec_l08Nodes_L3 at b35
                  try dsimp only at b35
                  rcases ite_some b35 with ⟨h36, b35⟩ | ⟨h36, b35⟩
                  · obtain ⟨x1008, g37, b35⟩ := obnd_some b35
                    obtain ⟨h38, h39, h40⟩ := getI_some g37
                    obtain ⟨r1009, g41, b35⟩ := obnd_some b35
                    simp -implicitDefEqProofs -dsimp only [go_sem, (eq_true h2), (condZ_t h2), h5, h6, (eq_false h7), (eq_true h8), (eq_false h11), (eq_true h29), h31, h32, h33, (eq_true h36), h38, h39, h40]
                    refine callW_of (c_spec_l07Prop g41) ?_
                    obtain ⟨r1010, g42, b35⟩ := obnd_some b35
                    simp -implicitDefEqProofs -dsimp only [go_sem, (eq_true h2), (condZ_t h2), h5, h6, (eq_false h7), (eq_true h8), (eq_false h11), (eq_true h29), h31, h32, h33, (eq_true h36), h38, h39, h40]
                    refine callW_of (c_spec_l08Watcher g42) ?_
                    rcases ite_some b35 with ⟨h43, b35⟩ | ⟨h43, b35⟩
                    · cases b35
                      have e44 := (done_of gb35).symm
                      subst e44
                      try dsimp only at b28
                      cases b28
                      have e45 := (done_of gb28).symm
                      subst e45
                      try dsimp only at h
                      cases h
                      simp -implicitDefEqProofs -dsimp only [go_sem, (eq_true h2), (condZ_t h2), h5, h6, (eq_false h7), (eq_true h8), (eq_false h11), (eq_true h29), h31, h32, h33, (eq_true h36), h38, h39, h40, (eq_true h43)]
                    · obtain ⟨x1011, g46, b35⟩ := obnd_some b35
                      obtain ⟨h47, h48, h49⟩ := getI_some g46
                      obtain ⟨r1012, g50, b35⟩ := obnd_some b35
                      simp -implicitDefEqProofs -dsimp only [go_sem, (eq_true h2), (condZ_t h2), h5, h6, (eq_false h7), (eq_true h8), (eq_false h11), (eq_true h29), h31, h32, h33, (eq_true h36), h38, h39, h40, (eq_false h43), h47, h48, h49]
                      refine callW_of (c_spec_l07Has g50) ?_
                      rcases ite_some b35 with ⟨h51, b35⟩ | ⟨h51, b35⟩
                      · cases b35
                        have e52 := (done_of gb35).symm
                        subst e52
                        try dsimp only at b28
                        cases b28
                        have e53 := (done_of gb28).symm
                        subst e53
                        try dsimp only at h
                        cases h
                        simp -implicitDefEqProofs -dsimp only [go_sem, (eq_true h2), (condZ_t h2), h5, h6, (eq_false h7), (eq_true h8), (eq_false h11), (eq_true h29), h31, h32, h33, (eq_true h36), h38, h39, h40, (eq_false h43), h47, h48, h49, (eq_true h51), (condZ_t h51)]
                      · obtain ⟨r1013, g54, b35⟩ := obnd_some b35
                        simp -implicitDefEqProofs -dsimp only [go_sem, (eq_true h2), (condZ_t h2), h5, h6, (eq_false h7), (eq_true h8), (eq_false h11), (eq_true h29), h31, h32, h33, (eq_true h36), h38, h39, h40, (eq_false h43), h47, h48, h49, (eq_false h51), (condZ_f h51)]
                        refine callW_of (c_spec_l07Has g54) ?_
                        rcases ite_some b35 with ⟨h55, b35⟩ | ⟨h55, b35⟩
                        · cases b35
                          have e56 := (done_of gb35).symm
                          subst e56
                          try dsimp only at b28
                          cases b28
                          have e57 := (done_of gb28).symm
                          subst e57
                          try dsimp only at h
                          cases h
                          simp -implicitDefEqProofs -dsimp only [go_sem, (eq_true h2), (condZ_t h2), h5, h6, (eq_false h7), (eq_true h8), (eq_false h11), (eq_true h29), h31, h32, h33, (eq_true h36), h38, h39, h40, (eq_false h43), h47, h48, h49, (eq_false h51), (condZ_f h51), (eq_true h55), (condZ_t h55)]
                        · obtain ⟨r1014, g58, b35⟩ := obnd_some b35
                          simp -implicitDefEqProofs -dsimp only [go_sem, (eq_true h2), (condZ_t h2), h5, h6, (eq_false h7), (eq_true h8), (eq_false h11), (eq_true h29), h31, h32, h33, (eq_true h36), h38, h39, h40, (eq_false h43), h47, h48, h49, (eq_false h51), (condZ_f h51), (eq_false h55), (condZ_f h55)]
                          refine callW_of (c_spec_ImpliesLabel g58) ?_
                          rcases ite_some b35 with ⟨h59, b35⟩ | ⟨h59, b35⟩
                          · cases b35
                            simp -implicitDefEqProofs -dsimp only [go_sem, (eq_true h2), (condZ_t h2), h5, h6, (eq_false h7), (eq_true h8), (eq_false h11), (eq_true h29), h31, h32, h33, (eq_true h36), h38, h39, h40, (eq_false h43), h47, h48, h49, (eq_false h51), (condZ_f h51), (eq_false h55), (condZ_f h55), (eq_true h59), (condZ_t h59)]
                            refine next_of gb35 ?_
                            simp -implicitDefEqProofs -dsimp only [go_sem, (eq_true h2), (condZ_t h2), h5, h6, (eq_false h7), (eq_true h8), (eq_false h11), (eq_true h29), h31, h32, h33, (eq_true h36), h38, h39, h40, (eq_false h43), h47, h48, h49, (eq_false h51), (condZ_f h51), (eq_false h55), (condZ_f h55), (eq_true h59), (condZ_t h59)]
                          · cases b35
                            have e60 := (done_of gb35).symm
                            subst e60
                            try dsimp only at b28
                            cases b28
                            have e61 := (done_of gb28).symm
                            subst e61
                            try dsimp only at h
                            cases h
                            simp -implicitDefEqProofs -dsimp only [go_sem, (eq_true h2), (condZ_t h2), h5, h6, (eq_false h7), (eq_true h8), (eq_false h11), (eq_true h29), h31, h32, h33, (eq_true h36), h38, h39, h40, (eq_false h43), h47, h48, h49, (eq_false h51), (condZ_f h51), (eq_false h55), (condZ_f h55), (eq_false h59), (condZ_f h59)]
                  · cases b35
                    have e62 := (done_of gb35).symm
                    subst e62
                    try dsimp only at b28
                    cases b28
                    simp -implicitDefEqProofs -dsimp only [go_sem, (eq_true h2), (condZ_t h2), h5, h6, (eq_false h7), (eq_true h8), (eq_false h11), (eq_true h29), h31, h32, h33, (eq_false h36)]
                    refine next_of gb28 ?_
                    simp -implicitDefEqProofs -dsimp only [go_sem, (eq_true h2), (condZ_t h2), h5, h6, (eq_false h7), (eq_true h8), (eq_false h11), (eq_true h29), h31, h32, h33, (eq_false h36)]
              · cases b28
                have e63 := (done_of gb28).symm
                subst e63
                try dsimp only at h
                cases h
                simp -implicitDefEqProofs -dsimp only [go_sem, (eq_true h2), (condZ_t h2), h5, h6, (eq_false h7), (eq_true h8), (eq_false h11), (eq_false h29)]
      · cases h
        simp -implicitDefEqProofs -dsimp only [go_sem, (eq_true h2), (condZ_t h2), h5, h6, (eq_false h7), (eq_false h8)]
  · cases h
    simp -implicitDefEqProofs -dsimp only [go_sem, (eq_false h2), (condZ_f h2)]
/- 76 loop.example/g00827/spec.l08Same -/
def m_spec_l08Same_L1_St (b : List Int) (v12 : List Int) (v13 : Int) (v14 : Int) : St := ⟨[(1, .sl (rowsOf eI b)), (12, .sl (rowsOf eI v12)), (13, .lit (.int .i64 v13)), (14, .lit (.int .i64 v14))], [], 2⟩
attribute [go_sem] m_spec_l08Same_L1_St
def hi76 : Hint where
  acts := fun _ => []
  draws := fun
    | _ => ⟨.nil, [], []⟩
theorem hi76a (i : Nat) : hi76.acts i = [] := rfl
theorem hi76v (i : Nat) : hi76.views i = none := rfl
attribute [go_sem] hi76a hi76v Go.Proofs.Tryz.ntmps76 Go.Proofs.Tryz.results76
theorem c_spec_l08Same {a : List Int} {b : List Int} {res : Bool} (h : m_spec_l08Same a b = some res) : CallOk Go.Proofs.Tryz.prog 76 [.sl (rowsOf eI a), .sl (rowsOf eI b)] [] (.lit (.bool res)) [] := by
  refine callOk_of (ra := []) (md := mdT) hT (hi := hi76) Go.Proofs.Tryz.func76 rfl rfl (by decide +kernel) (by simp) ?_
  unfold m_spec_l08Same at h
  rcases ite_some h with ⟨h1, h⟩ | ⟨h1, h⟩
  · obtain ⟨q1003, l2, h⟩ := obnd_some h
    simp -implicitDefEqProofs -dsimp only [go_sem, (eq_true h1)]
    refine loopW_loopO (m1 := .mk) (m2 := .mk) [.nf [1, 12, 13, 14] []] (m_spec_l08Same_L1_St b a ((a.length : Nat) : Int)) l2 ?_ ?_
    · simp -implicitDefEqProofs -dsimp only [go_sem, (eq_true h1)]
    · intro nb3 sb3 bb3 b3 gb3
      obtain ⟨v14_1, eb3⟩ : ∃ v, v = sb3 := ⟨_, rfl⟩; subst eb3
      unfold m_spec_l08Same_L1 at b3
      try dsimp only at b3
      rcases ite_some b3 with ⟨h4, b3⟩ | ⟨h4, b3⟩
      · obtain ⟨x1001, g5, b3⟩ := obnd_some b3
        obtain ⟨h6, h7, h8⟩ := getI_some g5
        obtain ⟨x1002, g9, b3⟩ := obnd_some b3
        obtain ⟨h10, h11, h12⟩ := getI_some g9
        rcases ite_some b3 with ⟨h13, b3⟩ | ⟨h13, b3⟩
        · cases b3
          simp -implicitDefEqProofs -dsimp only [go_sem, (eq_true h1), (eq_true h4), h6, h7, h8, h10, h11, h12, (eq_true h13)]
          refine next_of gb3 ?_
          simp -implicitDefEqProofs -dsimp only [go_sem, (eq_true h1), (eq_true h4), h6, h7, h8, h10, h11, h12, (eq_true h13)]
        · cases b3
          have e14 := (done_of gb3).symm
          subst e14
          try dsimp only at h
          cases h
          simp -implicitDefEqProofs -dsimp only [go_sem, (eq_true h1), (eq_true h4), h6, h7, h8, h10, h11, h12, (eq_false h13)]
      · cases b3
        have e15 := (done_of gb3).symm
        subst e15
        try dsimp only at h
        cases h
        simp -implicitDefEqProofs -dsimp only [go_sem, (eq_true h1), (eq_false h4)]
  · cases h
    simp -implicitDefEqProofs -dsimp only [go_sem, (eq_false h1)]
/- 114 loop.example/g00827/spec.l08Free -/
def m_spec_l08Free_L1_St (node : Int) (v8 : List GTie) (v9 : Int) (v10 : Int) : St := ⟨[(1, .lit (.int .i64 node)), (8, .sl (rowsOf GTie.enc v8)), (9, .lit (.int .i64 v9)), (10, .lit (.int .i64 v10))], [], 2⟩
attribute [go_sem] m_spec_l08Free_L1_St
def hi114 : Hint where
  acts := fun _ => []
  draws := fun
    | _ => ⟨.nil, [], []⟩
theorem hi114a (i : Nat) : hi114.acts i = [] := rfl
theorem hi114v (i : Nat) : hi114.views i = none := rfl
attribute [go_sem] hi114a hi114v Go.Proofs.Tryz.ntmps114 Go.Proofs.Tryz.results114
theorem c_spec_l08Free {s : GShow} {node : Int} {res : Int} (h : m_spec_l08Free s node = some res) : CallOk Go.Proofs.Tryz.prog 114 [.agg [.sl (rowsOf GNode.encS s.nodes), .sl (rowsOf GTie.enc s.ties), .lit (.int .i64 s.horizon)], .lit (.int .i64 node)] [] (.lit (.int .i64 res)) [] := by
  refine callOk_of (ra := []) (md := mdT) hT (hi := hi114) Go.Proofs.Tryz.func114 rfl rfl (by decide +kernel) (by simp) ?_
  unfold m_spec_l08Free at h
  obtain ⟨q1002, l1, h⟩ := obnd_some h
  simp -implicitDefEqProofs -dsimp only [go_sem]
  refine loopW_loopO (m1 := .mk) (m2 := .mk) [.nf [1, 8, 9, 10] []] (m_spec_l08Free_L1_St node s.ties ((s.ties.length : Nat) : Int)) l1 ?_ ?_
  · simp -implicitDefEqProofs -dsimp only [go_sem]
  · intro nb2 sb2 bb2 b2 gb2
    obtain ⟨v10_1, eb2⟩ : ∃ v, v = sb2 := ⟨_, rfl⟩; subst eb2
    unfold m_spec_l08Free_L1 at b2
    try dsimp only at b2
    rcases ite_some b2 with ⟨h3, b2⟩ | ⟨h3, b2⟩
    · obtain ⟨x1001, g4, b2⟩ := obnd_some b2
      obtain ⟨h5, h6, h7⟩ := getI_some g4
      rcases ite_some b2 with ⟨h8, b2⟩ | ⟨h8, b2⟩
      · rcases ite_some b2 with ⟨h9, b2⟩ | ⟨h9, b2⟩
        · cases b2
          have e10 := (done_of gb2).symm
          subst e10
          try dsimp only at h
          cases h
          simp -implicitDefEqProofs -dsimp only [go_sem, (eq_true h3), h5, h6, h7, (eq_true h8), (condZ_t h8), (eq_true h9)]
        · cases b2
          simp -implicitDefEqProofs -dsimp only [go_sem, (eq_true h3), h5, h6, h7, (eq_true h8), (condZ_t h8), (eq_false h9)]
          refine next_of gb2 ?_
          simp -implicitDefEqProofs -dsimp only [go_sem, (eq_true h3), h5, h6, h7, (eq_true h8), (condZ_t h8), (eq_false h9)]
      · cases b2
        simp -implicitDefEqProofs -dsimp only [go_sem, (eq_true h3), h5, h6, h7, (eq_false h8), (condZ_f h8)]
        refine next_of gb2 ?_
        simp -implicitDefEqProofs -dsimp only [go_sem, (eq_true h3), h5, h6, h7, (eq_false h8), (condZ_f h8)]
    · cases b2
      have e11 := (done_of gb2).symm
      subst e11
      try dsimp only at h
      cases h
      simp -implicitDefEqProofs -dsimp only [go_sem, (eq_false h3)]
/- 83 loop.example/g00827/spec.l08Tie -/
def hi83 : Hint where
  acts := fun _ => []
  draws := fun
    | 5 => ⟨.cons ⟨0, false, []⟩ (.cons ⟨1, false, []⟩ (.cons ⟨2, false, []⟩ (.cons ⟨3, false, []⟩ (.cons ⟨4, false, []⟩ (.cons ⟨5, false, []⟩ (.cons ⟨6, false, []⟩ (.cons ⟨7, false, []⟩ (.cons ⟨8, false, []⟩ (.cons ⟨9, false, []⟩ (.cons ⟨10, false, []⟩ (.cons ⟨11, false, []⟩ (.cons ⟨12, false, []⟩ (.cons ⟨13, false, []⟩ (.cons ⟨14, false, []⟩ (.cons ⟨15, false, []⟩ (.cons ⟨16, false, []⟩ (.cons ⟨17, false, []⟩ (.cons ⟨18, false, []⟩ (.cons ⟨19, false, []⟩ (.cons ⟨20, false, []⟩ (.cons ⟨21, false, []⟩ (.cons ⟨22, false, []⟩ (.cons ⟨23, false, []⟩ (.cons ⟨24, false, []⟩ (.cons ⟨25, false, []⟩ (.cons ⟨26, false, []⟩ (.cons ⟨27, false, []⟩ (.cons ⟨28, false, []⟩ (.cons ⟨29, false, []⟩ (.cons ⟨30, false, []⟩ (.cons ⟨31, false, []⟩ (.cons ⟨32, false, []⟩ (.cons ⟨33, false, []⟩ (.cons ⟨34, false, []⟩ (.cons ⟨35, false, []⟩ (.cons ⟨36, false, []⟩ (.cons ⟨37, false, []⟩ (.cons ⟨38, false, []⟩ (.cons ⟨39, false, []⟩ (.cons ⟨40, false, []⟩ (.cons ⟨41, false, []⟩ (.cons ⟨42, false, []⟩ (.cons ⟨44, false, []⟩ (.cons ⟨43, false, []⟩ (.cons ⟨45, false, []⟩ (.cons ⟨46, false, []⟩ (.cons ⟨47, false, []⟩ (.cons ⟨48, false, []⟩ .nil)))))))))))))))))))))))))))))))))))))))))))))))), [[], [0], [0, 1], [0, 1, 2], [0, 1, 2, 3], [0, 1, 2, 3, 4], [0, 1, 2, 3, 4, 5], [0, 1, 2, 3, 4, 5, 6], [0, 1, 2, 3, 4, 5, 6, 7], [0, 1, 2, 3, 4, 5, 6, 7, 8], [0, 1, 2, 3, 4, 5, 6, 7, 8, 9], [0, 1, 2, 3, 4, 5, 6, 7, 8, 9, 10], [0, 1, 2, 3, 4, 5, 6, 7, 8, 9, 10, 11], [0, 1, 2, 3, 4, 5, 6, 7, 8, 9, 10, 11, 12], [0, 1, 2, 3, 4, 5, 6, 7, 8, 9, 10, 11, 12, 13], [0, 1, 2, 3, 4, 5, 6, 7, 8, 9, 10, 11, 12], [0, 1, 2, 3, 4, 5, 6, 7, 8, 9, 10, 11, 12, 15], [0, 1, 2, 3, 4, 5, 6, 7, 8, 9, 10, 11, 12, 13, 14, 15, 16], [0, 1, 2, 3, 4, 5, 6, 7, 8, 9, 10, 11, 12, 13, 14, 15, 16, 17], [0, 1, 2, 3, 4, 5, 6, 7, 8, 9, 10, 11, 12, 13, 14, 15, 16, 17, 18], [0, 1, 2, 3, 4, 5, 6, 7, 8, 9, 10, 11, 12, 13, 14, 15, 16, 17, 18, 19], [0, 1, 2, 3, 4, 5, 6, 7, 8, 9, 10, 11, 12, 13, 14, 15, 16, 17, 18, 19, 20], [0, 1, 2, 3, 4, 5, 6, 7, 8, 9, 10, 11, 12, 13, 14, 15, 16, 17, 18, 19, 20, 21], [0, 1, 2, 3, 4, 5, 6, 7, 8, 9, 10, 11, 12, 13, 14, 15, 16, 17, 18, 19, 20, 21, 22], [0, 1, 2, 3, 4, 5, 6, 7, 8, 9, 10, 11, 12, 13, 14, 15, 16, 17, 18, 19, 20, 21, 22, 23], [0, 1, 2, 3, 4, 5, 6, 7, 8, 9, 10, 11, 12, 13, 14, 15, 16, 17, 18, 19, 20, 21, 22], [0, 1, 2, 3, 4, 5, 6, 7, 8, 9, 10, 11, 12, 13, 14, 15, 16, 17, 18, 19, 20, 21, 22, 25], [0, 1, 2, 3, 4, 5, 6, 7, 8, 9, 10, 11, 12, 13, 14, 15, 16, 17, 18, 19, 20, 21, 22, 23, 24, 25, 26], [0, 1, 2, 3, 4, 5, 6, 7, 8, 9, 10, 11, 12, 13, 14, 15, 16, 17, 18, 19, 20, 21, 22, 23, 24, 25, 26, 27], [0, 1, 2, 3, 4, 5, 6, 7, 8, 9, 10, 11, 12, 13, 14, 15, 16, 17, 18, 19, 20, 21, 22, 23, 24, 25, 26, 27, 28], [0, 1, 2, 3, 4, 5, 6, 7, 8, 9, 10, 11, 12, 13, 14, 15, 16, 17, 18, 19, 20, 21, 22], [0, 1, 2, 3, 4, 5, 6, 7, 8, 9, 10, 11, 12, 13, 14, 15, 16, 17, 18, 19, 20, 21, 22, 30], [0, 1, 2, 3, 4, 5, 6, 7, 8, 9, 10, 11, 12, 13, 14, 15, 16, 17, 18, 19, 20, 21, 22], [0, 1, 2, 3, 4, 5, 6, 7, 8, 9, 10, 11, 12, 13, 14, 15, 16, 17, 18, 19, 20, 21, 22, 32], [0, 1, 2, 3, 4, 5, 6, 7, 8, 9, 10, 11, 12, 13, 14, 15, 16, 17, 18, 19, 20, 21, 22, 30, 31, 32, 33], [0, 1, 2, 3, 4, 5, 6, 7, 8, 9, 10, 11, 12, 13, 14, 15, 16, 17, 18, 19, 20, 21, 22, 30, 31, 32, 33, 34], [0, 1, 2, 3, 4, 5, 6, 7, 8, 9, 10, 11, 12, 13, 14, 15, 16, 17, 18, 19, 20, 21, 22, 30, 31, 32, 33, 34, 35], [0, 1, 2, 3, 4, 5, 6, 7, 8, 9, 10, 11, 12, 13, 14, 15, 16, 17, 18, 19, 20, 21, 22, 23, 24, 25, 26, 27, 28, 29, 30, 31, 32, 33, 34, 35, 36], [0, 1, 2, 3, 4, 5, 6, 7, 8, 9, 10, 11, 12, 13, 14, 15, 16, 17, 18, 19, 20, 21, 22, 23, 24, 25, 26, 27, 28, 29, 30, 31, 32, 33, 34, 35, 36, 37], [0, 1, 2, 3, 4, 5, 6, 7, 8, 9, 10, 11, 12, 13, 14, 15, 16, 17, 18, 19, 20, 21, 22, 23, 24, 25, 26, 27, 28, 29, 30, 31, 32, 33, 34, 35, 36, 37, 38], [0, 1, 2, 3, 4, 5, 6, 7, 8, 9, 10, 11, 12, 13, 14, 15, 16, 17, 18, 19, 20, 21, 22, 23, 24, 25, 26, 27, 28, 29, 30, 31, 32, 33, 34, 35, 36, 37, 38, 39], [0, 1, 2, 3, 4, 5, 6, 7, 8, 9, 10, 11, 12, 13, 14, 15, 16, 17, 18, 19, 20, 21, 22, 23, 24, 25, 26, 27, 28, 29, 30, 31, 32, 33, 34, 35, 36, 37, 38, 39], [0, 1, 2, 3, 4, 5, 6, 7, 8, 9, 10, 11, 12, 13, 14, 15, 16, 17, 18, 19, 20, 21, 22, 23, 24, 25, 26, 27, 28, 29, 30, 31, 32, 33, 34, 35, 36, 37, 38, 39, 41], [0, 1, 2, 3, 4, 5, 6, 7, 8, 9, 10, 11, 12, 13, 14, 15, 16, 17, 18, 19, 20, 21, 22, 23, 24, 25, 26, 27, 28, 29, 30, 31, 32, 33, 34, 35, 36, 37, 38, 39, 40, 41, 42], [0, 1, 2, 3, 4, 5, 6, 7, 8, 9, 10, 11, 12, 13, 14, 15, 16, 17, 18, 19, 20, 21, 22, 23, 24, 25, 26, 27, 28, 29, 30, 31, 32, 33, 34, 35, 36, 37, 38, 39], [0, 1, 2, 3, 4, 5, 6, 7, 8, 9, 10, 11, 12, 13, 14, 15, 16, 17, 18, 19, 20, 21, 22, 23, 24, 25, 26, 27, 28, 29, 30, 31, 32, 33, 34, 35, 36, 37, 38, 39, 40, 41, 42, 43, 44], [0, 1, 2, 3, 4, 5, 6, 7, 8, 9, 10, 11, 12, 13, 14, 15, 16, 17, 18, 19, 20, 21, 22, 23, 24, 25, 26, 27, 28, 29, 30, 31, 32, 33, 34, 35, 36, 37, 38, 39, 40, 41, 42, 43, 44, 45], [0, 1, 2, 3, 4, 5, 6, 7, 8, 9, 10, 11, 12, 13, 14, 15, 16, 17, 18, 19, 20, 21, 22, 23, 24, 25, 26, 27, 28, 29, 30, 31, 32, 33, 34, 35, 36, 37, 38, 39, 40, 41, 42, 43, 44, 45, 46], [0, 1, 2, 3, 4, 5, 6, 7, 8, 9, 10, 11, 12, 13, 14, 15, 16, 17, 18, 19, 20, 21, 22, 23, 24, 25, 26, 27, 28, 29, 30, 31, 32, 33, 34, 35, 36, 37, 38, 39, 40, 41, 42, 43, 44, 45, 46, 47]], [0, 1, 2, 3, 4, 5, 6, 7, 8, 9, 10, 11, 12, 13, 14, 15, 16, 17, 18, 19, 20, 21, 22, 23, 24, 25, 26, 27, 28, 29, 30, 31, 32, 33, 34, 35, 36, 37, 38, 39, 40, 41, 42, 43, 44, 45, 46, 47, 48]⟩
    | _ => ⟨.nil, [], []⟩
theorem hi83a (i : Nat) : hi83.acts i = [] := rfl
theorem hi83v (i : Nat) : hi83.views i = none := rfl
attribute [go_sem] hi83a hi83v Go.Proofs.Tryz.ntmps83 Go.Proofs.Tryz.results83
@[go_sem] theorem hi83d5 : (hi83.draws 5).order = .cons ⟨0, false, []⟩ (.cons ⟨1, false, []⟩ (.cons ⟨2, false, []⟩ (.cons ⟨3, false, []⟩ (.cons ⟨4, false, []⟩ (.cons ⟨5, false, []⟩ (.cons ⟨6, false, []⟩ (.cons ⟨7, false, []⟩ (.cons ⟨8, false, []⟩ (.cons ⟨9, false, []⟩ (.cons ⟨10, false, []⟩ (.cons ⟨11, false, []⟩ (.cons ⟨12, false, []⟩ (.cons ⟨13, false, []⟩ (.cons ⟨14, false, []⟩ (.cons ⟨15, false, []⟩ (.cons ⟨16, false, []⟩ (.cons ⟨17, false, []⟩ (.cons ⟨18, false, []⟩ (.cons ⟨19, false, []⟩ (.cons ⟨20, false, []⟩ (.cons ⟨21, false, []⟩ (.cons ⟨22, false, []⟩ (.cons ⟨23, false, []⟩ (.cons ⟨24, false, []⟩ (.cons ⟨25, false, []⟩ (.cons ⟨26, false, []⟩ (.cons ⟨27, false, []⟩ (.cons ⟨28, false, []⟩ (.cons ⟨29, false, []⟩ (.cons ⟨30, false, []⟩ (.cons ⟨31, false, []⟩ (.cons ⟨32, false, []⟩ (.cons ⟨33, false, []⟩ (.cons ⟨34, false, []⟩ (.cons ⟨35, false, []⟩ (.cons ⟨36, false, []⟩ (.cons ⟨37, false, []⟩ (.cons ⟨38, false, []⟩ (.cons ⟨39, false, []⟩ (.cons ⟨40, false, []⟩ (.cons ⟨41, false, []⟩ (.cons ⟨42, false, []⟩ (.cons ⟨44, false, []⟩ (.cons ⟨43, false, []⟩ (.cons ⟨45, false, []⟩ (.cons ⟨46, false, []⟩ (.cons ⟨47, false, []⟩ (.cons ⟨48, false, []⟩ .nil)))))))))))))))))))))))))))))))))))))))))))))))) := rfl
theorem c_spec_l08Tie {s : GShow} {i : Int} {res : Bool} (h : m_spec_l08Tie s i = some res) : CallOk Go.Proofs.Tryz.prog 83 [.agg [.sl (rowsOf GNode.encS s.nodes), .sl (rowsOf GTie.enc s.ties), .lit (.int .i64 s.horizon)], .lit (.int .i64 i)] [] (.lit (.bool res)) [] := by
  refine callOk_of (ra := []) (md := mdT) hT (hi := hi83) Go.Proofs.Tryz.func83 rfl rfl (by decide +kernel) (by simp) ?_
  unfold m_spec_l08Tie at h
  obtain ⟨x1001, g1, h⟩ := obnd_some h
  obtain ⟨h2, h3, h4⟩ := getI_some g1
  obtain ⟨r1002, g5, h⟩ := obnd_some h
  simp -implicitDefEqProofs -dsimp only [go_sem, h2, h3, h4]
  refine callW_of (c_spec_l01In g5) ?_
  rcases ite_some h with ⟨h6, h⟩ | ⟨h6, h⟩
  · obtain ⟨r1003, g7, h⟩ := obnd_some h
    simp -implicitDefEqProofs -dsimp only [go_sem, h2, h3, h4, (eq_true h6), (condZ_t h6)]
    refine callW_of (c_spec_l01In g7) ?_
    rcases ite_some h with ⟨h8, h⟩ | ⟨h8, h⟩
    · rcases ite_some h with ⟨h9, h⟩ | ⟨h9, h⟩
      · cases h
        simp -implicitDefEqProofs -dsimp only [go_sem, h2, h3, h4, (eq_true h6), (condZ_t h6), (eq_true h8), (condZ_t h8), (eq_true h9)]
      · rcases ite_some h with ⟨h10, h⟩ | ⟨h10, h⟩
        · cases h
          simp -implicitDefEqProofs -dsimp only [go_sem, h2, h3, h4, (eq_true h6), (condZ_t h6), (eq_true h8), (condZ_t h8), (eq_false h9), (eq_true h10)]
        · rcases ite_some h with ⟨h11, h⟩ | ⟨h11, h⟩
          · cases h
            simp -implicitDefEqProofs -dsimp only [go_sem, h2, h3, h4, (eq_true h6), (condZ_t h6), (eq_true h8), (condZ_t h8), (eq_false h9), (eq_false h10), (eq_true h11)]
          · rcases ite_some h with ⟨h12, h⟩ | ⟨h12, h⟩
            · cases h
              simp -implicitDefEqProofs -dsimp only [go_sem, h2, h3, h4, (eq_true h6), (condZ_t h6), (eq_true h8), (condZ_t h8), (eq_false h9), (eq_false h10), (eq_false h11), (eq_true h12)]
            · rcases ite_some h with ⟨h13, h⟩ | ⟨h13, h⟩
              · rcases ite_some h with ⟨h14, h⟩ | ⟨h14, h⟩
                · rcases ite_some h with ⟨h15, h⟩ | ⟨h15, h⟩
                  · cases h
                    simp -implicitDefEqProofs -dsimp only [go_sem, h2, h3, h4, (eq_true h6), (condZ_t h6), (eq_true h8), (condZ_t h8), (eq_false h9), (eq_false h10), (eq_false h11), (eq_false h12), (eq_true h13), (condZ_t h13), (eq_true h14), (eq_true h15)]
                  · obtain ⟨x1004, g16, h⟩ := obnd_some h
                    obtain ⟨h17, h18, h19⟩ := getI_some g16
                    rcases ite_some h with ⟨h20, h⟩ | ⟨h20, h⟩
                    · obtain ⟨x1005, g21, h⟩ := obnd_some h
                      obtain ⟨h22, h23, h24⟩ := getI_some g21
                      obtain ⟨r1006, g25, h⟩ := obnd_some h
                      simp -implicitDefEqProofs -dsimp only [go_sem, h2, h3, h4, (eq_true h6), (condZ_t h6), (eq_true h8), (condZ_t h8), (eq_false h9), (eq_false h10), (eq_false h11), (eq_false h12), (eq_true h13), (condZ_t h13), (eq_true h14), (eq_false h15), h17, h18, h19, (eq_true h20), h22, h23, h24]
                      refine callW_of (c_spec_l08Same g25) ?_
                      rcases ite_some h with ⟨h26, h⟩ | ⟨h26, h⟩
                      · obtain ⟨r1007, g27, h⟩ := obnd_some h
                        simp -implicitDefEqProofs -dsimp only [go_sem, h2, h3, h4, (eq_true h6), (condZ_t h6), (eq_true h8), (condZ_t h8), (eq_false h9), (eq_false h10), (eq_false h11), (eq_false h12), (eq_true h13), (condZ_t h13), (eq_true h14), (eq_false h15), h17, h18, h19, (eq_true h20), h22, h23, h24, (eq_true h26), (condZ_t h26)]
                        refine callW_of (c_spec_l08Free g27) ?_
                        cases h
                        simp -implicitDefEqProofs -dsimp only [go_sem, h2, h3, h4, (eq_true h6), (condZ_t h6), (eq_true h8), (condZ_t h8), (eq_false h9), (eq_false h10), (eq_false h11), (eq_false h12), (eq_true h13), (condZ_t h13), (eq_true h14), (eq_false h15), h17, h18, h19, (eq_true h20), h22, h23, h24, (eq_true h26), (condZ_t h26)]
                      · cases h
                        simp -implicitDefEqProofs -dsimp only [go_sem, h2, h3, h4, (eq_true h6), (condZ_t h6), (eq_true h8), (condZ_t h8), (eq_false h9), (eq_false h10), (eq_false h11), (eq_false h12), (eq_true h13), (condZ_t h13), (eq_true h14), (eq_false h15), h17, h18, h19, (eq_true h20), h22, h23, h24, (eq_false h26), (condZ_f h26)]
                    · cases h
                      simp -implicitDefEqProofs -dsimp only [go_sem, h2, h3, h4, (eq_true h6), (condZ_t h6), (eq_true h8), (condZ_t h8), (eq_false h9), (eq_false h10), (eq_false h11), (eq_false h12), (eq_true h13), (condZ_t h13), (eq_true h14), (eq_false h15), h17, h18, h19, (eq_false h20)]
                · cases h
                  simp -implicitDefEqProofs -dsimp only [go_sem, h2, h3, h4, (eq_true h6), (condZ_t h6), (eq_true h8), (condZ_t h8), (eq_false h9), (eq_false h10), (eq_false h11), (eq_false h12), (eq_true h13), (condZ_t h13), (eq_false h14)]
              · cases h
                simp -implicitDefEqProofs -dsimp only [go_sem, h2, h3, h4, (eq_true h6), (condZ_t h6), (eq_true h8), (condZ_t h8), (eq_false h9), (eq_false h10), (eq_false h11), (eq_false h12), (eq_false h13), (condZ_f h13)]
    · cases h
      simp -implicitDefEqProofs -dsimp only [go_sem, h2, h3, h4, (eq_true h6), (condZ_t h6), (eq_false h8), (condZ_f h8)]
  · cases h
    simp -implicitDefEqProofs -dsimp only [go_sem, h2, h3, h4, (eq_false h6), (condZ_f h6)]
/- 51 loop.example/g00827/spec.ShowOk -/
def m_spec_ShowOk_L1_St (v21 : Int) (s_0 : List GNode) (s_1 : List GTie) (s_2 : Int) (v22 : Int) : St := ⟨[(1, .ptr 64 1 0 0), (21, .lit (.int .i64 v21)), (22, .lit (.int .i64 v22))], [(64, 1, .var [.sl (rowsOf GNode.encS s_0), .sl (rowsOf GTie.enc s_1), .lit (.int .i64 s_2)])], 2⟩
attribute [go_sem] m_spec_ShowOk_L1_St
def hi51 : Hint where
  acts := fun _ => []
  draws := fun
    | _ => ⟨.nil, [], []⟩
theorem hi51a (i : Nat) : hi51.acts i = [] := rfl
theorem hi51v (i : Nat) : hi51.views i = none := rfl
attribute [go_sem] hi51a hi51v Go.Proofs.Tryz.ntmps51 Go.Proofs.Tryz.results51
theorem c_spec_ShowOk {s : GShow} {res : Bool} (h : m_spec_ShowOk s = some res) : CallOk Go.Proofs.Tryz.prog 51 [.agg [.sl (rowsOf GNode.encS s.nodes), .sl (rowsOf GTie.enc s.ties), .lit (.int .i64 s.horizon)]] [] (.lit (.bool res)) [] := by
  refine callOk_of (ra := []) (md := mdT) hT (hi := hi51) Go.Proofs.Tryz.func51 rfl rfl (by decide +kernel) (by simp) ?_
  unfold m_spec_ShowOk at h
  obtain ⟨r1001, g1, h⟩ := obnd_some h
  simp -implicitDefEqProofs -dsimp only [go_sem]
  refine callW_of (c_spec_l08Nodes g1) ?_
  rcases ite_some h with ⟨h2, h⟩ | ⟨h2, h⟩
  · rcases ite_some h with ⟨h3, h⟩ | ⟨h3, h⟩
    · cases h
      simp -implicitDefEqProofs -dsimp only [go_sem, (eq_true h2), (condZ_t h2), (eq_true h3)]
    · obtain ⟨r1002, g4, h⟩ := obnd_some h
      simp -implicitDefEqProofs -dsimp only [go_sem, (eq_true h2), (condZ_t h2), (eq_false h3)]
      refine callW_of (c_spec_l01In g4) ?_
      rcases ite_some h with ⟨h5, h⟩ | ⟨h5, h⟩
      · obtain ⟨q1004, l6, h⟩ := obnd_some h
        simp -implicitDefEqProofs -dsimp only [go_sem, (eq_true h2), (condZ_t h2), (eq_false h3), (eq_true h5), (condZ_t h5)]
        refine loopW_loopO (m1 := .mk) (m2 := .mk) [.nf [1, 21, 22] [64]] (m_spec_ShowOk_L1_St ((s.ties.length : Nat) : Int) s.nodes s.ties s.horizon) l6 ?_ ?_
        · simp -implicitDefEqProofs -dsimp only [go_sem, (eq_true h2), (condZ_t h2), (eq_false h3), (eq_true h5), (condZ_t h5)]
        · intro nb7 sb7 bb7 b7 gb7
          obtain ⟨v22_1, eb7⟩ : ∃ v, v = sb7 := ⟨_, rfl⟩; subst eb7
          unfold m_spec_ShowOk_L1 at b7
          try dsimp only at b7
          rcases ite_some b7 with ⟨h8, b7⟩ | ⟨h8, b7⟩
          · obtain ⟨r1003, g9, b7⟩ := obnd_some b7
            simp -implicitDefEqProofs -dsimp only [go_sem, (eq_true h2), (condZ_t h2), (eq_false h3), (eq_true h5), (condZ_t h5), (eq_true h8)]
            refine callW_of (c_spec_l08Tie g9) ?_
            rcases ite_some b7 with ⟨h10, b7⟩ | ⟨h10, b7⟩
            · cases b7
              simp -implicitDefEqProofs -dsimp only [go_sem, (eq_true h2), (condZ_t h2), (eq_false h3), (eq_true h5), (condZ_t h5), (eq_true h8), (eq_true h10), (condZ_t h10)]
              refine next_of gb7 ?_
              simp -implicitDefEqProofs -dsimp only [go_sem, (eq_true h2), (condZ_t h2), (eq_false h3), (eq_true h5), (condZ_t h5), (eq_true h8), (eq_true h10), (condZ_t h10)]
            · cases b7
              have e11 := (done_of gb7).symm
              subst e11
              try dsimp only at h
              cases h
              simp -implicitDefEqProofs -dsimp only [go_sem, (eq_true h2), (condZ_t h2), (eq_false h3), (eq_true h5), (condZ_t h5), (eq_true h8), (eq_false h10), (condZ_f h10)]
          · cases b7
            have e12 := (done_of gb7).symm
            subst e12
            try dsimp only at h
            cases h
            simp -implicitDefEqProofs -dsimp only [go_sem, (eq_true h2), (condZ_t h2), (eq_false h3), (eq_true h5), (condZ_t h5), (eq_false h8)]
      · cases h
        simp -implicitDefEqProofs -dsimp only [go_sem, (eq_true h2), (condZ_t h2), (eq_false h3), (eq_false h5), (condZ_f h5)]
  · cases h
    simp -implicitDefEqProofs -dsimp only [go_sem, (eq_false h2), (condZ_f h2)]
/- 74 loop.example/g00827/spec.ValuesOk -/
def m_spec_ValuesOk_L1_St (v : List Int) (v6 : Int) (v7 : Int) : St := ⟨[(0, .sl (rowsOf eI v)), (5, .sl (rowsOf eI v)), (6, .lit (.int .i64 v6)), (7, .lit (.int .i64 v7))], [], 2⟩
attribute [go_sem] m_spec_ValuesOk_L1_St
def hi74 : Hint where
  acts := fun _ => []
  draws := fun
    | _ => ⟨.nil, [], []⟩
theorem hi74a (i : Nat) : hi74.acts i = [] := rfl
theorem hi74v (i : Nat) : hi74.views i = none := rfl
attribute [go_sem] hi74a hi74v Go.Proofs.Tryz.ntmps74 Go.Proofs.Tryz.results74
theorem c_spec_ValuesOk {v : List Int} {res : Bool} (h : m_spec_ValuesOk v = some res) : CallOk Go.Proofs.Tryz.prog 74 [.sl (rowsOf eI v)] [] (.lit (.bool res)) [] := by
  refine callOk_of (ra := []) (md := mdT) hT (hi := hi74) Go.Proofs.Tryz.func74 rfl rfl (by decide +kernel) (by simp) ?_
  unfold m_spec_ValuesOk at h
  obtain ⟨q1003, l1, h⟩ := obnd_some h
  simp -implicitDefEqProofs -dsimp only [go_sem]
  refine loopW_loopO (m1 := .mk) (m2 := .mk) [.nf [0, 5, 6, 7] []] (m_spec_ValuesOk_L1_St v ((v.length : Nat) : Int)) l1 ?_ ?_
  · simp -implicitDefEqProofs -dsimp only [go_sem]
  · intro nb2 sb2 bb2 b2 gb2
    obtain ⟨v7_1, eb2⟩ : ∃ v, v = sb2 := ⟨_, rfl⟩; subst eb2
    unfold m_spec_ValuesOk_L1 at b2
    try dsimp only at b2
    rcases ite_some b2 with ⟨h3, b2⟩ | ⟨h3, b2⟩
    · obtain ⟨x1001, g4, b2⟩ := obnd_some b2
      obtain ⟨h5, h6, h7⟩ := getI_some g4
      obtain ⟨r1002, g8, b2⟩ := obnd_some b2
      simp -implicitDefEqProofs -dsimp only [go_sem, (eq_true h3), h5, h6, h7]
      refine callW_of (c_spec_l01In g8) ?_
      rcases ite_some b2 with ⟨h9, b2⟩ | ⟨h9, b2⟩
      · cases b2
        simp -implicitDefEqProofs -dsimp only [go_sem, (eq_true h3), h5, h6, h7, (eq_true h9), (condZ_t h9)]
        refine next_of gb2 ?_
        simp -implicitDefEqProofs -dsimp only [go_sem, (eq_true h3), h5, h6, h7, (eq_true h9), (condZ_t h9)]
      · cases b2
        have e10 := (done_of gb2).symm
        subst e10
        try dsimp only at h
        cases h
        simp -implicitDefEqProofs -dsimp only [go_sem, (eq_true h3), h5, h6, h7, (eq_false h9), (condZ_f h9)]
    · cases b2
      have e11 := (done_of gb2).symm
      subst e11
      try dsimp only at h
      cases h
      simp -implicitDefEqProofs -dsimp only [go_sem, (eq_false h3)]
/- 42 loop.example/g00827/spec.StateOk -/
def m_spec_StateOk_L1_St (v44 : List Int) (v45 : Int) (s_0 : List GNode) (s_1 : List GTie) (s_2 : Int) (v3_0 : Int) (v3_2 : List Int) (v46 : Int) : St := ⟨[(2, .ptr 128 1 0 0), (3, .ptr 192 1 0 0), (44, .sl (rowsOf eI v44)), (45, .lit (.int .i64 v45)), (46, .lit (.int .i64 v46))], [(128, 1, .var [.sl (rowsOf GNode.encS s_0), .sl (rowsOf GTie.enc s_1), .lit (.int .i64 s_2)]), (192, 1, .var [.lit (.int .i64 v3_0), .sl (rowsOf eI v44), .sl (rowsOf eI v3_2)])], 2⟩
attribute [go_sem] m_spec_StateOk_L1_St
def m_spec_StateOk_L2_St (s_0 : List GNode) (s_1 : List GTie) (s_2 : Int) (v3_0 : Int) (v3_1 : List Int) (v3_2 : List Int) (p : Int) : St := ⟨[(2, .ptr 128 1 0 0), (3, .ptr 192 1 0 0), (7, .lit (.int .i64 p))], [(128, 1, .var [.sl (rowsOf GNode.encS s_0), .sl (rowsOf GTie.enc s_1), .lit (.int .i64 s_2)]), (192, 1, .var [.lit (.int .i64 v3_0), .sl (rowsOf eI v3_1), .sl (rowsOf eI v3_2)])], 2⟩
attribute [go_sem] m_spec_StateOk_L2_St
def hi42 : Hint where
  acts := fun _ => []
  draws := fun
    | 13 => ⟨.cons ⟨0, false, []⟩ (.cons ⟨1, false, []⟩ (.cons ⟨2, false, []⟩ (.cons ⟨3, false, []⟩ (.cons ⟨4, false, []⟩ (.cons ⟨5, false, []⟩ (.cons ⟨6, false, []⟩ (.cons ⟨7, false, []⟩ (.cons ⟨8, false, []⟩ (.cons ⟨9, false, []⟩ (.cons ⟨10, false, []⟩ (.cons ⟨11, false, []⟩ (.cons ⟨12, false, []⟩ (.cons ⟨13, false, []⟩ (.cons ⟨14, false, []⟩ (.cons ⟨15, false, []⟩ (.cons ⟨16, false, []⟩ (.cons ⟨17, false, []⟩ .nil))))))))))))))))), [[], [0], [], [2], [0, 1, 2, 3], [0, 1, 2, 3, 4], [0, 1, 2, 3, 4, 5], [], [7], [7, 8], [7, 8, 9], [7, 8, 9, 10], [7, 8, 9], [7, 8, 9, 10, 11, 12], [7, 8, 9, 10, 11, 12, 13], [7, 8, 9, 10, 11, 12, 13, 14], [7, 8, 9, 10, 11, 12, 13, 14, 15], [0, 1, 2, 3, 4, 5, 6, 7, 8, 9, 10, 11, 12, 13, 14, 15, 16]], [0, 1, 2, 3, 4, 5, 6, 7, 8, 9, 10, 11, 12, 13, 14, 15, 16, 17]⟩
    | _ => ⟨.nil, [], []⟩
theorem hi42a (i : Nat) : hi42.acts i = [] := rfl
theorem hi42v (i : Nat) : hi42.views i = none := rfl
attribute [go_sem] hi42a hi42v Go.Proofs.Tryz.ntmps42 Go.Proofs.Tryz.results42
@[go_sem] theorem hi42d13 : (hi42.draws 13).order = .cons ⟨0, false, []⟩ (.cons ⟨1, false, []⟩ (.cons ⟨2, false, []⟩ (.cons ⟨3, false, []⟩ (.cons ⟨4, false, []⟩ (.cons ⟨5, false, []⟩ (.cons ⟨6, false, []⟩ (.cons ⟨7, false, []⟩ (.cons ⟨8, false, []⟩ (.cons ⟨9, false, []⟩ (.cons ⟨10, false, []⟩ (.cons ⟨11, false, []⟩ (.cons ⟨12, false, []⟩ (.cons ⟨13, false, []⟩ (.cons ⟨14, false, []⟩ (.cons ⟨15, false, []⟩ (.cons ⟨16, false, []⟩ (.cons ⟨17, false, []⟩ .nil))))))))))))))))) := rfl
theorem c_spec_StateOk {s : GShow} {v1 : GState} {res : Bool} (h : m_spec_StateOk s v1 = some res) : CallOk Go.Proofs.Tryz.prog 42 [.agg [.sl (rowsOf GNode.encS s.nodes), .sl (rowsOf GTie.enc s.ties), .lit (.int .i64 s.horizon)], .agg [.lit (.int .i64 v1.now), .sl (rowsOf eI v1.times), .sl (rowsOf eI v1.values)]] [] (.lit (.bool res)) [] := by
  refine callOk_of (ra := []) (md := mdT) hT (hi := hi42) Go.Proofs.Tryz.func42 rfl rfl (by decide +kernel) (by simp) ?_
  unfold m_spec_StateOk at h
  obtain ⟨r1001, g1, h⟩ := obnd_some h
  simp -implicitDefEqProofs -dsimp only [go_sem]
  refine callW_of (c_spec_ShowOk g1) ?_
  rcases ite_some h with ⟨h2, h⟩ | ⟨h2, h⟩
  · obtain ⟨r1002, g3, h⟩ := obnd_some h
    simp -implicitDefEqProofs -dsimp only [go_sem, (eq_true h2), (condZ_t h2)]
    refine callW_of (c_spec_l01In g3) ?_
    rcases ite_some h with ⟨h4, h⟩ | ⟨h4, h⟩
    · rcases ite_some h with ⟨h5, h⟩ | ⟨h5, h⟩
      · obtain ⟨x1003, g6, h⟩ := obnd_some h
        obtain ⟨h8, h9⟩ := getI_nat (k := 0) g6
        rcases ite_some h with ⟨h10, h⟩ | ⟨h10, h⟩
        · obtain ⟨r1004, g11, h⟩ := obnd_some h
          simp -implicitDefEqProofs -dsimp only [go_sem, (eq_true h2), (condZ_t h2), (eq_true h4), (condZ_t h4), (eq_true h5), h8, h9, (eq_true h10)]
          refine callW_of (c_spec_ValuesOk g11) ?_
          rcases ite_some h with ⟨h12, h⟩ | ⟨h12, h⟩
          · obtain ⟨q1011, l13, h⟩ := obnd_some h
            simp -implicitDefEqProofs -dsimp only [go_sem, (eq_true h2), (condZ_t h2), (eq_true h4), (condZ_t h4), (eq_true h5), h8, h9, (eq_true h10), (eq_true h12), (condZ_t h12)]
            refine loopW_loopO (m1 := .mk) (m2 := .mk) [.nf [2, 3, 44, 45, 46] [128, 192]] (m_spec_StateOk_L1_St v1.times ((v1.times.length : Nat) : Int) s.nodes s.ties s.horizon v1.now v1.values) l13 ?_ ?_
            · simp -implicitDefEqProofs -dsimp only [go_sem, (eq_true h2), (condZ_t h2), (eq_true h4), (condZ_t h4), (eq_true h5), h8, h9, (eq_true h10), (eq_true h12), (condZ_t h12)]
            · intro nb14 sb14 bb14 b14 gb14
              obtain ⟨v46_1, eb14⟩ : ∃ v, v = sb14 := ⟨_, rfl⟩; subst eb14
              unfold m_spec_StateOk_L1 at b14
              try dsimp only at b14
              rcases ite_some b14 with ⟨h15, b14⟩ | ⟨h15, b14⟩
              · obtain ⟨x1005, g16, b14⟩ := obnd_some b14
                obtain ⟨h17, h18, h19⟩ := getI_some g16
                rcases ite_some b14 with ⟨h20, b14⟩ | ⟨h20, b14⟩
                · obtain ⟨r1006, g21, b14⟩ := obnd_some b14
                  simp -implicitDefEqProofs -dsimp only [go_sem, (eq_true h2), (condZ_t h2), (eq_true h4), (condZ_t h4), (eq_true h5), h8, h9, (eq_true h10), (eq_true h12), (condZ_t h12), (eq_true h15), h17, h18, h19, (eq_true h20)]
                  refine callW_of (c_spec_l01In g21) ?_
                  rcases ite_some b14 with ⟨h22, b14⟩ | ⟨h22, b14⟩
                  · cases b14
                    simp -implicitDefEqProofs -dsimp only [go_sem, (eq_true h2), (condZ_t h2), (eq_true h4), (condZ_t h4), (eq_true h5), h8, h9, (eq_true h10), (eq_true h12), (condZ_t h12), (eq_true h15), h17, h18, h19, (eq_true h20), (eq_true h22), (condZ_t h22)]
                    refine next_of gb14 ?_
                    simp -implicitDefEqProofs -dsimp only [go_sem, (eq_true h2), (condZ_t h2), (eq_true h4), (condZ_t h4), (eq_true h5), h8, h9, (eq_true h10), (eq_true h12), (condZ_t h12), (eq_true h15), h17, h18, h19, (eq_true h20), (eq_true h22), (condZ_t h22)]
                  · cases b14
                    have e23 := (done_of gb14).symm
                    subst e23
                    try dsimp only at h
                    cases h
                    simp -implicitDefEqProofs -dsimp only [go_sem, (eq_true h2), (condZ_t h2), (eq_true h4), (condZ_t h4), (eq_true h5), h8, h9, (eq_true h10), (eq_true h12), (condZ_t h12), (eq_true h15), h17, h18, h19, (eq_true h20), (eq_false h22), (condZ_f h22)]
                · cases b14
                  simp -implicitDefEqProofs -dsimp only [go_sem, (eq_true h2), (condZ_t h2), (eq_true h4), (condZ_t h4), (eq_true h5), h8, h9, (eq_true h10), (eq_true h12), (condZ_t h12), (eq_true h15), h17, h18, h19, (eq_false h20)]
                  refine next_of gb14 ?_
                  simp -implicitDefEqProofs -dsimp only [go_sem, (eq_true h2), (condZ_t h2), (eq_true h4), (condZ_t h4), (eq_true h5), h8, h9, (eq_true h10), (eq_true h12), (condZ_t h12), (eq_true h15), h17, h18, h19, (eq_false h20)]
              · cases b14
                have e24 := (done_of gb14).symm
                subst e24
                try dsimp only at h
                obtain ⟨q1010, l25, h⟩ := obnd_some h
                simp -implicitDefEqProofs -dsimp only [go_sem, (eq_true h2), (condZ_t h2), (eq_true h4), (condZ_t h4), (eq_true h5), h8, h9, (eq_true h10), (eq_true h12), (condZ_t h12), (eq_false h15)]
                refine loopW_loopO (m1 := .mk) (m2 := .mk) [.nf [2, 3, 7] [128, 192]] (m_spec_StateOk_L2_St s.nodes s.ties s.horizon v1.now v1.times v1.values) l25 ?_ ?_
                · simp -implicitDefEqProofs -dsimp only [go_sem, (eq_true h2), (condZ_t h2), (eq_true h4), (condZ_t h4), (eq_true h5), h8, h9, (eq_true h10), (eq_true h12), (condZ_t h12), (eq_false h15)]
                · intro nb26 sb26 bb26 b26 gb26
                  obtain ⟨p_2, eb26⟩ : ∃ v, v = sb26 := ⟨_, rfl⟩; subst eb26
                  unfold m_spec_StateOk_L2 at b26
                  try dsimp only at b26
                  rcases ite_some b26 with ⟨h27, b26⟩ | ⟨h27, b26⟩
                  · obtain ⟨r1007, g28, b26⟩ := obnd_some b26
                    simp -implicitDefEqProofs -dsimp only [go_sem, (eq_true h2), (condZ_t h2), (eq_true h4), (condZ_t h4), (eq_true h5), h8, h9, (eq_true h10), (eq_true h12), (condZ_t h12), (eq_false h15), (eq_true h27)]
                    refine callW_of (c_spec_l08Watcher g28) ?_
                    obtain ⟨x1008, g29, b26⟩ := obnd_some b26
                    obtain ⟨h30, h31, h32⟩ := getI_some g29
                    rcases ite_some b26 with ⟨h33, b26⟩ | ⟨h33, b26⟩
                    · obtain ⟨x1009, g34, b26⟩ := obnd_some b26
                      obtain ⟨h35, h36, h37⟩ := getI_some g34
                      rcases ite_some b26 with ⟨h38, b26⟩ | ⟨h38, b26⟩
                      · cases b26
                        simp -implicitDefEqProofs -dsimp only [go_sem, (eq_true h2), (condZ_t h2), (eq_true h4), (condZ_t h4), (eq_true h5), h8, h9, (eq_true h10), (eq_true h12), (condZ_t h12), (eq_false h15), (eq_true h27), h30, h31, h32, (eq_true h33), h35, h36, h37, (eq_true h38)]
                        refine next_of gb26 ?_
                        simp -implicitDefEqProofs -dsimp only [go_sem, (eq_true h2), (condZ_t h2), (eq_true h4), (condZ_t h4), (eq_true h5), h8, h9, (eq_true h10), (eq_true h12), (condZ_t h12), (eq_false h15), (eq_true h27), h30, h31, h32, (eq_true h33), h35, h36, h37, (eq_true h38)]
                      · cases b26
                        have e39 := (done_of gb26).symm
                        subst e39
                        try dsimp only at h
                        cases h
                        simp -implicitDefEqProofs -dsimp only [go_sem, (eq_true h2), (condZ_t h2), (eq_true h4), (condZ_t h4), (eq_true h5), h8, h9, (eq_true h10), (eq_true h12), (condZ_t h12), (eq_false h15), (eq_true h27), h30, h31, h32, (eq_true h33), h35, h36, h37, (eq_false h38)]
                    · rcases ite_some b26 with ⟨h40, b26⟩ | ⟨h40, b26⟩
                      · cases b26
                        simp -implicitDefEqProofs -dsimp only [go_sem, (eq_true h2), (condZ_t h2), (eq_true h4), (condZ_t h4), (eq_true h5), h8, h9, (eq_true h10), (eq_true h12), (condZ_t h12), (eq_false h15), (eq_true h27), h30, h31, h32, (eq_false h33), (eq_true h40)]
                        refine next_of gb26 ?_
                        simp -implicitDefEqProofs -dsimp only [go_sem, (eq_true h2), (condZ_t h2), (eq_true h4), (condZ_t h4), (eq_true h5), h8, h9, (eq_true h10), (eq_true h12), (condZ_t h12), (eq_false h15), (eq_true h27), h30, h31, h32, (eq_false h33), (eq_true h40)]
                      · cases b26
                        have e41 := (done_of gb26).symm
                        subst e41
                        try dsimp only at h
                        cases h
                        simp -implicitDefEqProofs -dsimp only [go_sem, (eq_true h2), (condZ_t h2), (eq_true h4), (condZ_t h4), (eq_true h5), h8, h9, (eq_true h10), (eq_true h12), (condZ_t h12), (eq_false h15), (eq_true h27), h30, h31, h32, (eq_false h33), (eq_false h40)]
                  · cases b26
                    have e42 := (done_of gb26).symm
                    subst e42
                    try dsimp only at h
                    cases h
                    simp -implicitDefEqProofs -dsimp only [go_sem, (eq_true h2), (condZ_t h2), (eq_true h4), (condZ_t h4), (eq_true h5), h8, h9, (eq_true h10), (eq_true h12), (condZ_t h12), (eq_false h15), (eq_false h27)]
          · cases h
            simp -implicitDefEqProofs -dsimp only [go_sem, (eq_true h2), (condZ_t h2), (eq_true h4), (condZ_t h4), (eq_true h5), h8, h9, (eq_true h10), (eq_false h12), (condZ_f h12)]
        · cases h
          simp -implicitDefEqProofs -dsimp only [go_sem, (eq_true h2), (condZ_t h2), (eq_true h4), (condZ_t h4), (eq_true h5), h8, h9, (eq_false h10)]
      · cases h
        simp -implicitDefEqProofs -dsimp only [go_sem, (eq_true h2), (condZ_t h2), (eq_true h4), (condZ_t h4), (eq_false h5)]
    · cases h
      simp -implicitDefEqProofs -dsimp only [go_sem, (eq_true h2), (condZ_t h2), (eq_false h4), (condZ_f h4)]
  · cases h
    simp -implicitDefEqProofs -dsimp only [go_sem, (eq_false h2), (condZ_f h2)]
/- 49 loop.example/g00827/spec.StartState -/
def m_spec_StartState_L1_St (v14 : Int) (h640 : List Int) : (Int × (List Int)) → St
  | (v15, h100012289) => ⟨[(2, .ptr 128 1 0 0), (3, .ptr 192 1 0 0), (14, .lit (.int .i64 v14)), (15, .lit (.int .i64 v15))], [(128, 1, .var [.lit (.int .i64 0), .lit (.slice none 0 0), .lit (.slice none 0 0)]), (192, 1, .var [.lit (.int .i64 0), .ref 100012289 1 0 h100012289.length, .ref 640 1 0 h640.length]), (100012289, 1, .row true (rowsOf eI h100012289)), (640, 1, .row true (rowsOf eI h640))], 2⟩
attribute [go_sem] m_spec_StartState_L1_St
def hi49 : Hint where
  acts := fun _ => []
  draws := fun
    | _ => ⟨.nil, [], []⟩
theorem hi49a (i : Nat) : hi49.acts i = [] := rfl
theorem hi49v (i : Nat) : hi49.views i = none := rfl
attribute [go_sem] hi49a hi49v Go.Proofs.Tryz.ntmps49 Go.Proofs.Tryz.results49
theorem c_spec_StartState {s : GShow} {res : GState} (h : m_spec_StartState s = some res) : CallOk Go.Proofs.Tryz.prog 49 [.agg [.sl (rowsOf GNode.encS s.nodes), .sl (rowsOf GTie.enc s.ties), .lit (.int .i64 s.horizon)]] [] (.agg [.lit (.int .i64 res.now), .ref 20000 1 0 res.times.length, .ref 20001 1 0 res.values.length]) [(20000, 1, .row true (rowsOf eI res.times)), (20001, 1, .row true (rowsOf eI res.values))] := by
  refine callOk_of (ra := [.homeCell 128 1, .homeCell 128 2]) (md := mdT) hT (hi := hi49) Go.Proofs.Tryz.func49 rfl rfl (by decide +kernel) (by simp) ?_
  unfold m_spec_StartState at h
  obtain ⟨r1001, g1, h⟩ := obnd_some h
  simp -implicitDefEqProofs -dsimp only [go_sem]
  refine callW_of (c_spec_ShowOk g1) ?_
  rcases ite_some h with ⟨h2, h⟩ | ⟨h2, h⟩
  · obtain ⟨q1002, l3, h⟩ := obnd_some h
    simp -implicitDefEqProofs -dsimp only [go_sem, (eq_true h2), (condZ_t h2)]
    refine loopW_loopO (m1 := .mk) (m2 := .mk) [.homeCell 192 1, .nf [2, 3, 14, 15] [128, 192, 100012289, 640]] (m_spec_StartState_L1_St ((s.nodes.length : Nat) : Int) (List.replicate 3 0)) l3 ?_ ?_
    · simp -implicitDefEqProofs -dsimp only [go_sem, (eq_true h2), (condZ_t h2)]
    · intro nb4 sb4 bb4 b4 gb4
      obtain ⟨v15_1, h100012289_1⟩ := sb4
      unfold m_spec_StartState_L1 at b4
      try dsimp only at b4
      rcases ite_some b4 with ⟨h5, b4⟩ | ⟨h5, b4⟩
      · rcases ite_some b4 with ⟨h6, b4⟩ | ⟨h6, b4⟩
        · obtain ⟨h7, b4⟩ := chk_some b4
          obtain ⟨h8, b4⟩ := chk_some b4
          cases b4
          simp -implicitDefEqProofs -dsimp only [go_sem, (eq_true h2), (condZ_t h2), (eq_true h5), (eq_true h6), (eq_true h7), (eq_true h8)]
          refine next_of gb4 ?_
          simp -implicitDefEqProofs -dsimp only [go_sem, (eq_true h2), (condZ_t h2), (eq_true h5), (eq_true h6), (eq_true h7), (eq_true h8)]
        · obtain ⟨h9, b4⟩ := chk_some b4
          obtain ⟨h10, b4⟩ := chk_some b4
          cases b4
          simp -implicitDefEqProofs -dsimp only [go_sem, (eq_true h2), (condZ_t h2), (eq_true h5), (eq_false h6), (eq_true h9), (eq_true h10)]
          refine next_of gb4 ?_
          simp -implicitDefEqProofs -dsimp only [go_sem, (eq_true h2), (condZ_t h2), (eq_true h5), (eq_false h6), (eq_true h9), (eq_true h10)]
      · cases b4
        have e11 := (done_of gb4).symm
        subst e11
        try dsimp only at h
        cases h
        simp -implicitDefEqProofs -dsimp only [go_sem, (eq_true h2), (condZ_t h2), (eq_false h5)]
  · cases h
    simp -implicitDefEqProofs -dsimp only [go_sem, (eq_false h2), (condZ_f h2)]
/- 152 loop.example/g00827/spec.l13Active -/
def m_spec_l13Active_L1_St (v10 : List GTie) (v11 : Int) (v3_0 : Int) (v3_1 : List Int) (v3_2 : List Int) : (Int × (List Int)) → St
  | (v12, out) => ⟨[(3, .ptr 192 1 0 0), (5, .ref 512 1 0 out.length), (10, .sl (rowsOf GTie.enc v10)), (11, .lit (.int .i64 v11)), (12, .lit (.int .i64 v12))], [(192, 1, .var [.lit (.int .i64 v3_0), .sl (rowsOf eI v3_1), .sl (rowsOf eI v3_2)]), (512, 1, .row true (rowsOf eI out))], 2⟩
attribute [go_sem] m_spec_l13Active_L1_St
def hi152 : Hint where
  acts := fun _ => []
  draws := fun
    | _ => ⟨.nil, [], []⟩
theorem hi152a (i : Nat) : hi152.acts i = [] := rfl
theorem hi152v (i : Nat) : hi152.views i = none := rfl
attribute [go_sem] hi152a hi152v Go.Proofs.Tryz.ntmps152 Go.Proofs.Tryz.results152
theorem c_spec_l13Active {s : GShow} {v1 : GState} {res : List Int} (h : m_spec_l13Active s v1 = some res) : CallOk Go.Proofs.Tryz.prog 152 [.agg [.sl (rowsOf GNode.encS s.nodes), .sl (rowsOf GTie.enc s.ties), .lit (.int .i64 s.horizon)], .agg [.lit (.int .i64 v1.now), .sl (rowsOf eI v1.times), .sl (rowsOf eI v1.values)]] [] (.ref 20000 1 0 res.length) [(20000, 1, .row true (rowsOf eI res))] := by
  refine callOk_of (ra := [.home 4]) (md := mdT) hT (hi := hi152) Go.Proofs.Tryz.func152 rfl rfl (by decide +kernel) (by simp) ?_
  unfold m_spec_l13Active at h
  obtain ⟨q1004, l1, h⟩ := obnd_some h
  simp -implicitDefEqProofs -dsimp only [go_sem]
  refine loopW_loopO (m1 := .mk) (m2 := .mk) [.nf [3, 5, 10, 11, 12] [192, 512]] (m_spec_l13Active_L1_St s.ties ((s.ties.length : Nat) : Int) v1.now v1.times v1.values) l1 ?_ ?_
  · simp -implicitDefEqProofs -dsimp only [go_sem]
  · intro nb2 sb2 bb2 b2 gb2
    obtain ⟨v12_1, out_1⟩ := sb2
    unfold m_spec_l13Active_L1 at b2
    try dsimp only at b2
    rcases ite_some b2 with ⟨h3, b2⟩ | ⟨h3, b2⟩
    · obtain ⟨x1001, g4, b2⟩ := obnd_some b2
      obtain ⟨h5, h6, h7⟩ := getI_some g4
      rcases ite_some b2 with ⟨h8, b2⟩ | ⟨h8, b2⟩
      · obtain ⟨x1002, g9, b2⟩ := obnd_some b2
        obtain ⟨h10, h11, h12⟩ := getI_some g9
        rcases ite_some b2 with ⟨h13, b2⟩ | ⟨h13, b2⟩
        · cases b2
          simp -implicitDefEqProofs -dsimp only [go_sem, (eq_true h3), h5, h6, h7, (eq_true h8), (condZ_t h8), h10, h11, h12, (eq_true h13)]
          refine next_of gb2 ?_
          simp -implicitDefEqProofs -dsimp only [go_sem, (eq_true h3), h5, h6, h7, (eq_true h8), (condZ_t h8), h10, h11, h12, (eq_true h13)]
        · obtain ⟨x1003, g14, b2⟩ := obnd_some b2
          obtain ⟨h15, h16, h17⟩ := getI_some g14
          rcases ite_some b2 with ⟨h18, b2⟩ | ⟨h18, b2⟩
          · obtain ⟨h19, b2⟩ := chk_some b2
            obtain ⟨h20, b2⟩ := chk_some b2
            cases b2
            simp -implicitDefEqProofs -dsimp only [go_sem, (eq_true h3), h5, h6, h7, (eq_true h8), (condZ_t h8), h10, h11, h12, (eq_false h13), h15, h16, h17, (eq_true h18), (eq_true h19), (eq_true h20)]
            refine next_of gb2 ?_
            simp -implicitDefEqProofs -dsimp only [go_sem, (eq_true h3), h5, h6, h7, (eq_true h8), (condZ_t h8), h10, h11, h12, (eq_false h13), h15, h16, h17, (eq_true h18), (eq_true h19), (eq_true h20)]
          · cases b2
            simp -implicitDefEqProofs -dsimp only [go_sem, (eq_true h3), h5, h6, h7, (eq_true h8), (condZ_t h8), h10, h11, h12, (eq_false h13), h15, h16, h17, (eq_false h18)]
            refine next_of gb2 ?_
            simp -implicitDefEqProofs -dsimp only [go_sem, (eq_true h3), h5, h6, h7, (eq_true h8), (condZ_t h8), h10, h11, h12, (eq_false h13), h15, h16, h17, (eq_false h18)]
      · cases b2
        simp -implicitDefEqProofs -dsimp only [go_sem, (eq_true h3), h5, h6, h7, (eq_false h8), (condZ_f h8)]
        refine next_of gb2 ?_
        simp -implicitDefEqProofs -dsimp only [go_sem, (eq_true h3), h5, h6, h7, (eq_false h8), (condZ_f h8)]
    · cases b2
      have e21 := (done_of gb2).symm
      subst e21
      try dsimp only at h
      cases h
      simp -implicitDefEqProofs -dsimp only [go_sem, (eq_false h3)]
/- 133 loop.example/g00827/spec.l14Endings -/
def m_spec_l14Endings_L1_St (v16 : Int) (s_0 : List GNode) (s_1 : List GTie) (s_2 : Int) (v3_0 : Int) (v3_1 : List Int) (v3_2 : List Int) (v15 : List Int) : (Int × (List Int) × (List Int)) → St
  | (v17, must, may) => ⟨[(2, .ptr 128 1 0 0), (3, .ptr 192 1 0 0), (6, .ref 704 1 0 must.length), (7, .ref 768 1 0 may.length), (15, .ref 960 1 0 v15.length), (16, .lit (.int .i64 v16)), (17, .lit (.int .i64 v17))], [(128, 1, .var [.sl (rowsOf GNode.encS s_0), .sl (rowsOf GTie.enc s_1), .lit (.int .i64 s_2)]), (192, 1, .var [.lit (.int .i64 v3_0), .sl (rowsOf eI v3_1), .sl (rowsOf eI v3_2)]), (704, 1, .row true (rowsOf eI must)), (768, 1, .row true (rowsOf eI may)), (960, 1, .row true (rowsOf eI v15))], 2⟩
attribute [go_sem] m_spec_l14Endings_L1_St
def hi133 : Hint where
  acts := fun _ => []
  draws := fun
    | 6 => ⟨.cons ⟨0, false, []⟩ (.cons ⟨1, false, []⟩ (.cons ⟨2, false, []⟩ (.cons ⟨3, false, []⟩ (.cons ⟨4, false, []⟩ (.cons ⟨5, false, []⟩ (.cons ⟨6, false, []⟩ (.cons ⟨7, false, []⟩ (.cons ⟨8, false, []⟩ (.cons ⟨9, false, []⟩ (.cons ⟨10, false, []⟩ (.cons ⟨11, false, []⟩ (.cons ⟨12, false, []⟩ (.cons ⟨13, false, []⟩ .nil))))))))))))), [[], [0], [], [2], [], [4], [], [4, 5, 6], [4, 5, 6, 7], [4, 5, 6, 7, 8], [2, 3, 4, 5, 6, 7, 8, 9], [2, 3, 4, 5, 6, 7, 8, 9, 10], [0, 1, 2, 3, 4, 5, 6, 7, 8, 9, 10, 11], [0, 1, 2, 3, 4, 5, 6, 7, 8, 9, 10, 11, 12]], [0, 1, 2, 3, 4, 5, 6, 7, 8, 9, 10, 11, 12, 13]⟩
    | _ => ⟨.nil, [], []⟩
theorem hi133a (i : Nat) : hi133.acts i = [] := rfl
theorem hi133v (i : Nat) : hi133.views i = none := rfl
attribute [go_sem] hi133a hi133v Go.Proofs.Tryz.ntmps133 Go.Proofs.Tryz.results133
@[go_sem] theorem hi133d6 : (hi133.draws 6).order = .cons ⟨0, false, []⟩ (.cons ⟨1, false, []⟩ (.cons ⟨2, false, []⟩ (.cons ⟨3, false, []⟩ (.cons ⟨4, false, []⟩ (.cons ⟨5, false, []⟩ (.cons ⟨6, false, []⟩ (.cons ⟨7, false, []⟩ (.cons ⟨8, false, []⟩ (.cons ⟨9, false, []⟩ (.cons ⟨10, false, []⟩ (.cons ⟨11, false, []⟩ (.cons ⟨12, false, []⟩ (.cons ⟨13, false, []⟩ .nil))))))))))))) := rfl
theorem c_spec_l14Endings {s : GShow} {v1 : GState} {res : (List Int) × (List Int)} (h : m_spec_l14Endings s v1 = some res) : CallOk Go.Proofs.Tryz.prog 133 [.agg [.sl (rowsOf GNode.encS s.nodes), .sl (rowsOf GTie.enc s.ties), .lit (.int .i64 s.horizon)], .agg [.lit (.int .i64 v1.now), .sl (rowsOf eI v1.times), .sl (rowsOf eI v1.values)]] [] (.tup [.ref 20000 1 0 res.1.length, .ref 20001 1 0 res.2.length]) [(20000, 1, .row true (rowsOf eI res.1)), (20001, 1, .row true (rowsOf eI res.2))] := by
  refine callOk_of (ra := [.home 4, .home 5]) (md := mdT) hT (hi := hi133) Go.Proofs.Tryz.func133 rfl rfl (by decide +kernel) (by simp) ?_
  unfold m_spec_l14Endings at h
  obtain ⟨r1001, g1, h⟩ := obnd_some h
  simp -implicitDefEqProofs -dsimp only [go_sem]
  refine callW_of (c_spec_l13Active g1) ?_
  obtain ⟨q1005, l2, h⟩ := obnd_some h
  simp -implicitDefEqProofs -dsimp only [go_sem]
  refine loopW_loopO (m1 := .mk) (m2 := .mk) [.nf [2, 3, 6, 7, 15, 16, 17] [128, 192, 704, 768, 960]] (m_spec_l14Endings_L1_St ((r1001.length : Nat) : Int) s.nodes s.ties s.horizon v1.now v1.times v1.values r1001) l2 ?_ ?_
  · simp -implicitDefEqProofs -dsimp only [go_sem]
  · intro nb3 sb3 bb3 b3 gb3
    obtain ⟨v17_1, must_1, may_1⟩ := sb3
    unfold m_spec_l14Endings_L1 at b3
    try dsimp only at b3
    rcases ite_some b3 with ⟨h4, b3⟩ | ⟨h4, b3⟩
    · obtain ⟨x1002, g5, b3⟩ := obnd_some b3
      obtain ⟨h6, h7, h8⟩ := getI_some g5
      obtain ⟨x1003, g9, b3⟩ := obnd_some b3
      obtain ⟨h10, h11, h12⟩ := getI_some g9
      obtain ⟨x1004, g13, b3⟩ := obnd_some b3
      obtain ⟨h14, h15, h16⟩ := getI_some g13
      rcases ite_some b3 with ⟨h17, b3⟩ | ⟨h17, b3⟩
      · obtain ⟨h18, b3⟩ := chk_some b3
        obtain ⟨h19, b3⟩ := chk_some b3
        cases b3
        simp -implicitDefEqProofs -dsimp only [go_sem, (eq_true h4), h6, h7, h8, h10, h11, h12, h14, h15, h16, (eq_true h17), (eq_true h18), (eq_true h19)]
        refine next_of gb3 ?_
        simp -implicitDefEqProofs -dsimp only [go_sem, (eq_true h4), h6, h7, h8, h10, h11, h12, h14, h15, h16, (eq_true h17), (eq_true h18), (eq_true h19)]
      · rcases ite_some b3 with ⟨h20, b3⟩ | ⟨h20, b3⟩
        · obtain ⟨h21, b3⟩ := chk_some b3
          obtain ⟨h22, b3⟩ := chk_some b3
          cases b3
          simp -implicitDefEqProofs -dsimp only [go_sem, (eq_true h4), h6, h7, h8, h10, h11, h12, h14, h15, h16, (eq_false h17), (eq_true h20), (eq_true h21), (eq_true h22)]
          refine next_of gb3 ?_
          simp -implicitDefEqProofs -dsimp only [go_sem, (eq_true h4), h6, h7, h8, h10, h11, h12, h14, h15, h16, (eq_false h17), (eq_true h20), (eq_true h21), (eq_true h22)]
        · cases b3
          simp -implicitDefEqProofs -dsimp only [go_sem, (eq_true h4), h6, h7, h8, h10, h11, h12, h14, h15, h16, (eq_false h17), (eq_false h20)]
          refine next_of gb3 ?_
          simp -implicitDefEqProofs -dsimp only [go_sem, (eq_true h4), h6, h7, h8, h10, h11, h12, h14, h15, h16, (eq_false h17), (eq_false h20)]
    · cases b3
      have e23 := (done_of gb3).symm
      subst e23
      try dsimp only at h
      cases h
      simp -implicitDefEqProofs -dsimp only [go_sem, (eq_false h4)]
/- 135 loop.example/g00827/spec.l14Some -/
def m_spec_l14Some_L1_St (n : Int) (v9 : List Int) (v10 : Int) : (Int × (List Int)) → St
  | (v11, out) => ⟨[(1, .lit (.int .i64 n)), (5, .ref 512 1 0 out.length), (9, .sl (rowsOf eI v9)), (10, .lit (.int .i64 v10)), (11, .lit (.int .i64 v11))], [(512, 1, .row true (rowsOf eI out))], 2⟩
attribute [go_sem] m_spec_l14Some_L1_St
def hi135 : Hint where
  acts := fun _ => []
  draws := fun
    | _ => ⟨.nil, [], []⟩
theorem hi135a (i : Nat) : hi135.acts i = [] := rfl
theorem hi135v (i : Nat) : hi135.views i = none := rfl
attribute [go_sem] hi135a hi135v Go.Proofs.Tryz.ntmps135 Go.Proofs.Tryz.results135
theorem c_spec_l14Some {l : List Int} {n : Int} {res : List Int} (h : m_spec_l14Some l n = some res) : CallOk Go.Proofs.Tryz.prog 135 [.sl (rowsOf eI l), .lit (.int .i64 n)] [] (.ref 20000 1 0 res.length) [(20000, 1, .row true (rowsOf eI res))] := by
  refine callOk_of (ra := [.home 4]) (md := mdT) hT (hi := hi135) Go.Proofs.Tryz.func135 rfl rfl (by decide +kernel) (by simp) ?_
  unfold m_spec_l14Some at h
  obtain ⟨q1002, l1, h⟩ := obnd_some h
  simp -implicitDefEqProofs -dsimp only [go_sem]
  refine loopW_loopO (m1 := .mk) (m2 := .mk) [.nf [1, 5, 9, 10, 11] [512]] (m_spec_l14Some_L1_St n l ((l.length : Nat) : Int)) l1 ?_ ?_
  · simp -implicitDefEqProofs -dsimp only [go_sem]
  · intro nb2 sb2 bb2 b2 gb2
    obtain ⟨v11_1, out_1⟩ := sb2
    unfold m_spec_l14Some_L1 at b2
    try dsimp only at b2
    rcases ite_some b2 with ⟨h3, b2⟩ | ⟨h3, b2⟩
    · obtain ⟨x1001, g4, b2⟩ := obnd_some b2
      obtain ⟨h5, h6, h7⟩ := getI_some g4
      obtain ⟨h8, b2⟩ := chk_some b2
      rcases ite_some b2 with ⟨h9, b2⟩ | ⟨h9, b2⟩
      · obtain ⟨h10, b2⟩ := chk_some b2
        obtain ⟨h11, b2⟩ := chk_some b2
        cases b2
        simp -implicitDefEqProofs -dsimp only [go_sem, (eq_true h3), h5, h6, h7, (eq_false h8), (eq_true h9), (eq_true h10), (eq_true h11)]
        refine next_of gb2 ?_
        simp -implicitDefEqProofs -dsimp only [go_sem, (eq_true h3), h5, h6, h7, (eq_false h8), (eq_true h9), (eq_true h10), (eq_true h11)]
      · cases b2
        simp -implicitDefEqProofs -dsimp only [go_sem, (eq_true h3), h5, h6, h7, (eq_false h8), (eq_false h9)]
        refine next_of gb2 ?_
        simp -implicitDefEqProofs -dsimp only [go_sem, (eq_true h3), h5, h6, h7, (eq_false h8), (eq_false h9)]
    · cases b2
      have e12 := (done_of gb2).symm
      subst e12
      try dsimp only at h
      cases h
      simp -implicitDefEqProofs -dsimp only [go_sem, (eq_false h3)]
/- 134 loop.example/g00827/spec.l14Merge -/
def m_spec_l14Merge_L1_St (a : List Int) (b : List Int) : (Int × Int × (List Int)) → St
  | (i, k, out) => ⟨[(0, .sl (rowsOf eI a)), (1, .sl (rowsOf eI b)), (5, .ref 512 1 0 out.length), (6, .lit (.int .i64 i)), (7, .lit (.int .i64 k))], [(512, 1, .row true (rowsOf eI out))], 2⟩
attribute [go_sem] m_spec_l14Merge_L1_St
def hi134 : Hint where
  acts := fun _ => []
  draws := fun
    | 5 => ⟨.cons ⟨0, false, []⟩ (.cons ⟨1, false, []⟩ (.cons ⟨2, false, []⟩ (.cons ⟨3, false, []⟩ (.cons ⟨4, false, []⟩ (.cons ⟨5, false, []⟩ (.cons ⟨6, false, []⟩ (.cons ⟨7, false, []⟩ (.cons ⟨8, false, []⟩ (.cons ⟨9, false, []⟩ (.cons ⟨10, false, []⟩ (.cons ⟨11, false, []⟩ (.cons ⟨12, false, []⟩ (.cons ⟨13, false, []⟩ (.cons ⟨14, false, []⟩ (.cons ⟨15, false, []⟩ (.cons ⟨16, false, []⟩ (.cons ⟨17, false, []⟩ (.cons ⟨18, false, []⟩ (.cons ⟨19, false, []⟩ (.cons ⟨20, false, []⟩ .nil)))))))))))))))))))), [[], [], [1], [0, 1, 2], [0, 1, 2, 3], [0, 1, 2, 3, 4], [0, 1, 2, 3, 4], [0, 1, 2, 3, 4, 6], [0, 1, 2, 3, 4, 5, 6, 7], [0, 1, 2, 3, 4, 5, 6, 7, 8], [0, 1, 2, 3, 4, 5, 6, 7, 8, 9], [0, 1, 2, 3, 4, 5, 6, 7, 8, 9], [0, 1, 2, 3, 4, 5, 6, 7, 8, 9, 10, 11], [0, 1, 2, 3, 4, 5, 6, 7, 8, 9, 10, 11, 12], [0, 1, 2, 3, 4, 5, 6, 7, 8, 9], [0, 1, 2, 3, 4, 5, 6, 7, 8, 9], [0, 1, 2, 3, 4, 5, 6, 7, 8, 9, 14, 15], [0, 1, 2, 3, 4, 5, 6, 7, 8, 9, 14, 15, 16], [0, 1, 2, 3, 4, 5, 6, 7, 8, 9, 10, 11, 12, 13, 14, 15, 16, 17], [0, 1, 2, 3, 4, 5, 6, 7, 8, 9, 10, 11, 12, 13, 14, 15, 16, 17, 18], [0, 1, 2, 3, 4, 5, 6, 7, 8, 9, 10, 11, 12, 13, 14, 15, 16, 17, 18, 19]], [0, 1, 2, 3, 4, 5, 6, 7, 8, 9, 10, 11, 12, 13, 14, 15, 16, 17, 18, 19, 20]⟩
    | _ => ⟨.nil, [], []⟩
theorem hi134a (i : Nat) : hi134.acts i = [] := rfl
theorem hi134v (i : Nat) : hi134.views i = none := rfl
attribute [go_sem] hi134a hi134v Go.Proofs.Tryz.ntmps134 Go.Proofs.Tryz.results134
@[go_sem] theorem hi134d5 : (hi134.draws 5).order = .cons ⟨0, false, []⟩ (.cons ⟨1, false, []⟩ (.cons ⟨2, false, []⟩ (.cons ⟨3, false, []⟩ (.cons ⟨4, false, []⟩ (.cons ⟨5, false, []⟩ (.cons ⟨6, false, []⟩ (.cons ⟨7, false, []⟩ (.cons ⟨8, false, []⟩ (.cons ⟨9, false, []⟩ (.cons ⟨10, false, []⟩ (.cons ⟨11, false, []⟩ (.cons ⟨12, false, []⟩ (.cons ⟨13, false, []⟩ (.cons ⟨14, false, []⟩ (.cons ⟨15, false, []⟩ (.cons ⟨16, false, []⟩ (.cons ⟨17, false, []⟩ (.cons ⟨18, false, []⟩ (.cons ⟨19, false, []⟩ (.cons ⟨20, false, []⟩ .nil)))))))))))))))))))) := rfl
theorem c_spec_l14Merge {a : List Int} {b : List Int} {res : List Int} (h : m_spec_l14Merge a b = some res) : CallOk Go.Proofs.Tryz.prog 134 [.sl (rowsOf eI a), .sl (rowsOf eI b)] [] (.ref 20000 1 0 res.length) [(20000, 1, .row true (rowsOf eI res))] := by
  refine callOk_of (ra := [.home 4]) (md := mdT) hT (hi := hi134) Go.Proofs.Tryz.func134 rfl rfl (by decide +kernel) (by simp) ?_
  unfold m_spec_l14Merge at h
  obtain ⟨q1006, l1, h⟩ := obnd_some h
  simp -implicitDefEqProofs -dsimp only [go_sem]
  refine loopW_loopO (m1 := .mk) (m2 := .mk) [.nf [0, 1, 5, 6, 7] [512]] (m_spec_l14Merge_L1_St a b) l1 ?_ ?_
  · simp -implicitDefEqProofs -dsimp only [go_sem]
  · intro nb2 sb2 bb2 b2 gb2
    obtain ⟨i_1, k_1, out_1⟩ := sb2
    unfold m_spec_l14Merge_L1 at b2
    try dsimp only at b2
    rcases ite_some b2 with ⟨h3, b2⟩ | ⟨h3, b2⟩
    · rcases ite_some b2 with ⟨h4, b2⟩ | ⟨h4, b2⟩
      · obtain ⟨x1001, g5, b2⟩ := obnd_some b2
        obtain ⟨h6, h7, h8⟩ := getI_some g5
        obtain ⟨h9, b2⟩ := chk_some b2
        obtain ⟨h10, b2⟩ := chk_some b2
        cases b2
        simp -implicitDefEqProofs -dsimp only [go_sem, (eq_true h3), (eq_true h4), h6, h7, h8, (eq_true h9), (eq_true h10)]
        refine next_of gb2 ?_
        simp -implicitDefEqProofs -dsimp only [go_sem, (eq_true h3), (eq_true h4), h6, h7, h8, (eq_true h9), (eq_true h10)]
      · obtain ⟨x1002, g11, b2⟩ := obnd_some b2
        obtain ⟨h12, h13, h14⟩ := getI_some g11
        obtain ⟨x1003, g15, b2⟩ := obnd_some b2
        obtain ⟨h16, h17, h18⟩ := getI_some g15
        rcases ite_some b2 with ⟨h19, b2⟩ | ⟨h19, b2⟩
        · obtain ⟨h20, b2⟩ := chk_some b2
          obtain ⟨h21, b2⟩ := chk_some b2
          cases b2
          simp -implicitDefEqProofs -dsimp only [go_sem, (eq_true h3), (eq_false h4), h12, h13, h14, h16, h17, h18, (eq_true h19), (eq_true h20), (eq_true h21)]
          refine next_of gb2 ?_
          simp -implicitDefEqProofs -dsimp only [go_sem, (eq_true h3), (eq_false h4), h12, h13, h14, h16, h17, h18, (eq_true h19), (eq_true h20), (eq_true h21)]
        · obtain ⟨h22, b2⟩ := chk_some b2
          obtain ⟨h23, b2⟩ := chk_some b2
          cases b2
          simp -implicitDefEqProofs -dsimp only [go_sem, (eq_true h3), (eq_false h4), h12, h13, h14, h16, h17, h18, (eq_false h19), (eq_true h22), (eq_true h23)]
          refine next_of gb2 ?_
          simp -implicitDefEqProofs -dsimp only [go_sem, (eq_true h3), (eq_false h4), h12, h13, h14, h16, h17, h18, (eq_false h19), (eq_true h22), (eq_true h23)]
    · rcases ite_some b2 with ⟨h24, b2⟩ | ⟨h24, b2⟩
      · rcases ite_some b2 with ⟨h25, b2⟩ | ⟨h25, b2⟩
        · obtain ⟨x1004, g26, b2⟩ := obnd_some b2
          obtain ⟨h27, h28, h29⟩ := getI_some g26
          obtain ⟨h30, b2⟩ := chk_some b2
          obtain ⟨h31, b2⟩ := chk_some b2
          cases b2
          simp -implicitDefEqProofs -dsimp only [go_sem, (eq_false h3), (eq_true h24), (eq_true h25), h27, h28, h29, (eq_true h30), (eq_true h31)]
          refine next_of gb2 ?_
          simp -implicitDefEqProofs -dsimp only [go_sem, (eq_false h3), (eq_true h24), (eq_true h25), h27, h28, h29, (eq_true h30), (eq_true h31)]
        · obtain ⟨x1005, g32, b2⟩ := obnd_some b2
          obtain ⟨h33, h34, h35⟩ := getI_some g32
          obtain ⟨h36, b2⟩ := chk_some b2
          obtain ⟨h37, b2⟩ := chk_some b2
          cases b2
          simp -implicitDefEqProofs -dsimp only [go_sem, (eq_false h3), (eq_true h24), (eq_false h25), h33, h34, h35, (eq_true h36), (eq_true h37)]
          refine next_of gb2 ?_
          simp -implicitDefEqProofs -dsimp only [go_sem, (eq_false h3), (eq_true h24), (eq_false h25), h33, h34, h35, (eq_true h36), (eq_true h37)]
      · cases b2
        have e38 := (done_of gb2).symm
        subst e38
        try dsimp only at h
        cases h
        simp -implicitDefEqProofs -dsimp only [go_sem, (eq_false h3), (eq_false h24)]
/- 104 loop.example/g00827/spec.EndingsOf -/
def m_spec_EndingsOf_L1_St (must : List Int) (may : List Int) : (Int × (List (List Int))) → St
  | (n, out) => ⟨[(5, .ref 1472 1 0 must.length), (6, .ref 1473 1 0 may.length), (7, .ref 1664 1 0 out.length), (8, .lit (.int .i64 n))], [(1472, 1, .row true (rowsOf eI must)), (1473, 1, .row true (rowsOf eI may)), (1664, 1, .row true (rowsOf (eLO eI) out))], 2⟩
attribute [go_sem] m_spec_EndingsOf_L1_St
def hi104 : Hint where
  acts := fun _ => []
  draws := fun
    | _ => ⟨.nil, [], []⟩
theorem hi104a (i : Nat) : hi104.acts i = [] := rfl
theorem hi104v (i : Nat) : hi104.views i = none := rfl
attribute [go_sem] hi104a hi104v Go.Proofs.Tryz.ntmps104 Go.Proofs.Tryz.results104
theorem c_spec_EndingsOf {s : GShow} {v1 : GState} {res : List (List Int)} (h : m_spec_EndingsOf s v1 = some res) : CallOk Go.Proofs.Tryz.prog 104 [.agg [.sl (rowsOf GNode.encS s.nodes), .sl (rowsOf GTie.enc s.ties), .lit (.int .i64 s.horizon)], .agg [.lit (.int .i64 v1.now), .sl (rowsOf eI v1.times), .sl (rowsOf eI v1.values)]] [] (.ref 20000 1 0 res.length) [(20000, 1, .row true (rowsOf (eLO eI) res))] := by
  refine callOk_of (ra := [.home 4]) (md := mdT) hT (hi := hi104) Go.Proofs.Tryz.func104 rfl rfl (by decide +kernel) (by simp) ?_
  unfold m_spec_EndingsOf at h
  obtain ⟨r1001, g1, h⟩ := obnd_some h
  simp -implicitDefEqProofs -dsimp only [go_sem]
  refine callW_of (c_spec_StateOk g1) ?_
  rcases ite_some h with ⟨h2, h⟩ | ⟨h2, h⟩
  · rcases ite_some h with ⟨h3, h⟩ | ⟨h3, h⟩
    · cases h
      simp -implicitDefEqProofs -dsimp only [go_sem, (eq_true h2), (condZ_t h2), (eq_true h3)]
    · obtain ⟨r1002, g4, h⟩ := obnd_some h
      simp -implicitDefEqProofs -dsimp only [go_sem, (eq_true h2), (condZ_t h2), (eq_false h3)]
      refine callW_of (c_spec_l14Endings g4) ?_
      obtain ⟨q1005, l5, h⟩ := obnd_some h
      simp -implicitDefEqProofs -dsimp only [go_sem, (eq_true h2), (condZ_t h2), (eq_false h3)]
      refine loopW_loopO (m1 := .mk) (m2 := .mk) [.nf [5, 6, 7, 8] [1472, 1473, 1664]] (m_spec_EndingsOf_L1_St r1002.1 r1002.2) l5 ?_ ?_
      · simp -implicitDefEqProofs -dsimp only [go_sem, (eq_true h2), (condZ_t h2), (eq_false h3)]
      · intro nb6 sb6 bb6 b6 gb6
        obtain ⟨n_1, out_1⟩ := sb6
        unfold m_spec_EndingsOf_L1 at b6
        try dsimp only at b6
        obtain ⟨h7, b6⟩ := chk_some b6
        rcases ite_some b6 with ⟨h8, b6⟩ | ⟨h8, b6⟩
        · obtain ⟨r1003, g9, b6⟩ := obnd_some b6
          simp -implicitDefEqProofs -dsimp only [go_sem, (eq_true h2), (condZ_t h2), (eq_false h3), (eq_false h7), (eq_true h8)]
          refine callW_of (c_spec_l14Some g9) ?_
          obtain ⟨r1004, g10, b6⟩ := obnd_some b6
          simp -implicitDefEqProofs -dsimp only [go_sem, (eq_true h2), (condZ_t h2), (eq_false h3), (eq_false h7), (eq_true h8)]
          refine callW_of (c_spec_l14Merge g10) ?_
          obtain ⟨h11, b6⟩ := chk_some b6
          obtain ⟨h12, b6⟩ := chk_some b6
          cases b6
          simp -implicitDefEqProofs -dsimp only [go_sem, (eq_true h2), (condZ_t h2), (eq_false h3), (eq_false h7), (eq_true h8), (eq_true h11), (eq_true h12)]
          refine next_of gb6 ?_
          simp -implicitDefEqProofs -dsimp only [go_sem, (eq_true h2), (condZ_t h2), (eq_false h3), (eq_false h7), (eq_true h8), (eq_true h11), (eq_true h12)]
        · cases b6
          have e13 := (done_of gb6).symm
          subst e13
          try dsimp only at h
          cases h
          simp -implicitDefEqProofs -dsimp only [go_sem, (eq_true h2), (condZ_t h2), (eq_false h3), (eq_false h7), (eq_false h8)]
  · cases h
    simp -implicitDefEqProofs -dsimp only [go_sem, (eq_false h2), (condZ_f h2)]
/- 103 loop.example/g00827/spec.l14In -/
def m_spec_l14In_L1_St (set : List Int) (v7 : List (List Int)) (v8 : Int) (v9 : Int) : St := ⟨[(1, .sl (rowsOf eI set)), (7, .sl (rowsOf (eLS eI) v7)), (8, .lit (.int .i64 v8)), (9, .lit (.int .i64 v9))], [], 2⟩
attribute [go_sem] m_spec_l14In_L1_St
def hi103 : Hint where
  acts := fun _ => []
  draws := fun
    | _ => ⟨.nil, [], []⟩
theorem hi103a (i : Nat) : hi103.acts i = [] := rfl
theorem hi103v (i : Nat) : hi103.views i = none := rfl
attribute [go_sem] hi103a hi103v Go.Proofs.Tryz.ntmps103 Go.Proofs.Tryz.results103
theorem c_spec_l14In {l : List (List Int)} {set : List Int} {res : Bool} (h : m_spec_l14In l set = some res) : CallOk Go.Proofs.Tryz.prog 103 [.sl (rowsOf (eLS eI) l), .sl (rowsOf eI set)] [] (.lit (.bool res)) [] := by
  refine callOk_of (ra := []) (md := mdT) hT (hi := hi103) Go.Proofs.Tryz.func103 rfl rfl (by decide +kernel) (by simp) ?_
  unfold m_spec_l14In at h
  obtain ⟨q1003, l1, h⟩ := obnd_some h
  simp -implicitDefEqProofs -dsimp only [go_sem]
  refine loopW_loopO (m1 := .mk) (m2 := .mk) [.nf [1, 7, 8, 9] []] (m_spec_l14In_L1_St set l ((l.length : Nat) : Int)) l1 ?_ ?_
  · simp -implicitDefEqProofs -dsimp only [go_sem]
  · intro nb2 sb2 bb2 b2 gb2
    obtain ⟨v9_1, eb2⟩ : ∃ v, v = sb2 := ⟨_, rfl⟩; subst eb2
    unfold m_spec_l14In_L1 at b2
    try dsimp only at b2
    rcases ite_some b2 with ⟨h3, b2⟩ | ⟨h3, b2⟩
    · obtain ⟨x1001, g4, b2⟩ := obnd_some b2
      obtain ⟨h5, h6, h7⟩ := getI_some g4
      obtain ⟨r1002, g8, b2⟩ := obnd_some b2
      simp -implicitDefEqProofs -dsimp only [go_sem, (eq_true h3), h5, h6, h7]
      refine callW_of (c_spec_l08Same g8) ?_
      rcases ite_some b2 with ⟨h9, b2⟩ | ⟨h9, b2⟩
      · cases b2
        have e10 := (done_of gb2).symm
        subst e10
        try dsimp only at h
        cases h
        simp -implicitDefEqProofs -dsimp only [go_sem, (eq_true h3), h5, h6, h7, (eq_true h9), (condZ_t h9)]
      · cases b2
        simp -implicitDefEqProofs -dsimp only [go_sem, (eq_true h3), h5, h6, h7, (eq_false h9), (condZ_f h9)]
        refine next_of gb2 ?_
        simp -implicitDefEqProofs -dsimp only [go_sem, (eq_true h3), h5, h6, h7, (eq_false h9), (condZ_f h9)]
    · cases b2
      have e11 := (done_of gb2).symm
      subst e11
      try dsimp only at h
      cases h
      simp -implicitDefEqProofs -dsimp only [go_sem, (eq_false h3)]
/- 109 loop.example/g00827/spec.l13Copy -/
def hi109 : Hint where
  acts := fun _ => []
  draws := fun
    | 1 => ⟨.cons ⟨0, true, []⟩ (.cons ⟨1, true, []⟩ (.cons ⟨3, true, []⟩ (.cons ⟨4, true, []⟩ (.cons ⟨7, true, []⟩ (.cons ⟨8, true, []⟩ (.fork (.cons ⟨2, false, [0, 1, 3, 4, 7, 8]⟩ (.fork (.cons ⟨5, false, [0, 1, 7, 8]⟩ (.cons ⟨6, false, [0, 1, 3, 4, 7, 8]⟩ (.cons ⟨9, false, [0, 1]⟩ (.cons ⟨10, false, []⟩ (.cons ⟨11, false, []⟩ .nil))))) (.cons ⟨6, false, [0, 1, 3, 4, 7, 8]⟩ (.cons ⟨5, false, [0, 1, 7, 8]⟩ (.cons ⟨9, false, [0, 1]⟩ (.cons ⟨10, false, []⟩ (.cons ⟨11, false, []⟩ .nil))))))) (.cons ⟨6, false, [0, 1, 3, 4, 7, 8]⟩ (.cons ⟨2, false, [0, 1, 3, 4, 7, 8]⟩ (.cons ⟨5, false, [0, 1, 7, 8]⟩ (.cons ⟨9, false, [0, 1]⟩ (.cons ⟨10, false, []⟩ (.cons ⟨11, false, []⟩ .nil)))))))))))), [[], [0], [], [], [3], [2, 3, 4], [], [], [7], [2, 3, 4, 5, 6, 7, 8], [0, 1, 2, 3, 4, 5, 6, 7, 8, 9], [0, 1, 2, 3, 4, 5, 6, 7, 8, 9, 10]], [0, 1, 2, 3, 4, 5, 6, 7, 8, 9, 10, 11]⟩
    | _ => ⟨.nil, [], []⟩
theorem hi109a (i : Nat) : hi109.acts i = [] := rfl
theorem hi109v (i : Nat) : hi109.views i = none := rfl
attribute [go_sem] hi109a hi109v Go.Proofs.Tryz.ntmps109 Go.Proofs.Tryz.results109
@[go_sem] theorem hi109d1 : (hi109.draws 1).order = .cons ⟨0, true, []⟩ (.cons ⟨1, true, []⟩ (.cons ⟨3, true, []⟩ (.cons ⟨4, true, []⟩ (.cons ⟨7, true, []⟩ (.cons ⟨8, true, []⟩ (.fork (.cons ⟨2, false, [0, 1, 3, 4, 7, 8]⟩ (.fork (.cons ⟨5, false, [0, 1, 7, 8]⟩ (.cons ⟨6, false, [0, 1, 3, 4, 7, 8]⟩ (.cons ⟨9, false, [0, 1]⟩ (.cons ⟨10, false, []⟩ (.cons ⟨11, false, []⟩ .nil))))) (.cons ⟨6, false, [0, 1, 3, 4, 7, 8]⟩ (.cons ⟨5, false, [0, 1, 7, 8]⟩ (.cons ⟨9, false, [0, 1]⟩ (.cons ⟨10, false, []⟩ (.cons ⟨11, false, []⟩ .nil))))))) (.cons ⟨6, false, [0, 1, 3, 4, 7, 8]⟩ (.cons ⟨2, false, [0, 1, 3, 4, 7, 8]⟩ (.cons ⟨5, false, [0, 1, 7, 8]⟩ (.cons ⟨9, false, [0, 1]⟩ (.cons ⟨10, false, []⟩ (.cons ⟨11, false, []⟩ .nil)))))))))))) := rfl
theorem c_spec_l13Copy {v0 : GState} {res : GState} (h : m_spec_l13Copy v0 = some res) : CallOk Go.Proofs.Tryz.prog 109 [.agg [.lit (.int .i64 v0.now), .sl (rowsOf eI v0.times), .sl (rowsOf eI v0.values)]] [] (.agg [.lit (.int .i64 res.now), .ref 20000 1 0 res.times.length, .ref 20001 1 0 res.values.length]) [(20000, 1, .row true (rowsOf eI res.times)), (20001, 1, .row true (rowsOf eI res.values))] := by
  refine callOk_of (ra := [.homeCell 128 1, .homeCell 128 2]) (md := mdT) hT (hi := hi109) Go.Proofs.Tryz.func109 rfl rfl (by decide +kernel) (by simp) ?_
  unfold m_spec_l13Copy at h
  try simp -implicitDefEqProofs -dsimp only [go_sem]
  refine zforkI ?_ ?_
  · try simp -implicitDefEqProofs -dsimp only [go_sem]
    refine zforkI ?_ ?_
    · obtain ⟨h1, h⟩ := chk_some h
      obtain ⟨h2, h⟩ := chk_some h
      obtain ⟨h3, h⟩ := chk_some h
      obtain ⟨h4, h⟩ := chk_some h
      cases h
      simp -implicitDefEqProofs -dsimp only [go_sem, (eq_true h1), (eq_true h2), (eq_true h3), (eq_true h4)]
    · obtain ⟨h5, h⟩ := chk_some h
      obtain ⟨h6, h⟩ := chk_some h
      obtain ⟨h7, h⟩ := chk_some h
      obtain ⟨h8, h⟩ := chk_some h
      cases h
      simp -implicitDefEqProofs -dsimp only [go_sem, (eq_true h5), (eq_true h6), (eq_true h7), (eq_true h8)]
  · obtain ⟨h9, h⟩ := chk_some h
    obtain ⟨h10, h⟩ := chk_some h
    obtain ⟨h11, h⟩ := chk_some h
    obtain ⟨h12, h⟩ := chk_some h
    cases h
    simp -implicitDefEqProofs -dsimp only [go_sem, (eq_true h9), (eq_true h10), (eq_true h11), (eq_true h12)]
/- 105 loop.example/g00827/spec.l14End -/
def m_spec_l14End_L1_St (v12 : List Int) (v13 : Int) (s_0 : List GNode) (s_1 : List GTie) (s_2 : Int) (v4_0 : Int) (v4_1 : List Int) (v4_2 : List Int) (out_0 : Int) (h705 : List Int) : (Int × (List Int)) → St
  | (v14, h704) => ⟨[(3, .ptr 192 1 0 0), (4, .ptr 256 1 0 0), (6, .ptr 384 1 0 0), (7, .ptr 448 1 0 0), (12, .sl (rowsOf eI v12)), (13, .lit (.int .i64 v13)), (14, .lit (.int .i64 v14))], [(192, 1, .var [.sl (rowsOf GNode.encS s_0), .sl (rowsOf GTie.enc s_1), .lit (.int .i64 s_2)]), (256, 1, .var [.lit (.int .i64 v4_0), .sl (rowsOf eI v4_1), .sl (rowsOf eI v4_2)]), (384, 1, .var [.lit (.int .i64 0), .lit (.slice none 0 0), .lit (.slice none 0 0)]), (448, 1, .var [.lit (.int .i64 out_0), .ref 704 1 0 h704.length, .ref 705 1 0 h705.length]), (704, 1, .row true (rowsOf eI h704)), (705, 1, .row true (rowsOf eI h705))], 2⟩
attribute [go_sem] m_spec_l14End_L1_St
def hi105 : Hint where
  acts := fun _ => []
  draws := fun
    | 5 => ⟨.cons ⟨0, false, []⟩ (.cons ⟨1, false, []⟩ (.cons ⟨2, false, []⟩ (.cons ⟨3, false, []⟩ (.cons ⟨4, false, []⟩ (.cons ⟨5, false, []⟩ (.cons ⟨6, false, []⟩ (.cons ⟨7, false, []⟩ (.cons ⟨8, false, []⟩ (.cons ⟨9, false, []⟩ (.cons ⟨10, false, []⟩ (.cons ⟨11, false, []⟩ .nil))))))))))), [[], [0], [], [2], [], [2, 3, 4], [2, 3, 4, 5], [2, 3, 4, 5, 6], [], [8], [0, 1, 2, 3, 4, 5, 6, 7, 8, 9], [0, 1, 2, 3, 4, 5, 6, 7, 8, 9, 10]], [0, 1, 2, 3, 4, 5, 6, 7, 8, 9, 10, 11]⟩
    | _ => ⟨.nil, [], []⟩
theorem hi105a (i : Nat) : hi105.acts i = [] := rfl
theorem hi105v (i : Nat) : hi105.views i = none := rfl
attribute [go_sem] hi105a hi105v Go.Proofs.Tryz.ntmps105 Go.Proofs.Tryz.results105
@[go_sem] theorem hi105d5 : (hi105.draws 5).order = .cons ⟨0, false, []⟩ (.cons ⟨1, false, []⟩ (.cons ⟨2, false, []⟩ (.cons ⟨3, false, []⟩ (.cons ⟨4, false, []⟩ (.cons ⟨5, false, []⟩ (.cons ⟨6, false, []⟩ (.cons ⟨7, false, []⟩ (.cons ⟨8, false, []⟩ (.cons ⟨9, false, []⟩ (.cons ⟨10, false, []⟩ (.cons ⟨11, false, []⟩ .nil))))))))))) := rfl
theorem c_spec_l14End {s : GShow} {v1 : GState} {ties : List Int} {res : GState} (h : m_spec_l14End s v1 ties = some res) : CallOk Go.Proofs.Tryz.prog 105 [.agg [.sl (rowsOf GNode.encS s.nodes), .sl (rowsOf GTie.enc s.ties), .lit (.int .i64 s.horizon)], .agg [.lit (.int .i64 v1.now), .sl (rowsOf eI v1.times), .sl (rowsOf eI v1.values)], .sl (rowsOf eI ties)] [] (.agg [.lit (.int .i64 res.now), .ref 20000 1 0 res.times.length, .ref 20001 1 0 res.values.length]) [(20000, 1, .row true (rowsOf eI res.times)), (20001, 1, .row true (rowsOf eI res.values))] := by
  refine callOk_of (ra := [.homeCell 384 1, .homeCell 384 2]) (md := mdT) hT (hi := hi105) Go.Proofs.Tryz.func105 rfl rfl (by decide +kernel) (by simp) ?_
  unfold m_spec_l14End at h
  obtain ⟨r1001, g1, h⟩ := obnd_some h
  simp -implicitDefEqProofs -dsimp only [go_sem]
  refine callW_of (c_spec_l13Copy g1) ?_
  obtain ⟨q1005, l2, h⟩ := obnd_some h
  simp -implicitDefEqProofs -dsimp only [go_sem]
  refine loopW_loopO (m1 := .mk) (m2 := .mk) [.nf [3, 4, 6, 7, 12, 13, 14] [192, 256, 384, 448, 704, 705]] (m_spec_l14End_L1_St ties ((ties.length : Nat) : Int) s.nodes s.ties s.horizon v1.now v1.times v1.values r1001.now r1001.values) l2 ?_ ?_
  · simp -implicitDefEqProofs -dsimp only [go_sem]
  · intro nb3 sb3 bb3 b3 gb3
    obtain ⟨v14_1, h704_1⟩ := sb3
    unfold m_spec_l14End_L1 at b3
    try dsimp only at b3
    rcases ite_some b3 with ⟨h4, b3⟩ | ⟨h4, b3⟩
    · obtain ⟨x1002, g5, b3⟩ := obnd_some b3
      obtain ⟨h6, h7, h8⟩ := getI_some g5
      obtain ⟨x1003, g9, b3⟩ := obnd_some b3
      obtain ⟨h10, h11, h12⟩ := getI_some g9
      obtain ⟨x1004, g13, b3⟩ := obnd_some b3
      obtain ⟨h14, h15, h16⟩ := getI_some g13
      cases b3
      simp -implicitDefEqProofs -dsimp only [go_sem, (eq_true h4), h6, h7, h8, h10, h11, h12, h14, h15, h16]
      refine next_of gb3 ?_
      simp -implicitDefEqProofs -dsimp only [go_sem, (eq_true h4), h6, h7, h8, h10, h11, h12, h14, h15, h16]
    · cases b3
      have e17 := (done_of gb3).symm
      subst e17
      try dsimp only at h
      cases h
      simp -implicitDefEqProofs -dsimp only [go_sem, (eq_false h4)]
/- 78 loop.example/g00827/spec.AfterEndings -/
def hi78 : Hint where
  acts := fun _ => []
  draws := fun
    | _ => ⟨.nil, [], []⟩
theorem hi78a (i : Nat) : hi78.acts i = [] := rfl
theorem hi78v (i : Nat) : hi78.views i = none := rfl
attribute [go_sem] hi78a hi78v Go.Proofs.Tryz.ntmps78 Go.Proofs.Tryz.results78
theorem c_spec_AfterEndings {s : GShow} {v1 : GState} {ties : List Int} {res : GState × Bool} (h : m_spec_AfterEndings s v1 ties = some res) : CallOk Go.Proofs.Tryz.prog 78 [.agg [.sl (rowsOf GNode.encS s.nodes), .sl (rowsOf GTie.enc s.ties), .lit (.int .i64 s.horizon)], .agg [.lit (.int .i64 v1.now), .sl (rowsOf eI v1.times), .sl (rowsOf eI v1.values)], .sl (rowsOf eI ties)] [] (.tup [.agg [.lit (.int .i64 res.1.now), .ref 20000 1 0 res.1.times.length, .ref 20001 1 0 res.1.values.length], .lit (.bool res.2)]) [(20000, 1, .row true (rowsOf eI res.1.times)), (20001, 1, .row true (rowsOf eI res.1.values))] := by
  refine callOk_of (ra := [.homeCell 384 1, .homeCell 384 2]) (md := mdT) hT (hi := hi78) Go.Proofs.Tryz.func78 rfl rfl (by decide +kernel) (by simp) ?_
  unfold m_spec_AfterEndings at h
  obtain ⟨r1001, g1, h⟩ := obnd_some h
  simp -implicitDefEqProofs -dsimp only [go_sem]
  refine callW_of (c_spec_EndingsOf g1) ?_
  obtain ⟨r1002, g2, h⟩ := obnd_some h
  simp -implicitDefEqProofs -dsimp only [go_sem]
  refine callW_of (c_spec_l14In g2) ?_
  rcases ite_some h with ⟨h3, h⟩ | ⟨h3, h⟩
  · obtain ⟨r1003, g4, h⟩ := obnd_some h
    simp -implicitDefEqProofs -dsimp only [go_sem, (eq_true h3), (condZ_t h3)]
    refine callW_of (c_spec_l14End g4) ?_
    cases h
    simp -implicitDefEqProofs -dsimp only [go_sem, (eq_true h3), (condZ_t h3)]
  · cases h
    simp -implicitDefEqProofs -dsimp only [go_sem, (eq_false h3), (condZ_f h3)]
/- 136 loop.example/g00827/spec.IsMoment -/
def hi136 : Hint where
  acts := fun _ => []
  draws := fun
    | _ => ⟨.nil, [], []⟩
theorem hi136a (i : Nat) : hi136.acts i = [] := rfl
theorem hi136v (i : Nat) : hi136.views i = none := rfl
attribute [go_sem] hi136a hi136v Go.Proofs.Tryz.ntmps136 Go.Proofs.Tryz.results136
theorem c_spec_IsMoment {s : GShow} {v1 : GState} {res : Bool} (h : m_spec_IsMoment s v1 = some res) : CallOk Go.Proofs.Tryz.prog 136 [.agg [.sl (rowsOf GNode.encS s.nodes), .sl (rowsOf GTie.enc s.ties), .lit (.int .i64 s.horizon)], .agg [.lit (.int .i64 v1.now), .sl (rowsOf eI v1.times), .sl (rowsOf eI v1.values)]] [] (.lit (.bool res)) [] := by
  refine callOk_of (ra := []) (md := mdT) hT (hi := hi136) Go.Proofs.Tryz.func136 rfl rfl (by decide +kernel) (by simp) ?_
  unfold m_spec_IsMoment at h
  obtain ⟨r1001, g1, h⟩ := obnd_some h
  simp -implicitDefEqProofs -dsimp only [go_sem]
  refine callW_of (c_spec_l01In g1) ?_
  rcases ite_some h with ⟨h2, h⟩ | ⟨h2, h⟩
  · obtain ⟨r1002, g3, h⟩ := obnd_some h
    simp -implicitDefEqProofs -dsimp only [go_sem, (eq_true h2), (condZ_t h2)]
    refine callW_of (c_spec_ShowOk g3) ?_
    rcases ite_some h with ⟨h4, h⟩ | ⟨h4, h⟩
    · rcases ite_some h with ⟨h5, h⟩ | ⟨h5, h⟩
      · cases h
        simp -implicitDefEqProofs -dsimp only [go_sem, (eq_true h2), (condZ_t h2), (eq_true h4), (condZ_t h4), (eq_true h5)]
      · obtain ⟨r1003, g6, h⟩ := obnd_some h
        simp -implicitDefEqProofs -dsimp only [go_sem, (eq_true h2), (condZ_t h2), (eq_true h4), (condZ_t h4), (eq_false h5)]
        refine callW_of (c_spec_l13Copy g6) ?_
        obtain ⟨r1004, g7, h⟩ := obnd_some h
        simp -implicitDefEqProofs -dsimp only [go_sem, (eq_true h2), (condZ_t h2), (eq_true h4), (condZ_t h4), (eq_false h5)]
        refine callW_of (c_spec_StateOk g7) ?_
        cases h
        simp -implicitDefEqProofs -dsimp only [go_sem, (eq_true h2), (condZ_t h2), (eq_true h4), (condZ_t h4), (eq_false h5)]
    · cases h
      simp -implicitDefEqProofs -dsimp only [go_sem, (eq_true h2), (condZ_t h2), (eq_false h4), (condZ_f h4)]
  · cases h
    simp -implicitDefEqProofs -dsimp only [go_sem, (eq_false h2), (condZ_f h2)]
/- 153 loop.example/g00827/spec.l07State -/
def m_spec_l07State_L1_St (v : List Int) (v9 : List Int) (v10 : Int) : (Int × Int) → St
  | (out, v11) => ⟨[(1, .sl (rowsOf eI v)), (5, .lit (.int .i64 out)), (9, .sl (rowsOf eI v9)), (10, .lit (.int .i64 v10)), (11, .lit (.int .i64 v11))], [], 2⟩
attribute [go_sem] m_spec_l07State_L1_St
def hi153 : Hint where
  acts := fun _ => []
  draws := fun
    | _ => ⟨.nil, [], []⟩
theorem hi153a (i : Nat) : hi153.acts i = [] := rfl
theorem hi153v (i : Nat) : hi153.views i = none := rfl
attribute [go_sem] hi153a hi153v Go.Proofs.Tryz.ntmps153 Go.Proofs.Tryz.results153
theorem c_spec_l07State {l : List Int} {v : List Int} {res : Int} (h : m_spec_l07State l v = some res) : CallOk Go.Proofs.Tryz.prog 153 [.sl (rowsOf eI l), .sl (rowsOf eI v)] [] (.lit (.int .i64 res)) [] := by
  refine callOk_of (ra := []) (md := mdT) hT (hi := hi153) Go.Proofs.Tryz.func153 rfl rfl (by decide +kernel) (by simp) ?_
  unfold m_spec_l07State at h
  obtain ⟨q1004, l1, h⟩ := obnd_some h
  simp -implicitDefEqProofs -dsimp only [go_sem]
  refine loopW_loopO (m1 := .mk) (m2 := .mk) [.nf [1, 5, 9, 10, 11] []] (m_spec_l07State_L1_St v l ((l.length : Nat) : Int)) l1 ?_ ?_
  · simp -implicitDefEqProofs -dsimp only [go_sem]
  · intro nb2 sb2 bb2 b2 gb2
    obtain ⟨out_1, v11_1⟩ := sb2
    unfold m_spec_l07State_L1 at b2
    try dsimp only at b2
    rcases ite_some b2 with ⟨h3, b2⟩ | ⟨h3, b2⟩
    · obtain ⟨x1001, g4, b2⟩ := obnd_some b2
      obtain ⟨h5, h6, h7⟩ := getI_some g4
      obtain ⟨r1002, g8, b2⟩ := obnd_some b2
      simp -implicitDefEqProofs -dsimp only [go_sem, (eq_true h3), h5, h6, h7]
      refine callW_of (c_spec_l07Prop g8) ?_
      obtain ⟨x1003, g9, b2⟩ := obnd_some b2
      obtain ⟨h10, h11, h12⟩ := getI_some g9
      rcases ite_some b2 with ⟨h13, b2⟩ | ⟨h13, b2⟩
      · cases b2
        simp -implicitDefEqProofs -dsimp only [go_sem, (eq_true h3), h5, h6, h7, h10, h11, h12, (eq_true h13)]
        refine next_of gb2 ?_
        simp -implicitDefEqProofs -dsimp only [go_sem, (eq_true h3), h5, h6, h7, h10, h11, h12, (eq_true h13)]
      · cases b2
        simp -implicitDefEqProofs -dsimp only [go_sem, (eq_true h3), h5, h6, h7, h10, h11, h12, (eq_false h13)]
        refine next_of gb2 ?_
        simp -implicitDefEqProofs -dsimp only [go_sem, (eq_true h3), h5, h6, h7, h10, h11, h12, (eq_false h13)]
    · cases b2
      have e14 := (done_of gb2).symm
      subst e14
      try dsimp only at h
      cases h
      simp -implicitDefEqProofs -dsimp only [go_sem, (eq_false h3)]
/- 137 loop.example/g00827/spec.l13Enabled -/
def m_spec_l13Enabled_L1_St (v10 : List GNode) (v11 : Int) (s_1 : List GTie) (s_2 : Int) (v3_0 : Int) (v3_1 : List Int) (v3_2 : List Int) : (Int × (List Int)) → St
  | (v12, out) => ⟨[(2, .ptr 128 1 0 0), (3, .ptr 192 1 0 0), (5, .ref 512 1 0 out.length), (10, .sl (rowsOf GNode.encS v10)), (11, .lit (.int .i64 v11)), (12, .lit (.int .i64 v12))], [(128, 1, .var [.sl (rowsOf GNode.encS v10), .sl (rowsOf GTie.enc s_1), .lit (.int .i64 s_2)]), (192, 1, .var [.lit (.int .i64 v3_0), .sl (rowsOf eI v3_1), .sl (rowsOf eI v3_2)]), (512, 1, .row true (rowsOf eI out))], 2⟩
attribute [go_sem] m_spec_l13Enabled_L1_St
def hi137 : Hint where
  acts := fun _ => []
  draws := fun
    | _ => ⟨.nil, [], []⟩
theorem hi137a (i : Nat) : hi137.acts i = [] := rfl
theorem hi137v (i : Nat) : hi137.views i = none := rfl
attribute [go_sem] hi137a hi137v Go.Proofs.Tryz.ntmps137 Go.Proofs.Tryz.results137
theorem c_spec_l13Enabled {s : GShow} {v1 : GState} {res : List Int} (h : m_spec_l13Enabled s v1 = some res) : CallOk Go.Proofs.Tryz.prog 137 [.agg [.sl (rowsOf GNode.encS s.nodes), .sl (rowsOf GTie.enc s.ties), .lit (.int .i64 s.horizon)], .agg [.lit (.int .i64 v1.now), .sl (rowsOf eI v1.times), .sl (rowsOf eI v1.values)]] [] (.ref 20000 1 0 res.length) [(20000, 1, .row true (rowsOf eI res))] := by
  refine callOk_of (ra := [.home 4]) (md := mdT) hT (hi := hi137) Go.Proofs.Tryz.func137 rfl rfl (by decide +kernel) (by simp) ?_
  unfold m_spec_l13Enabled at h
  obtain ⟨q1005, l1, h⟩ := obnd_some h
  simp -implicitDefEqProofs -dsimp only [go_sem]
  refine loopW_loopO (m1 := .mk) (m2 := .mk) [.nf [2, 3, 5, 10, 11, 12] [128, 192, 512]] (m_spec_l13Enabled_L1_St s.nodes ((s.nodes.length : Nat) : Int) s.ties s.horizon v1.now v1.times v1.values) l1 ?_ ?_
  · simp -implicitDefEqProofs -dsimp only [go_sem]
  · intro nb2 sb2 bb2 b2 gb2
    obtain ⟨v12_1, out_1⟩ := sb2
    unfold m_spec_l13Enabled_L1 at b2
    try dsimp only at b2
    rcases ite_some b2 with ⟨h3, b2⟩ | ⟨h3, b2⟩
    · obtain ⟨x1001, g4, b2⟩ := obnd_some b2
      obtain ⟨h5, h6, h7⟩ := getI_some g4
      rcases ite_some b2 with ⟨h8, b2⟩ | ⟨h8, b2⟩
      · obtain ⟨r1002, g9, b2⟩ := obnd_some b2
        simp -implicitDefEqProofs -dsimp only [go_sem, (eq_true h3), h5, h6, h7, (eq_true h8)]
        refine callW_of (c_spec_l08Free g9) ?_
        rcases ite_some b2 with ⟨h10, b2⟩ | ⟨h10, b2⟩
        · obtain ⟨x1003, g11, b2⟩ := obnd_some b2
          obtain ⟨h12, h13, h14⟩ := getI_some g11
          rcases ite_some b2 with ⟨h15, b2⟩ | ⟨h15, b2⟩
          · obtain ⟨r1004, g16, b2⟩ := obnd_some b2
            simp -implicitDefEqProofs -dsimp only [go_sem, (eq_true h3), h5, h6, h7, (eq_true h8), (eq_true h10), h12, h13, h14, (eq_true h15)]
            refine callW_of (c_spec_l07State g16) ?_
            rcases ite_some b2 with ⟨h17, b2⟩ | ⟨h17, b2⟩
            · obtain ⟨h18, b2⟩ := chk_some b2
              obtain ⟨h19, b2⟩ := chk_some b2
              cases b2
              simp -implicitDefEqProofs -dsimp only [go_sem, (eq_true h3), h5, h6, h7, (eq_true h8), (eq_true h10), h12, h13, h14, (eq_true h15), (eq_true h17), (eq_true h18), (eq_true h19)]
              refine next_of gb2 ?_
              simp -implicitDefEqProofs -dsimp only [go_sem, (eq_true h3), h5, h6, h7, (eq_true h8), (eq_true h10), h12, h13, h14, (eq_true h15), (eq_true h17), (eq_true h18), (eq_true h19)]
            · cases b2
              simp -implicitDefEqProofs -dsimp only [go_sem, (eq_true h3), h5, h6, h7, (eq_true h8), (eq_true h10), h12, h13, h14, (eq_true h15), (eq_false h17)]
              refine next_of gb2 ?_
              simp -implicitDefEqProofs -dsimp only [go_sem, (eq_true h3), h5, h6, h7, (eq_true h8), (eq_true h10), h12, h13, h14, (eq_true h15), (eq_false h17)]
          · cases b2
            simp -implicitDefEqProofs -dsimp only [go_sem, (eq_true h3), h5, h6, h7, (eq_true h8), (eq_true h10), h12, h13, h14, (eq_false h15)]
            refine next_of gb2 ?_
            simp -implicitDefEqProofs -dsimp only [go_sem, (eq_true h3), h5, h6, h7, (eq_true h8), (eq_true h10), h12, h13, h14, (eq_false h15)]
        · cases b2
          simp -implicitDefEqProofs -dsimp only [go_sem, (eq_true h3), h5, h6, h7, (eq_true h8), (eq_false h10)]
          refine next_of gb2 ?_
          simp -implicitDefEqProofs -dsimp only [go_sem, (eq_true h3), h5, h6, h7, (eq_true h8), (eq_false h10)]
      · cases b2
        simp -implicitDefEqProofs -dsimp only [go_sem, (eq_true h3), h5, h6, h7, (eq_false h8)]
        refine next_of gb2 ?_
        simp -implicitDefEqProofs -dsimp only [go_sem, (eq_true h3), h5, h6, h7, (eq_false h8)]
    · cases b2
      have e20 := (done_of gb2).symm
      subst e20
      try dsimp only at h
      cases h
      simp -implicitDefEqProofs -dsimp only [go_sem, (eq_false h3)]
/- 107 loop.example/g00827/spec.DecisionsOf -/
def m_spec_DecisionsOf_L1_St (l : List Int) : (Int × (List (List Int))) → St
  | (n, out) => ⟨[(5, .ref 896 1 0 l.length), (6, .ref 960 1 0 out.length), (7, .lit (.int .i64 n))], [(896, 1, .row true (rowsOf eI l)), (960, 1, .row true (rowsOf (eLO eI) out))], 2⟩
attribute [go_sem] m_spec_DecisionsOf_L1_St
def hi107 : Hint where
  acts := fun _ => []
  draws := fun
    | _ => ⟨.nil, [], []⟩
theorem hi107a (i : Nat) : hi107.acts i = [] := rfl
theorem hi107v (i : Nat) : hi107.views i = none := rfl
attribute [go_sem] hi107a hi107v Go.Proofs.Tryz.ntmps107 Go.Proofs.Tryz.results107
theorem c_spec_DecisionsOf {s : GShow} {v1 : GState} {res : List (List Int)} (h : m_spec_DecisionsOf s v1 = some res) : CallOk Go.Proofs.Tryz.prog 107 [.agg [.sl (rowsOf GNode.encS s.nodes), .sl (rowsOf GTie.enc s.ties), .lit (.int .i64 s.horizon)], .agg [.lit (.int .i64 v1.now), .sl (rowsOf eI v1.times), .sl (rowsOf eI v1.values)]] [] (.ref 20000 1 0 res.length) [(20000, 1, .row true (rowsOf (eLO eI) res))] := by
  refine callOk_of (ra := [.home 4]) (md := mdT) hT (hi := hi107) Go.Proofs.Tryz.func107 rfl rfl (by decide +kernel) (by simp) ?_
  unfold m_spec_DecisionsOf at h
  obtain ⟨r1001, g1, h⟩ := obnd_some h
  simp -implicitDefEqProofs -dsimp only [go_sem]
  refine callW_of (c_spec_IsMoment g1) ?_
  rcases ite_some h with ⟨h2, h⟩ | ⟨h2, h⟩
  · obtain ⟨r1002, g3, h⟩ := obnd_some h
    simp -implicitDefEqProofs -dsimp only [go_sem, (eq_true h2), (condZ_t h2)]
    refine callW_of (c_spec_l13Enabled g3) ?_
    obtain ⟨h4, h⟩ := chk_some h
    obtain ⟨q1004, l5, h⟩ := obnd_some h
    simp -implicitDefEqProofs -dsimp only [go_sem, (eq_true h2), (condZ_t h2), (eq_false h4)]
    refine loopW_loopO (m1 := .mk) (m2 := .mk) [.nf [5, 6, 7] [896, 960]] (m_spec_DecisionsOf_L1_St r1002) l5 ?_ ?_
    · simp -implicitDefEqProofs -dsimp only [go_sem, (eq_true h2), (condZ_t h2), (eq_false h4)]
    · intro nb6 sb6 bb6 b6 gb6
      obtain ⟨n_1, out_1⟩ := sb6
      unfold m_spec_DecisionsOf_L1 at b6
      try dsimp only at b6
      rcases ite_some b6 with ⟨h7, b6⟩ | ⟨h7, b6⟩
      · obtain ⟨r1003, g8, b6⟩ := obnd_some b6
        simp -implicitDefEqProofs -dsimp only [go_sem, (eq_true h2), (condZ_t h2), (eq_false h4), (eq_true h7)]
        refine callW_of (c_spec_l14Some g8) ?_
        obtain ⟨h9, b6⟩ := chk_some b6
        obtain ⟨h10, b6⟩ := chk_some b6
        cases b6
        simp -implicitDefEqProofs -dsimp only [go_sem, (eq_true h2), (condZ_t h2), (eq_false h4), (eq_true h7), (eq_true h9), (eq_true h10)]
        refine next_of gb6 ?_
        simp -implicitDefEqProofs -dsimp only [go_sem, (eq_true h2), (condZ_t h2), (eq_false h4), (eq_true h7), (eq_true h9), (eq_true h10)]
      · cases b6
        have e11 := (done_of gb6).symm
        subst e11
        try dsimp only at h
        cases h
        simp -implicitDefEqProofs -dsimp only [go_sem, (eq_true h2), (condZ_t h2), (eq_false h4), (eq_false h7)]
  · cases h
    simp -implicitDefEqProofs -dsimp only [go_sem, (eq_false h2), (condZ_f h2)]
/- 108 loop.example/g00827/spec.l14Decide -/
def m_spec_l14Decide_L1_St (nodes : List Int) (v16 : Int) (s_0 : List GNode) (s_1 : List GTie) (s_2 : Int) (v4_0 : Int) (v4_1 : List Int) (v4_2 : List Int) (out_0 : Int) (h897 : List Int) : (Int × (List Int)) → St
  | (v17, h896) => ⟨[(2, .sl (rowsOf eI nodes)), (3, .ptr 192 1 0 0), (4, .ptr 256 1 0 0), (6, .ptr 384 1 0 0), (8, .ptr 512 1 0 0), (15, .sl (rowsOf eI nodes)), (16, .lit (.int .i64 v16)), (17, .lit (.int .i64 v17))], [(192, 1, .var [.sl (rowsOf GNode.encS s_0), .sl (rowsOf GTie.enc s_1), .lit (.int .i64 s_2)]), (256, 1, .var [.lit (.int .i64 v4_0), .sl (rowsOf eI v4_1), .sl (rowsOf eI v4_2)]), (384, 1, .var [.lit (.int .i64 0), .lit (.slice none 0 0), .lit (.slice none 0 0)]), (512, 1, .var [.lit (.int .i64 out_0), .ref 896 1 0 h896.length, .ref 897 1 0 h897.length]), (896, 1, .row true (rowsOf eI h896)), (897, 1, .row true (rowsOf eI h897))], 2⟩
attribute [go_sem] m_spec_l14Decide_L1_St
def m_spec_l14Decide_L2_St (nodes : List Int) (s_0 : List GNode) (s_1 : List GTie) (s_2 : Int) (out_0 : Int) (h896 : List Int) (h897 : List Int) : (Int × (List Int)) → St
  | (p, props) => ⟨[(2, .sl (rowsOf eI nodes)), (3, .ptr 192 1 0 0), (6, .ptr 384 1 0 0), (8, .ptr 512 1 0 0), (11, .ref 1792 1 0 props.length), (12, .lit (.int .i64 p))], [(192, 1, .var [.sl (rowsOf GNode.encS s_0), .sl (rowsOf GTie.enc s_1), .lit (.int .i64 s_2)]), (384, 1, .var [.lit (.int .i64 0), .lit (.slice none 0 0), .lit (.slice none 0 0)]), (512, 1, .var [.lit (.int .i64 out_0), .ref 896 1 0 h896.length, .ref 897 1 0 h897.length]), (896, 1, .row true (rowsOf eI h896)), (897, 1, .row true (rowsOf eI h897)), (1792, 1, .row true (rowsOf eI props))], 2⟩
attribute [go_sem] m_spec_l14Decide_L2_St
def hi108 : Hint where
  acts := fun _ => []
  draws := fun
    | _ => ⟨.nil, [], []⟩
theorem hi108a (i : Nat) : hi108.acts i = [] := rfl
theorem hi108v (i : Nat) : hi108.views i = none := rfl
attribute [go_sem] hi108a hi108v Go.Proofs.Tryz.ntmps108 Go.Proofs.Tryz.results108
theorem c_spec_l14Decide {s : GShow} {v1 : GState} {nodes : List Int} {res : GState × (List Int)} (h : m_spec_l14Decide s v1 nodes = some res) : CallOk Go.Proofs.Tryz.prog 108 [.agg [.sl (rowsOf GNode.encS s.nodes), .sl (rowsOf GTie.enc s.ties), .lit (.int .i64 s.horizon)], .agg [.lit (.int .i64 v1.now), .sl (rowsOf eI v1.times), .sl (rowsOf eI v1.values)], .sl (rowsOf eI nodes)] [] (.tup [.agg [.lit (.int .i64 res.1.now), .ref 20000 1 0 res.1.times.length, .ref 20001 1 0 res.1.values.length], .ref 20002 1 0 res.2.length]) [(20000, 1, .row true (rowsOf eI res.1.times)), (20001, 1, .row true (rowsOf eI res.1.values)), (20002, 1, .row true (rowsOf eI res.2))] := by
  refine callOk_of (ra := [.homeCell 384 1, .homeCell 384 2, .home 7]) (md := mdT) hT (hi := hi108) Go.Proofs.Tryz.func108 rfl rfl (by decide +kernel) (by simp) ?_
  unfold m_spec_l14Decide at h
  obtain ⟨r1001, g1, h⟩ := obnd_some h
  simp -implicitDefEqProofs -dsimp only [go_sem]
  refine callW_of (c_spec_l13Copy g1) ?_
  obtain ⟨q1007, l2, h⟩ := obnd_some h
  simp -implicitDefEqProofs -dsimp only [go_sem]
  refine loopW_loopO (m1 := .mk) (m2 := .mk) [.nf [2, 3, 4, 6, 8, 15, 16, 17] [192, 256, 384, 512, 896, 897]] (m_spec_l14Decide_L1_St nodes ((nodes.length : Nat) : Int) s.nodes s.ties s.horizon v1.now v1.times v1.values r1001.now r1001.values) l2 ?_ ?_
  · simp -implicitDefEqProofs -dsimp only [go_sem]
  · intro nb3 sb3 bb3 b3 gb3
    obtain ⟨v17_1, h896_1⟩ := sb3
    unfold m_spec_l14Decide_L1 at b3
    try dsimp only at b3
    rcases ite_some b3 with ⟨h4, b3⟩ | ⟨h4, b3⟩
    · obtain ⟨x1002, g5, b3⟩ := obnd_some b3
      obtain ⟨h6, h7, h8⟩ := getI_some g5
      obtain ⟨x1003, g9, b3⟩ := obnd_some b3
      obtain ⟨h10, h11, h12⟩ := getI_some g9
      cases b3
      simp -implicitDefEqProofs -dsimp only [go_sem, (eq_true h4), h6, h7, h8, h10, h11, h12]
      refine next_of gb3 ?_
      simp -implicitDefEqProofs -dsimp only [go_sem, (eq_true h4), h6, h7, h8, h10, h11, h12]
    · cases b3
      have e13 := (done_of gb3).symm
      subst e13
      try dsimp only at h
      obtain ⟨q1006, l14, h⟩ := obnd_some h
      simp -implicitDefEqProofs -dsimp only [go_sem, (eq_false h4)]
      refine loopW_loopO (m1 := .mk) (m2 := .mk) [.nf [2, 3, 6, 8, 11, 12] [192, 384, 512, 896, 897, 1792]] (m_spec_l14Decide_L2_St nodes s.nodes s.ties s.horizon r1001.now h896_1 r1001.values) l14 ?_ ?_
      · simp -implicitDefEqProofs -dsimp only [go_sem, (eq_false h4)]
      · intro nb15 sb15 bb15 b15 gb15
        obtain ⟨p_2, props_2⟩ := sb15
        unfold m_spec_l14Decide_L2 at b15
        try dsimp only at b15
        rcases ite_some b15 with ⟨h16, b15⟩ | ⟨h16, b15⟩
        · obtain ⟨r1004, g17, b15⟩ := obnd_some b15
          simp -implicitDefEqProofs -dsimp only [go_sem, (eq_false h4), (eq_true h16)]
          refine callW_of (c_spec_l08Watcher g17) ?_
          obtain ⟨r1005, g18, b15⟩ := obnd_some b15
          simp -implicitDefEqProofs -dsimp only [go_sem, (eq_false h4), (eq_true h16)]
          refine callW_of (c_spec_l07Has g18) ?_
          rcases ite_some b15 with ⟨h19, b15⟩ | ⟨h19, b15⟩
          · obtain ⟨h20, b15⟩ := chk_some b15
            obtain ⟨h21, b15⟩ := chk_some b15
            cases b15
            simp -implicitDefEqProofs -dsimp only [go_sem, (eq_false h4), (eq_true h16), (eq_true h19), (condZ_t h19), (eq_true h20), (eq_true h21)]
            refine next_of gb15 ?_
            simp -implicitDefEqProofs -dsimp only [go_sem, (eq_false h4), (eq_true h16), (eq_true h19), (condZ_t h19), (eq_true h20), (eq_true h21)]
          · cases b15
            simp -implicitDefEqProofs -dsimp only [go_sem, (eq_false h4), (eq_true h16), (eq_false h19), (condZ_f h19)]
            refine next_of gb15 ?_
            simp -implicitDefEqProofs -dsimp only [go_sem, (eq_false h4), (eq_true h16), (eq_false h19), (condZ_f h19)]
        · cases b15
          have e22 := (done_of gb15).symm
          subst e22
          try dsimp only at h
          cases h
          simp -implicitDefEqProofs -dsimp only [go_sem, (eq_false h4), (eq_false h16)]
/- 80 loop.example/g00827/spec.AfterDecision -/
def hi80 : Hint where
  acts := fun _ => []
  draws := fun
    | _ => ⟨.nil, [], []⟩
theorem hi80a (i : Nat) : hi80.acts i = [] := rfl
theorem hi80v (i : Nat) : hi80.views i = none := rfl
attribute [go_sem] hi80a hi80v Go.Proofs.Tryz.ntmps80 Go.Proofs.Tryz.results80
theorem c_spec_AfterDecision {s : GShow} {v1 : GState} {nodes : List Int} {res : GState × (List Int) × Bool} (h : m_spec_AfterDecision s v1 nodes = some res) : CallOk Go.Proofs.Tryz.prog 80 [.agg [.sl (rowsOf GNode.encS s.nodes), .sl (rowsOf GTie.enc s.ties), .lit (.int .i64 s.horizon)], .agg [.lit (.int .i64 v1.now), .sl (rowsOf eI v1.times), .sl (rowsOf eI v1.values)], .sl (rowsOf eI nodes)] [] (.tup [.agg [.lit (.int .i64 res.1.now), .ref 20000 1 0 res.1.times.length, .ref 20001 1 0 res.1.values.length], .ref 20002 1 0 res.2.1.length, .lit (.bool res.2.2)]) [(20000, 1, .row true (rowsOf eI res.1.times)), (20001, 1, .row true (rowsOf eI res.1.values)), (20002, 1, .row true (rowsOf eI res.2.1))] := by
  refine callOk_of (ra := [.homeCell 384 1, .homeCell 384 2, .home 7]) (md := mdT) hT (hi := hi80) Go.Proofs.Tryz.func80 rfl rfl (by decide +kernel) (by simp) ?_
  unfold m_spec_AfterDecision at h
  obtain ⟨r1001, g1, h⟩ := obnd_some h
  simp -implicitDefEqProofs -dsimp only [go_sem]
  refine callW_of (c_spec_DecisionsOf g1) ?_
  obtain ⟨r1002, g2, h⟩ := obnd_some h
  simp -implicitDefEqProofs -dsimp only [go_sem]
  refine callW_of (c_spec_l14In g2) ?_
  rcases ite_some h with ⟨h3, h⟩ | ⟨h3, h⟩
  · obtain ⟨r1003, g4, h⟩ := obnd_some h
    simp -implicitDefEqProofs -dsimp only [go_sem, (eq_true h3), (condZ_t h3)]
    refine callW_of (c_spec_l14Decide g4) ?_
    cases h
    simp -implicitDefEqProofs -dsimp only [go_sem, (eq_true h3), (condZ_t h3)]
  · cases h
    simp -implicitDefEqProofs -dsimp only [go_sem, (eq_false h3), (condZ_f h3)]
/- 81 loop.example/g00827/spec.l14Values -/
def m_spec_l14Values_L1_St (values : List Int) (v12 : List Int) (v13 : Int) (out_0 : Int) (h704 : List Int) : (Int × (List Int)) → St
  | (v14, h705) => ⟨[(2, .sl (rowsOf eI values)), (6, .ptr 384 1 0 0), (7, .ptr 448 1 0 0), (12, .sl (rowsOf eI v12)), (13, .lit (.int .i64 v13)), (14, .lit (.int .i64 v14))], [(384, 1, .var [.lit (.int .i64 0), .lit (.slice none 0 0), .lit (.slice none 0 0)]), (448, 1, .var [.lit (.int .i64 out_0), .ref 704 1 0 h704.length, .ref 705 1 0 h705.length]), (704, 1, .row true (rowsOf eI h704)), (705, 1, .row true (rowsOf eI h705))], 2⟩
attribute [go_sem] m_spec_l14Values_L1_St
def hi81 : Hint where
  acts := fun _ => []
  draws := fun
    | 5 => ⟨.cons ⟨0, false, []⟩ (.cons ⟨1, false, []⟩ (.cons ⟨2, false, []⟩ (.cons ⟨3, false, []⟩ (.cons ⟨4, false, []⟩ (.cons ⟨5, false, []⟩ (.cons ⟨6, false, []⟩ (.cons ⟨7, false, []⟩ (.cons ⟨8, false, []⟩ (.cons ⟨9, false, []⟩ .nil))))))))), [[], [0], [], [2], [], [], [4, 5], [4, 5, 6], [0, 1, 2, 3, 4, 5, 6, 7], [0, 1, 2, 3, 4, 5, 6, 7, 8]], [0, 1, 2, 3, 4, 5, 6, 7, 8, 9]⟩
    | _ => ⟨.nil, [], []⟩
theorem hi81a (i : Nat) : hi81.acts i = [] := rfl
theorem hi81v (i : Nat) : hi81.views i = none := rfl
attribute [go_sem] hi81a hi81v Go.Proofs.Tryz.ntmps81 Go.Proofs.Tryz.results81
@[go_sem] theorem hi81d5 : (hi81.draws 5).order = .cons ⟨0, false, []⟩ (.cons ⟨1, false, []⟩ (.cons ⟨2, false, []⟩ (.cons ⟨3, false, []⟩ (.cons ⟨4, false, []⟩ (.cons ⟨5, false, []⟩ (.cons ⟨6, false, []⟩ (.cons ⟨7, false, []⟩ (.cons ⟨8, false, []⟩ (.cons ⟨9, false, []⟩ .nil))))))))) := rfl
theorem c_spec_l14Values {v0 : GState} {props : List Int} {values : List Int} {res : GState} (h : m_spec_l14Values v0 props values = some res) : CallOk Go.Proofs.Tryz.prog 81 [.agg [.lit (.int .i64 v0.now), .sl (rowsOf eI v0.times), .sl (rowsOf eI v0.values)], .sl (rowsOf eI props), .sl (rowsOf eI values)] [] (.agg [.lit (.int .i64 res.now), .ref 20000 1 0 res.times.length, .ref 20001 1 0 res.values.length]) [(20000, 1, .row true (rowsOf eI res.times)), (20001, 1, .row true (rowsOf eI res.values))] := by
  refine callOk_of (ra := [.homeCell 384 1, .homeCell 384 2]) (md := mdT) hT (hi := hi81) Go.Proofs.Tryz.func81 rfl rfl (by decide +kernel) (by simp) ?_
  unfold m_spec_l14Values at h
  obtain ⟨r1001, g1, h⟩ := obnd_some h
  simp -implicitDefEqProofs -dsimp only [go_sem]
  refine callW_of (c_spec_l13Copy g1) ?_
  obtain ⟨q1005, l2, h⟩ := obnd_some h
  simp -implicitDefEqProofs -dsimp only [go_sem]
  refine loopW_loopO (m1 := .mk) (m2 := .mk) [.nf [2, 6, 7, 12, 13, 14] [384, 448, 704, 705]] (m_spec_l14Values_L1_St values props ((props.length : Nat) : Int) r1001.now r1001.times) l2 ?_ ?_
  · simp -implicitDefEqProofs -dsimp only [go_sem]
  · intro nb3 sb3 bb3 b3 gb3
    obtain ⟨v14_1, h705_1⟩ := sb3
    unfold m_spec_l14Values_L1 at b3
    try dsimp only at b3
    rcases ite_some b3 with ⟨h4, b3⟩ | ⟨h4, b3⟩
    · obtain ⟨x1002, g5, b3⟩ := obnd_some b3
      obtain ⟨h6, h7, h8⟩ := getI_some g5
      obtain ⟨x1003, g9, b3⟩ := obnd_some b3
      obtain ⟨h10, h11, h12⟩ := getI_some g9
      obtain ⟨x1004, g13, b3⟩ := obnd_some b3
      obtain ⟨h14, h15, h16⟩ := getI_some g13
      cases b3
      simp -implicitDefEqProofs -dsimp only [go_sem, (eq_true h4), h6, h7, h8, h10, h11, h12, h14, h15, h16]
      refine next_of gb3 ?_
      simp -implicitDefEqProofs -dsimp only [go_sem, (eq_true h4), h6, h7, h8, h10, h11, h12, h14, h15, h16]
    · cases b3
      have e17 := (done_of gb3).symm
      subst e17
      try dsimp only at h
      cases h
      simp -implicitDefEqProofs -dsimp only [go_sem, (eq_false h4)]
/- 50 loop.example/g00827/spec.l22Apply -/
def m_spec_l22Apply_L1_St (v63 : Int) (e_0 : Int) (e_1 : List Int) (e_2 : List Int) (e_3 : List Int) (z_0 : Int) (h2944 : List Int) (h2945 : List Int) (v62 : List Int) : (Int × (List Int)) → St
  | (v64, values) => ⟨[(5, .ptr 320 1 0 0), (6, .ptr 384 1 0 0), (10, .ptr 640 1 0 0), (11, .ref 2946 1 0 v62.length), (13, .ref 3904 1 0 values.length), (62, .ref 2946 1 0 v62.length), (63, .lit (.int .i64 v63)), (64, .lit (.int .i64 v64))], [(320, 1, .var [.lit (.int .i64 e_0), .sl (rowsOf eI e_1), .sl (rowsOf eI e_2), .sl (rowsOf eI e_3)]), (384, 1, .var [.lit (.int .i64 0), .lit (.slice none 0 0), .lit (.slice none 0 0)]), (640, 1, .var [.lit (.int .i64 z_0), .ref 2944 1 0 h2944.length, .ref 2945 1 0 h2945.length]), (2944, 1, .row true (rowsOf eI h2944)), (2945, 1, .row true (rowsOf eI h2945)), (2946, 1, .row true (rowsOf eI v62)), (3904, 1, .row true (rowsOf eI values))], 2⟩
attribute [go_sem] m_spec_l22Apply_L1_St
def hi50 : Hint where
  acts := fun _ => []
  draws := fun
    | _ => ⟨.nil, [], []⟩
theorem hi50a (i : Nat) : hi50.acts i = [] := rfl
theorem hi50v (i : Nat) : hi50.views i = none := rfl
attribute [go_sem] hi50a hi50v Go.Proofs.Tryz.ntmps50 Go.Proofs.Tryz.results50
theorem c_spec_l22Apply {s : GShow} {v1 : GState} {e : GEntry} {res : GState × Bool} (h : m_spec_l22Apply s v1 e = some res) : CallOk Go.Proofs.Tryz.prog 50 [.agg [.sl (rowsOf GNode.encS s.nodes), .sl (rowsOf GTie.enc s.ties), .lit (.int .i64 s.horizon)], .agg [.lit (.int .i64 v1.now), .sl (rowsOf eI v1.times), .sl (rowsOf eI v1.values)], .agg [.lit (.int .i64 e.now), .sl (rowsOf eI e.ties), .sl (rowsOf eI e.nodes), .sl (rowsOf eI e.values)]] [] (.tup [.agg [.lit (.int .i64 res.1.now), .ref 20000 1 0 res.1.times.length, .ref 20001 1 0 res.1.values.length], .lit (.bool res.2)]) [(20000, 1, .row true (rowsOf eI res.1.times)), (20001, 1, .row true (rowsOf eI res.1.values))] := by
  refine callOk_of (ra := [.homeCell 384 1, .homeCell 384 2]) (md := mdT) hT (hi := hi50) Go.Proofs.Tryz.func50 rfl rfl (by decide +kernel) (by simp) ?_
  unfold m_spec_l22Apply at h
  obtain ⟨r1001, g1, h⟩ := obnd_some h
  simp -implicitDefEqProofs -dsimp only [go_sem]
  refine callW_of (c_spec_AfterEndings g1) ?_
  rcases ite_some h with ⟨h2, h⟩ | ⟨h2, h⟩
  · rcases ite_some h with ⟨h3, h⟩ | ⟨h3, h⟩
    · obtain ⟨r1002, g4, h⟩ := obnd_some h
      simp -implicitDefEqProofs -dsimp only [go_sem, (eq_true h2), (condZ_t h2), (eq_true h3)]
      refine callW_of (c_spec_LabelOk g4) ?_
      rcases ite_some h with ⟨h5, h⟩ | ⟨h5, h⟩
      · obtain ⟨r1003, g6, h⟩ := obnd_some h
        simp -implicitDefEqProofs -dsimp only [go_sem, (eq_true h2), (condZ_t h2), (eq_true h3), (eq_true h5), (condZ_t h5)]
        refine callW_of (c_spec_AfterDecision g6) ?_
        rcases ite_some h with ⟨h7, h⟩ | ⟨h7, h⟩
        · rcases ite_some h with ⟨h8, h⟩ | ⟨h8, h⟩
          · obtain ⟨q1007, l9, h⟩ := obnd_some h
            simp -implicitDefEqProofs -dsimp only [go_sem, (eq_true h2), (condZ_t h2), (eq_true h3), (eq_true h5), (condZ_t h5), (eq_true h7), (condZ_t h7), (eq_true h8)]
            refine loopW_loopO (m1 := .mk) (m2 := .mk) [.nf [5, 6, 10, 11, 13, 62, 63, 64] [320, 384, 640, 2944, 2945, 2946, 3904]] (m_spec_l22Apply_L1_St ((r1003.2.1.length : Nat) : Int) e.now e.ties e.nodes e.values r1003.1.now r1003.1.times r1003.1.values r1003.2.1) l9 ?_ ?_
            · simp -implicitDefEqProofs -dsimp only [go_sem, (eq_true h2), (condZ_t h2), (eq_true h3), (eq_true h5), (condZ_t h5), (eq_true h7), (condZ_t h7), (eq_true h8)]
            · intro nb10 sb10 bb10 b10 gb10
              obtain ⟨v64_1, values_1⟩ := sb10
              unfold m_spec_l22Apply_L1 at b10
              try dsimp only at b10
              rcases ite_some b10 with ⟨h11, b10⟩ | ⟨h11, b10⟩
              · obtain ⟨x1004, g12, b10⟩ := obnd_some b10
                obtain ⟨h13, h14, h15⟩ := getI_some g12
                obtain ⟨x1005, g16, b10⟩ := obnd_some b10
                obtain ⟨h17, h18, h19⟩ := getI_some g16
                rcases ite_some b10 with ⟨h20, b10⟩ | ⟨h20, b10⟩
                · obtain ⟨h21, b10⟩ := chk_some b10
                  obtain ⟨h22, b10⟩ := chk_some b10
                  cases b10
                  simp -implicitDefEqProofs -dsimp only [go_sem, (eq_true h2), (condZ_t h2), (eq_true h3), (eq_true h5), (condZ_t h5), (eq_true h7), (condZ_t h7), (eq_true h8), (eq_true h11), h13, h14, h15, h17, h18, h19, (eq_true h20), (eq_true h21), (eq_true h22)]
                  refine next_of gb10 ?_
                  simp -implicitDefEqProofs -dsimp only [go_sem, (eq_true h2), (condZ_t h2), (eq_true h3), (eq_true h5), (condZ_t h5), (eq_true h7), (condZ_t h7), (eq_true h8), (eq_true h11), h13, h14, h15, h17, h18, h19, (eq_true h20), (eq_true h21), (eq_true h22)]
                · rcases ite_some b10 with ⟨h23, b10⟩ | ⟨h23, b10⟩
                  · obtain ⟨h24, b10⟩ := chk_some b10
                    obtain ⟨h25, b10⟩ := chk_some b10
                    cases b10
                    simp -implicitDefEqProofs -dsimp only [go_sem, (eq_true h2), (condZ_t h2), (eq_true h3), (eq_true h5), (condZ_t h5), (eq_true h7), (condZ_t h7), (eq_true h8), (eq_true h11), h13, h14, h15, h17, h18, h19, (eq_false h20), (eq_true h23), (eq_true h24), (eq_true h25)]
                    refine next_of gb10 ?_
                    simp -implicitDefEqProofs -dsimp only [go_sem, (eq_true h2), (condZ_t h2), (eq_true h3), (eq_true h5), (condZ_t h5), (eq_true h7), (condZ_t h7), (eq_true h8), (eq_true h11), h13, h14, h15, h17, h18, h19, (eq_false h20), (eq_true h23), (eq_true h24), (eq_true h25)]
                  · cases b10
                    have e26 := (done_of gb10).symm
                    subst e26
                    try dsimp only at h
                    cases h
                    simp -implicitDefEqProofs -dsimp only [go_sem, (eq_true h2), (condZ_t h2), (eq_true h3), (eq_true h5), (condZ_t h5), (eq_true h7), (condZ_t h7), (eq_true h8), (eq_true h11), h13, h14, h15, h17, h18, h19, (eq_false h20), (eq_false h23)]
              · cases b10
                have e27 := (done_of gb10).symm
                subst e27
                try dsimp only at h
                obtain ⟨r1006, g28, h⟩ := obnd_some h
                simp -implicitDefEqProofs -dsimp only [go_sem, (eq_true h2), (condZ_t h2), (eq_true h3), (eq_true h5), (condZ_t h5), (eq_true h7), (condZ_t h7), (eq_true h8), (eq_false h11)]
                refine callW_of (c_spec_l14Values g28) ?_
                cases h
                simp -implicitDefEqProofs -dsimp only [go_sem, (eq_true h2), (condZ_t h2), (eq_true h3), (eq_true h5), (condZ_t h5), (eq_true h7), (condZ_t h7), (eq_true h8), (eq_false h11)]
          · cases h
            simp -implicitDefEqProofs -dsimp only [go_sem, (eq_true h2), (condZ_t h2), (eq_true h3), (eq_true h5), (condZ_t h5), (eq_true h7), (condZ_t h7), (eq_false h8)]
        · cases h
          simp -implicitDefEqProofs -dsimp only [go_sem, (eq_true h2), (condZ_t h2), (eq_true h3), (eq_true h5), (condZ_t h5), (eq_false h7), (condZ_f h7)]
      · cases h
        simp -implicitDefEqProofs -dsimp only [go_sem, (eq_true h2), (condZ_t h2), (eq_true h3), (eq_false h5), (condZ_f h5)]
    · cases h
      simp -implicitDefEqProofs -dsimp only [go_sem, (eq_true h2), (condZ_t h2), (eq_false h3)]
  · cases h
    simp -implicitDefEqProofs -dsimp only [go_sem, (eq_false h2), (condZ_f h2)]
/- 26 loop.example/g00827/spec.l22Replay -/
def m_spec_l22Replay_L1_St (v13 : List GEntry) (v14 : Int) (s_0 : List GNode) (s_1 : List GTie) (s_2 : Int) : (Int × Int × (List Int) × (List Int)) → St
  | (v15, v6_0, h768, h769) => ⟨[(2, .ptr 128 1 0 0), (4, .ptr 256 1 0 0), (6, .ptr 384 1 0 0), (13, .sl (rowsOf GEntry.encS v13)), (14, .lit (.int .i64 v14)), (15, .lit (.int .i64 v15))], [(128, 1, .var [.sl (rowsOf GNode.encS s_0), .sl (rowsOf GTie.enc s_1), .lit (.int .i64 s_2)]), (256, 1, .var [.lit (.int .i64 0), .lit (.slice none 0 0), .lit (.slice none 0 0)]), (384, 1, .var [.lit (.int .i64 v6_0), .ref 768 1 0 h768.length, .ref 769 1 0 h769.length]), (768, 1, .row true (rowsOf eI h768)), (769, 1, .row true (rowsOf eI h769))], 2⟩
attribute [go_sem] m_spec_l22Replay_L1_St
def hi26 : Hint where
  acts := fun _ => []
  draws := fun
    | 10 => ⟨.cons ⟨0, true, []⟩ (.cons ⟨1, false, []⟩ (.cons ⟨2, false, [0]⟩ (.cons ⟨3, false, []⟩ (.cons ⟨4, false, []⟩ .nil)))), [[], [], [1], [0, 1, 2], [0, 1, 2, 3]], [0, 1, 2, 3, 4]⟩
    | _ => ⟨.nil, [], []⟩
theorem hi26a (i : Nat) : hi26.acts i = [] := rfl
theorem hi26v (i : Nat) : hi26.views i = none := rfl
attribute [go_sem] hi26a hi26v Go.Proofs.Tryz.ntmps26 Go.Proofs.Tryz.results26
@[go_sem] theorem hi26d10 : (hi26.draws 10).order = .cons ⟨0, true, []⟩ (.cons ⟨1, false, []⟩ (.cons ⟨2, false, [0]⟩ (.cons ⟨3, false, []⟩ (.cons ⟨4, false, []⟩ .nil)))) := rfl
theorem c_spec_l22Replay {s : GShow} {log : List GEntry} {res : GState × Bool} (h : m_spec_l22Replay s log = some res) : CallOk Go.Proofs.Tryz.prog 26 [.agg [.sl (rowsOf GNode.encS s.nodes), .sl (rowsOf GTie.enc s.ties), .lit (.int .i64 s.horizon)], .sl (rowsOf GEntry.encS log)] [] (.tup [.agg [.lit (.int .i64 res.1.now), .ref 20000 1 0 res.1.times.length, .ref 20001 1 0 res.1.values.length], .lit (.bool res.2)]) [(20000, 1, .row true (rowsOf eI res.1.times)), (20001, 1, .row true (rowsOf eI res.1.values))] := by
  refine callOk_of (ra := [.homeCell 256 1, .homeCell 256 2]) (md := mdT) hT (hi := hi26) Go.Proofs.Tryz.func26 rfl rfl (by decide +kernel) (by simp) ?_
  unfold m_spec_l22Replay at h
  obtain ⟨r1001, g1, h⟩ := obnd_some h
  simp -implicitDefEqProofs -dsimp only [go_sem]
  refine callW_of (c_spec_StartState g1) ?_
  obtain ⟨q1005, l2, h⟩ := obnd_some h
  simp -implicitDefEqProofs -dsimp only [go_sem]
  refine loopW_loopO (m1 := .mk) (m2 := .mk) [.nfp [2, 4, 6, 13, 14, 15] [(128, 128), (256, 256), (384, 384), (1472, 768), (768, 768), (1473, 769), (769, 769)] []] (m_spec_l22Replay_L1_St log ((log.length : Nat) : Int) s.nodes s.ties s.horizon) l2 ?_ ?_
  · simp -implicitDefEqProofs -dsimp only [go_sem]
  · intro nb3 sb3 bb3 b3 gb3
    obtain ⟨v15_1, v6_0_1, h768_1, h769_1⟩ := sb3
    unfold m_spec_l22Replay_L1 at b3
    try dsimp only at b3
    rcases ite_some b3 with ⟨h4, b3⟩ | ⟨h4, b3⟩
    · obtain ⟨x1002, g5, b3⟩ := obnd_some b3
      obtain ⟨h6, h7, h8⟩ := getI_some g5
      obtain ⟨r1003, g9, b3⟩ := obnd_some b3
      simp -implicitDefEqProofs -dsimp only [go_sem, (eq_true h4), h6, h7, h8]
      refine callW_of (c_spec_l22Apply g9) ?_
      rcases ite_some b3 with ⟨h10, b3⟩ | ⟨h10, b3⟩
      · cases b3
        simp -implicitDefEqProofs -dsimp only [go_sem, (eq_true h4), h6, h7, h8, (eq_true h10), (condZ_t h10)]
        refine next_of gb3 ?_
        simp -implicitDefEqProofs -dsimp only [go_sem, (eq_true h4), h6, h7, h8, (eq_true h10), (condZ_t h10)]
      · cases b3
        have e11 := (done_of gb3).symm
        subst e11
        try dsimp only at h
        cases h
        simp -implicitDefEqProofs -dsimp only [go_sem, (eq_true h4), h6, h7, h8, (eq_false h10), (condZ_f h10)]
    · cases b3
      have e12 := (done_of gb3).symm
      subst e12
      try dsimp only at h
      obtain ⟨r1004, g13, h⟩ := obnd_some h
      simp -implicitDefEqProofs -dsimp only [go_sem, (eq_false h4)]
      refine callW_of (c_spec_ShowOk g13) ?_
      cases h
      simp -implicitDefEqProofs -dsimp only [go_sem, (eq_false h4)]
/- 43 loop.example/g00827/spec.SameStates -/
def hi43 : Hint where
  acts := fun _ => []
  draws := fun
    | _ => ⟨.nil, [], []⟩
theorem hi43a (i : Nat) : hi43.acts i = [] := rfl
theorem hi43v (i : Nat) : hi43.views i = none := rfl
attribute [go_sem] hi43a hi43v Go.Proofs.Tryz.ntmps43 Go.Proofs.Tryz.results43
theorem c_spec_SameStates {a : GState} {b : GState} {res : Bool} (h : m_spec_SameStates a b = some res) : CallOk Go.Proofs.Tryz.prog 43 [.agg [.lit (.int .i64 a.now), .sl (rowsOf eI a.times), .sl (rowsOf eI a.values)], .agg [.lit (.int .i64 b.now), .sl (rowsOf eI b.times), .sl (rowsOf eI b.values)]] [] (.lit (.bool res)) [] := by
  refine callOk_of (ra := []) (md := mdT) hT (hi := hi43) Go.Proofs.Tryz.func43 rfl rfl (by decide +kernel) (by simp) ?_
  unfold m_spec_SameStates at h
  rcases ite_some h with ⟨h1, h⟩ | ⟨h1, h⟩
  · obtain ⟨r1001, g2, h⟩ := obnd_some h
    simp -implicitDefEqProofs -dsimp only [go_sem, (eq_true h1)]
    refine callW_of (c_spec_l08Same g2) ?_
    rcases ite_some h with ⟨h3, h⟩ | ⟨h3, h⟩
    · obtain ⟨r1002, g4, h⟩ := obnd_some h
      simp -implicitDefEqProofs -dsimp only [go_sem, (eq_true h1), (eq_true h3), (condZ_t h3)]
      refine callW_of (c_spec_l08Same g4) ?_
      cases h
      simp -implicitDefEqProofs -dsimp only [go_sem, (eq_true h1), (eq_true h3), (condZ_t h3)]
    · cases h
      simp -implicitDefEqProofs -dsimp only [go_sem, (eq_true h1), (eq_false h3), (condZ_f h3)]
  · cases h
    simp -implicitDefEqProofs -dsimp only [go_sem, (eq_false h1)]
/- 19 loop.example/g00827/spec.DeskOk -/
def hi19 : Hint where
  acts := fun _ => []
  draws := fun
    | _ => ⟨.nil, [], []⟩
theorem hi19a (i : Nat) : hi19.acts i = [] := rfl
theorem hi19v (i : Nat) : hi19.views i = none := rfl
attribute [go_sem] hi19a hi19v Go.Proofs.Tryz.ntmps19 Go.Proofs.Tryz.results19
theorem c_spec_DeskOk {d : GDesk} {res : Bool} (h : m_spec_DeskOk d = some res) : CallOk Go.Proofs.Tryz.prog 19 [.agg [.sl (rowsOf GNode.encS d.show_.nodes), .sl (rowsOf GTie.enc d.show_.ties), .lit (.int .i64 d.show_.horizon), .lit (.int .i64 d.state.now), .sl (rowsOf eI d.state.times), .sl (rowsOf eI d.state.values), .lit (.bool d.lazy), .sl (rowsOf GEntry.encS d.log)]] [] (.lit (.bool res)) [] := by
  refine callOk_of (ra := []) (md := mdT) hT (hi := hi19) Go.Proofs.Tryz.func19 rfl rfl (by decide +kernel) (by simp) ?_
  unfold m_spec_DeskOk at h
  obtain ⟨r1001, g1, h⟩ := obnd_some h
  simp -implicitDefEqProofs -dsimp only [go_sem]
  refine callW_of (c_spec_StateOk g1) ?_
  rcases ite_some h with ⟨h2, h⟩ | ⟨h2, h⟩
  · rcases ite_some h with ⟨h3, h⟩ | ⟨h3, h⟩
    · obtain ⟨r1002, g4, h⟩ := obnd_some h
      simp -implicitDefEqProofs -dsimp only [go_sem, (eq_true h2), (condZ_t h2), (eq_true h3)]
      refine callW_of (c_spec_l22Replay g4) ?_
      rcases ite_some h with ⟨h5, h⟩ | ⟨h5, h⟩
      · obtain ⟨r1003, g6, h⟩ := obnd_some h
        simp -implicitDefEqProofs -dsimp only [go_sem, (eq_true h2), (condZ_t h2), (eq_true h3), (eq_true h5), (condZ_t h5)]
        refine callW_of (c_spec_SameStates g6) ?_
        cases h
        simp -implicitDefEqProofs -dsimp only [go_sem, (eq_true h2), (condZ_t h2), (eq_true h3), (eq_true h5), (condZ_t h5)]
      · cases h
        simp -implicitDefEqProofs -dsimp only [go_sem, (eq_true h2), (condZ_t h2), (eq_true h3), (eq_false h5), (condZ_f h5)]
    · cases h
      simp -implicitDefEqProofs -dsimp only [go_sem, (eq_true h2), (condZ_t h2), (eq_false h3)]
  · cases h
    simp -implicitDefEqProofs -dsimp only [go_sem, (eq_false h2), (condZ_f h2)]
/- 115 loop.example/g00827/impl.IsName -/
def m_impl_IsName_L1_St (s : ByteArray) (i : Int) : St := ⟨[(0, .lit (.string s)), (3, .lit (.int .i64 i))], [], 2⟩
attribute [go_sem] m_impl_IsName_L1_St
def hi115 : Hint where
  acts := fun _ => []
  draws := fun
    | 4 => ⟨.cons ⟨0, false, []⟩ (.cons ⟨1, false, []⟩ (.cons ⟨2, false, []⟩ (.cons ⟨3, false, []⟩ (.cons ⟨4, false, []⟩ (.cons ⟨5, false, []⟩ (.cons ⟨6, false, []⟩ (.cons ⟨7, false, []⟩ (.cons ⟨8, false, []⟩ (.cons ⟨9, false, []⟩ (.cons ⟨10, false, []⟩ (.cons ⟨11, false, []⟩ (.cons ⟨12, false, []⟩ (.cons ⟨13, false, []⟩ (.cons ⟨14, false, []⟩ (.cons ⟨15, false, []⟩ (.cons ⟨16, false, []⟩ (.cons ⟨17, false, []⟩ (.cons ⟨18, false, []⟩ (.cons ⟨19, false, []⟩ (.cons ⟨20, false, []⟩ (.cons ⟨21, false, []⟩ .nil))))))))))))))))))))), [[], [], [0, 1], [0, 1, 2], [0, 1, 2, 3], [0, 1, 2, 3, 4], [0, 1, 2, 3, 4], [0, 1, 2, 3, 4, 5, 6], [0, 1, 2, 3, 4, 5, 6, 7], [0, 1, 2, 3, 4, 5, 6, 7, 8], [], [], [10, 11], [10, 11, 12], [0, 1, 2, 3, 4, 10, 11, 12, 13], [0, 1, 2, 3, 4, 10, 11, 12, 13, 14], [0, 1, 2, 3, 4, 10, 11, 12, 13, 14], [0, 1, 2, 3, 4, 10, 11, 12, 13, 14, 15, 16], [0, 1, 2, 3, 4, 10, 11, 12, 13, 14, 15, 16, 17], [0, 1, 2, 3, 4, 10, 11, 12, 13, 14, 15, 16, 17, 18], [0, 1, 2, 3, 4, 5, 6, 7, 8, 9, 10, 11, 12, 13, 14], [0, 1, 2, 3, 4, 5, 6, 7, 8, 9, 10, 11, 12, 13, 14, 15, 16, 17, 18, 19, 20]], [0, 1, 2, 3, 4, 5, 6, 7, 8, 9, 10, 11, 12, 13, 14, 16, 17, 18, 19, 20, 15, 21]⟩
    | _ => ⟨.nil, [], []⟩
theorem hi115a (i : Nat) : hi115.acts i = [] := rfl
theorem hi115v (i : Nat) : hi115.views i = none := rfl
attribute [go_sem] hi115a hi115v Go.Proofs.Tryz.ntmps115 Go.Proofs.Tryz.results115
@[go_sem] theorem hi115d4 : (hi115.draws 4).order = .cons ⟨0, false, []⟩ (.cons ⟨1, false, []⟩ (.cons ⟨2, false, []⟩ (.cons ⟨3, false, []⟩ (.cons ⟨4, false, []⟩ (.cons ⟨5, false, []⟩ (.cons ⟨6, false, []⟩ (.cons ⟨7, false, []⟩ (.cons ⟨8, false, []⟩ (.cons ⟨9, false, []⟩ (.cons ⟨10, false, []⟩ (.cons ⟨11, false, []⟩ (.cons ⟨12, false, []⟩ (.cons ⟨13, false, []⟩ (.cons ⟨14, false, []⟩ (.cons ⟨15, false, []⟩ (.cons ⟨16, false, []⟩ (.cons ⟨17, false, []⟩ (.cons ⟨18, false, []⟩ (.cons ⟨19, false, []⟩ (.cons ⟨20, false, []⟩ (.cons ⟨21, false, []⟩ .nil))))))))))))))))))))) := rfl
theorem c_impl_IsName {s : ByteArray} {res : Bool} (h : m_impl_IsName s = some res) : CallOk Go.Proofs.Tryz.prog 115 [.lit (.string s)] [] (.lit (.bool res)) [] := by
  refine callOk_of (ra := []) (md := mdT) hT (hi := hi115) Go.Proofs.Tryz.func115 rfl rfl (by decide +kernel) (by simp) ?_
  unfold m_impl_IsName at h
  obtain ⟨q1002, l1, h⟩ := obnd_some h
  simp -implicitDefEqProofs -dsimp only [go_sem]
  refine loopW_loopO (m1 := .mk) (m2 := .mk) [.nf [0, 3] []] (m_impl_IsName_L1_St s) l1 ?_ ?_
  · simp -implicitDefEqProofs -dsimp only [go_sem]
  · intro nb2 sb2 bb2 b2 gb2
    obtain ⟨i_1, eb2⟩ : ∃ v, v = sb2 := ⟨_, rfl⟩; subst eb2
    unfold m_impl_IsName_L1 at b2
    try dsimp only at b2
    rcases ite_some b2 with ⟨h3, b2⟩ | ⟨h3, b2⟩
    · obtain ⟨c1001, g4, b2⟩ := obnd_some b2
      obtain ⟨h5, h6, h7⟩ := getS_some g4
      rcases ite_some b2 with ⟨h8, b2⟩ | ⟨h8, b2⟩
      · rcases ite_some b2 with ⟨h9, b2⟩ | ⟨h9, b2⟩
        · rcases ite_some b2 with ⟨h10, b2⟩ | ⟨h10, b2⟩
          · cases b2
            simp -implicitDefEqProofs -dsimp only [go_sem, (eq_true h3), h5, h6, h7, (eq_true h8), (eq_true h9), (eq_true h10)]
            refine next_of gb2 ?_
            simp -implicitDefEqProofs -dsimp only [go_sem, (eq_true h3), h5, h6, h7, (eq_true h8), (eq_true h9), (eq_true h10)]
          · rcases ite_some b2 with ⟨h11, b2⟩ | ⟨h11, b2⟩
            · rcases ite_some b2 with ⟨h12, b2⟩ | ⟨h12, b2⟩
              · cases b2
                have e13 := (done_of gb2).symm
                subst e13
                try dsimp only at h
                cases h
                simp -implicitDefEqProofs -dsimp only [go_sem, (eq_true h3), h5, h6, h7, (eq_true h8), (eq_true h9), (eq_false h10), (eq_true h11), (eq_true h12)]
              · cases b2
                simp -implicitDefEqProofs -dsimp only [go_sem, (eq_true h3), h5, h6, h7, (eq_true h8), (eq_true h9), (eq_false h10), (eq_true h11), (eq_false h12)]
                refine next_of gb2 ?_
                simp -implicitDefEqProofs -dsimp only [go_sem, (eq_true h3), h5, h6, h7, (eq_true h8), (eq_true h9), (eq_false h10), (eq_true h11), (eq_false h12)]
            · cases b2
              have e14 := (done_of gb2).symm
              subst e14
              try dsimp only at h
              cases h
              simp -implicitDefEqProofs -dsimp only [go_sem, (eq_true h3), h5, h6, h7, (eq_true h8), (eq_true h9), (eq_false h10), (eq_false h11)]
        · rcases ite_some b2 with ⟨h15, b2⟩ | ⟨h15, b2⟩
          · cases b2
            simp -implicitDefEqProofs -dsimp only [go_sem, (eq_true h3), h5, h6, h7, (eq_true h8), (eq_false h9), (eq_true h15)]
            refine next_of gb2 ?_
            simp -implicitDefEqProofs -dsimp only [go_sem, (eq_true h3), h5, h6, h7, (eq_true h8), (eq_false h9), (eq_true h15)]
          · cases b2
            have e16 := (done_of gb2).symm
            subst e16
            try dsimp only at h
            cases h
            simp -implicitDefEqProofs -dsimp only [go_sem, (eq_true h3), h5, h6, h7, (eq_true h8), (eq_false h9), (eq_false h15)]
      · rcases ite_some b2 with ⟨h17, b2⟩ | ⟨h17, b2⟩
        · rcases ite_some b2 with ⟨h18, b2⟩ | ⟨h18, b2⟩
          · rcases ite_some b2 with ⟨h19, b2⟩ | ⟨h19, b2⟩
            · cases b2
              have e20 := (done_of gb2).symm
              subst e20
              try dsimp only at h
              cases h
              simp -implicitDefEqProofs -dsimp only [go_sem, (eq_true h3), h5, h6, h7, (eq_false h8), (eq_true h17), (eq_true h18), (eq_true h19)]
            · cases b2
              simp -implicitDefEqProofs -dsimp only [go_sem, (eq_true h3), h5, h6, h7, (eq_false h8), (eq_true h17), (eq_true h18), (eq_false h19)]
              refine next_of gb2 ?_
              simp -implicitDefEqProofs -dsimp only [go_sem, (eq_true h3), h5, h6, h7, (eq_false h8), (eq_true h17), (eq_true h18), (eq_false h19)]
          · cases b2
            have e21 := (done_of gb2).symm
            subst e21
            try dsimp only at h
            cases h
            simp -implicitDefEqProofs -dsimp only [go_sem, (eq_true h3), h5, h6, h7, (eq_false h8), (eq_true h17), (eq_false h18)]
        · cases b2
          have e22 := (done_of gb2).symm
          subst e22
          try dsimp only at h
          cases h
          simp -implicitDefEqProofs -dsimp only [go_sem, (eq_true h3), h5, h6, h7, (eq_false h8), (eq_false h17)]
    · cases b2
      have e23 := (done_of gb2).symm
      subst e23
      try dsimp only at h
      rcases ite_some h with ⟨h24, h⟩ | ⟨h24, h⟩
      · cases h
        simp -implicitDefEqProofs -dsimp only [go_sem, (eq_false h3), (eq_true h24)]
      · cases h
        simp -implicitDefEqProofs -dsimp only [go_sem, (eq_false h3), (eq_false h24)]
/- 67 loop.example/g00827/impl.propOf -/
def hi67 : Hint where
  acts := fun _ => []
  draws := fun
    | _ => ⟨.nil, [], []⟩
theorem hi67a (i : Nat) : hi67.acts i = [] := rfl
theorem hi67v (i : Nat) : hi67.views i = none := rfl
attribute [go_sem] hi67a hi67v Go.Proofs.Tryz.ntmps67 Go.Proofs.Tryz.results67
theorem c_impl_propOf {l : Int} {res : Int} (h : m_impl_propOf l = some res) : CallOk Go.Proofs.Tryz.prog 67 [.lit (.int .i64 l)] [] (.lit (.int .i64 res)) [] := by
  refine callOk_of (ra := []) (md := mdT) hT (hi := hi67) Go.Proofs.Tryz.func67 rfl rfl (by decide +kernel) (by simp) ?_
  unfold m_impl_propOf at h
  cases h
  simp -implicitDefEqProofs -dsimp only [go_sem]
/- 63 loop.example/g00827/impl.LabelOk -/
def m_impl_LabelOk_L1_St (l : List Int) (v6 : Int) (v7 : Int) : St := ⟨[(0, .sl (rowsOf eI l)), (5, .sl (rowsOf eI l)), (6, .lit (.int .i64 v6)), (7, .lit (.int .i64 v7))], [], 2⟩
attribute [go_sem] m_impl_LabelOk_L1_St
def hi63 : Hint where
  acts := fun _ => []
  draws := fun
    | _ => ⟨.nil, [], []⟩
theorem hi63a (i : Nat) : hi63.acts i = [] := rfl
theorem hi63v (i : Nat) : hi63.views i = none := rfl
attribute [go_sem] hi63a hi63v Go.Proofs.Tryz.ntmps63 Go.Proofs.Tryz.results63
theorem c_impl_LabelOk {l : List Int} {res : Bool} (h : m_impl_LabelOk l = some res) : CallOk Go.Proofs.Tryz.prog 63 [.sl (rowsOf eI l)] [] (.lit (.bool res)) [] := by
  refine callOk_of (ra := []) (md := mdT) hT (hi := hi63) Go.Proofs.Tryz.func63 rfl rfl (by decide +kernel) (by simp) ?_
  unfold m_impl_LabelOk at h
  obtain ⟨q1005, l1, h⟩ := obnd_some h
  simp -implicitDefEqProofs -dsimp only [go_sem]
  refine loopW_loopO (m1 := .mk) (m2 := .mk) [.nf [0, 5, 6, 7] []] (m_impl_LabelOk_L1_St l ((l.length : Nat) : Int)) l1 ?_ ?_
  · simp -implicitDefEqProofs -dsimp only [go_sem]
  · intro nb2 sb2 bb2 b2 gb2
    obtain ⟨v7_1, eb2⟩ : ∃ v, v = sb2 := ⟨_, rfl⟩; subst eb2
    unfold m_impl_LabelOk_L1 at b2
    try dsimp only at b2
    rcases ite_some b2 with ⟨h3, b2⟩ | ⟨h3, b2⟩
    · obtain ⟨x1001, g4, b2⟩ := obnd_some b2
      obtain ⟨h5, h6, h7⟩ := getI_some g4
      rcases ite_some b2 with ⟨h8, b2⟩ | ⟨h8, b2⟩
      · cases b2
        have e9 := (done_of gb2).symm
        subst e9
        try dsimp only at h
        cases h
        simp -implicitDefEqProofs -dsimp only [go_sem, (eq_true h3), h5, h6, h7, (eq_true h8)]
      · rcases ite_some b2 with ⟨h10, b2⟩ | ⟨h10, b2⟩
        · cases b2
          have e11 := (done_of gb2).symm
          subst e11
          try dsimp only at h
          cases h
          simp -implicitDefEqProofs -dsimp only [go_sem, (eq_true h3), h5, h6, h7, (eq_false h8), (eq_true h10)]
        · rcases ite_some b2 with ⟨h12, b2⟩ | ⟨h12, b2⟩
          · cases b2
            have e13 := (done_of gb2).symm
            subst e13
            try dsimp only at h
            cases h
            simp -implicitDefEqProofs -dsimp only [go_sem, (eq_true h3), h5, h6, h7, (eq_false h8), (eq_false h10), (eq_true h12)]
          · rcases ite_some b2 with ⟨h14, b2⟩ | ⟨h14, b2⟩
            · obtain ⟨x1002, g15, b2⟩ := obnd_some b2
              obtain ⟨h16, h17, h18⟩ := getI_some g15
              obtain ⟨r1003, g19, b2⟩ := obnd_some b2
              simp -implicitDefEqProofs -dsimp only [go_sem, (eq_true h3), h5, h6, h7, (eq_false h8), (eq_false h10), (eq_false h12), (eq_true h14), h16, h17, h18]
              refine callW_of (c_impl_propOf g19) ?_
              obtain ⟨r1004, g20, b2⟩ := obnd_some b2
              simp -implicitDefEqProofs -dsimp only [go_sem, (eq_true h3), h5, h6, h7, (eq_false h8), (eq_false h10), (eq_false h12), (eq_true h14), h16, h17, h18]
              refine callW_of (c_impl_propOf g20) ?_
              rcases ite_some b2 with ⟨h21, b2⟩ | ⟨h21, b2⟩
              · cases b2
                have e22 := (done_of gb2).symm
                subst e22
                try dsimp only at h
                cases h
                simp -implicitDefEqProofs -dsimp only [go_sem, (eq_true h3), h5, h6, h7, (eq_false h8), (eq_false h10), (eq_false h12), (eq_true h14), h16, h17, h18, (eq_true h21)]
              · cases b2
                simp -implicitDefEqProofs -dsimp only [go_sem, (eq_true h3), h5, h6, h7, (eq_false h8), (eq_false h10), (eq_false h12), (eq_true h14), h16, h17, h18, (eq_false h21)]
                refine next_of gb2 ?_
                simp -implicitDefEqProofs -dsimp only [go_sem, (eq_true h3), h5, h6, h7, (eq_false h8), (eq_false h10), (eq_false h12), (eq_true h14), h16, h17, h18, (eq_false h21)]
            · cases b2
              simp -implicitDefEqProofs -dsimp only [go_sem, (eq_true h3), h5, h6, h7, (eq_false h8), (eq_false h10), (eq_false h12), (eq_false h14)]
              refine next_of gb2 ?_
              simp -implicitDefEqProofs -dsimp only [go_sem, (eq_true h3), h5, h6, h7, (eq_false h8), (eq_false h10), (eq_false h12), (eq_false h14)]
    · cases b2
      have e23 := (done_of gb2).symm
      subst e23
      try dsimp only at h
      cases h
      simp -implicitDefEqProofs -dsimp only [go_sem, (eq_false h3)]
/- 84 loop.example/g00827/impl.NodeOk -/
def hi84 : Hint where
  acts := fun _ => []
  draws := fun
    | _ => ⟨.nil, [], []⟩
theorem hi84a (i : Nat) : hi84.acts i = [] := rfl
theorem hi84v (i : Nat) : hi84.views i = none := rfl
attribute [go_sem] hi84a hi84v Go.Proofs.Tryz.ntmps84 Go.Proofs.Tryz.results84
theorem c_impl_NodeOk {n : GNode} {res : Bool} (h : m_impl_NodeOk n = some res) : CallOk Go.Proofs.Tryz.prog 84 [.agg [.lit (.string n.name), .sl (rowsOf eI n.label), .lit (.int .i64 n.watch)]] [] (.lit (.bool res)) [] := by
  refine callOk_of (ra := []) (md := mdT) hT (hi := hi84) Go.Proofs.Tryz.func84 rfl rfl (by decide +kernel) (by simp) ?_
  unfold m_impl_NodeOk at h
  obtain ⟨r1001, g1, h⟩ := obnd_some h
  simp -implicitDefEqProofs -dsimp only [go_sem]
  refine callW_of (c_impl_IsName g1) ?_
  rcases ite_some h with ⟨h2, h⟩ | ⟨h2, h⟩
  · obtain ⟨r1002, g3, h⟩ := obnd_some h
    simp -implicitDefEqProofs -dsimp only [go_sem, (eq_true h2), (condZ_t h2)]
    refine callW_of (c_impl_LabelOk g3) ?_
    rcases ite_some h with ⟨h4, h⟩ | ⟨h4, h⟩
    · rcases ite_some h with ⟨h5, h⟩ | ⟨h5, h⟩
      · cases h
        simp -implicitDefEqProofs -dsimp only [go_sem, (eq_true h2), (condZ_t h2), (eq_true h4), (condZ_t h4), (eq_true h5)]
      · cases h
        simp -implicitDefEqProofs -dsimp only [go_sem, (eq_true h2), (condZ_t h2), (eq_true h4), (condZ_t h4), (eq_false h5)]
    · cases h
      simp -implicitDefEqProofs -dsimp only [go_sem, (eq_true h2), (condZ_t h2), (eq_false h4), (condZ_f h4)]
  · cases h
    simp -implicitDefEqProofs -dsimp only [go_sem, (eq_false h2), (condZ_f h2)]
/- 55 loop.example/g00827/impl.areNodes -/
def m_impl_areNodes_L2_St (v35 : List GNode) (v36 : Int) (v37 : Int) (v48 : List GNode) (v49 : Int) (s_1 : List GTie) (s_2 : Int) (n_0 : ByteArray) (n_1 : List Int) (n_2 : Int) (v50 : Int) : St := ⟨[(1, .ptr 64 1 0 0), (4, .ptr 256 1 0 0), (35, .sl (rowsOf GNode.encS v35)), (36, .lit (.int .i64 v36)), (37, .lit (.int .i64 v37)), (48, .sl (rowsOf GNode.encS v48)), (49, .lit (.int .i64 v49)), (50, .lit (.int .i64 v50))], [(64, 1, .var [.sl (rowsOf GNode.encS v35), .sl (rowsOf GTie.enc s_1), .lit (.int .i64 s_2)]), (256, 1, .var [.lit (.string n_0), .sl (rowsOf eI n_1), .lit (.int .i64 n_2)])], 2⟩
attribute [go_sem] m_impl_areNodes_L2_St
def m_impl_areNodes_L3_St (v35 : List GNode) (v36 : Int) (s_1 : List GTie) (s_2 : Int) (v37 : Int) : St := ⟨[(1, .ptr 64 1 0 0), (35, .sl (rowsOf GNode.encS v35)), (36, .lit (.int .i64 v36)), (37, .lit (.int .i64 v37))], [(64, 1, .var [.sl (rowsOf GNode.encS v35), .sl (rowsOf GTie.enc s_1), .lit (.int .i64 s_2)])], 2⟩
attribute [go_sem] m_impl_areNodes_L3_St
def hi55 : Hint where
  acts := fun _ => []
  draws := fun
    | _ => ⟨.nil, [], []⟩
theorem hi55a (i : Nat) : hi55.acts i = [] := rfl
theorem hi55v (i : Nat) : hi55.views i = none := rfl
attribute [go_sem] hi55a hi55v Go.Proofs.Tryz.ntmps55 Go.Proofs.Tryz.results55
theorem c_impl_areNodes {s : GShow} {res : Bool} (h : m_impl_areNodes s = some res) : CallOk Go.Proofs.Tryz.prog 55 [.agg [.sl (rowsOf GNode.encS s.nodes), .sl (rowsOf GTie.enc s.ties), .lit (.int .i64 s.horizon)]] [] (.lit (.bool res)) [] := by
  refine callOk_of (ra := []) (md := mdT) hT (hi := hi55) Go.Proofs.Tryz.func55 rfl rfl (by decide +kernel) (by simp) ?_
  unfold m_impl_areNodes at h
  rcases ite_some h with ⟨h1, h⟩ | ⟨h1, h⟩
  · cases h
    simp -implicitDefEqProofs -dsimp only [go_sem, (eq_true h1)]
  · rcases ite_some h with ⟨h2, h⟩ | ⟨h2, h⟩
    · cases h
      simp -implicitDefEqProofs -dsimp only [go_sem, (eq_false h1), (eq_true h2)]
    · obtain ⟨x1001, g3, h⟩ := obnd_some h
      obtain ⟨h5, h6⟩ := getI_nat (k := 0) g3
      rcases ite_some h with ⟨h7, h⟩ | ⟨h7, h⟩
      · cases h
        simp -implicitDefEqProofs -dsimp only [go_sem, (eq_false h1), (eq_false h2), h5, h6, (eq_true h7)]
      · rcases ite_some h with ⟨h8, h⟩ | ⟨h8, h⟩
        · obtain ⟨q1006, l9, h⟩ := obnd_some h
          simp -implicitDefEqProofs -dsimp only [go_sem, (eq_false h1), (eq_false h2), h5, h6, (eq_false h7), (eq_true h8)]
          refine loopW_loopO (m1 := .mk) (m2 := .mk) [.nf [1, 35, 36, 37] [64]] (m_impl_areNodes_L3_St s.nodes ((s.nodes.length : Nat) : Int) s.ties s.horizon) l9 ?_ ?_
          · simp -implicitDefEqProofs -dsimp only [go_sem, (eq_false h1), (eq_false h2), h5, h6, (eq_false h7), (eq_true h8)]
          · intro nb10 sb10 bb10 b10 gb10
            obtain ⟨v37_1, eb10⟩ : ∃ v, v = sb10 := ⟨_, rfl⟩; subst eb10
            unfold m_impl_areNodes_L3 at b10
            try dsimp only at b10
            rcases ite_some b10 with ⟨h11, b10⟩ | ⟨h11, b10⟩
            · obtain ⟨x1002, g12, b10⟩ := obnd_some b10
              obtain ⟨h13, h14, h15⟩ := getI_some g12
              obtain ⟨r1003, g16, b10⟩ := obnd_some b10
              simp -implicitDefEqProofs -dsimp only [go_sem, (eq_false h1), (eq_false h2), h5, h6, (eq_false h7), (eq_true h8), (eq_true h11), h13, h14, h15]
              refine callW_of (c_impl_NodeOk g16) ?_
              rcases ite_some b10 with ⟨h17, b10⟩ | ⟨h17, b10⟩
              · obtain ⟨h18, b10⟩ := chk_some b10
                obtain ⟨h19, b10⟩ := chk_some b10
                obtain ⟨q1005, l20, b10⟩ := obnd_some b10
                simp -implicitDefEqProofs -dsimp only [go_sem, (eq_false h1), (eq_false h2), h5, h6, (eq_false h7), (eq_true h8), (eq_true h11), h13, h14, h15, (eq_true h17), (condZ_t h17), (eq_true h18), (eq_true h19)]
                refine loopW_loopO (m1 := .mk) (m2 := .mk) [.nf [1, 4, 35, 36, 37, 48, 49, 50] [64, 256]] (m_impl_areNodes_L2_St s.nodes ((s.nodes.length : Nat) : Int) v37_1 (s.nodes.take v37_1.toNat) (((s.nodes.take v37_1.toNat).length : Nat) : Int) s.ties s.horizon x1002.name x1002.label x1002.watch) l20 ?_ ?_
                · simp -implicitDefEqProofs -dsimp only [go_sem, (eq_false h1), (eq_false h2), h5, h6, (eq_false h7), (eq_true h8), (eq_true h11), h13, h14, h15, (eq_true h17), (condZ_t h17), (eq_true h18), (eq_true h19)]
                · intro nb21 sb21 bb21 b21 gb21
                  obtain ⟨v50_2, eb21⟩ : ∃ v, v = sb21 := ⟨_, rfl⟩; subst eb21
                  unfold m_impl_areNodes_L2 at b21
                  try dsimp only at b21
                  rcases ite_some b21 with ⟨h22, b21⟩ | ⟨h22, b21⟩
                  · obtain ⟨x1004, g23, b21⟩ := obnd_some b21
                    obtain ⟨h24, h25, h26⟩ := getI_some g23
                    rcases ite_some b21 with ⟨h27, b21⟩ | ⟨h27, b21⟩
                    · cases b21
                      have e28 := (done_of gb21).symm
                      subst e28
                      try dsimp only at b10
                      cases b10
                      have e29 := (done_of gb10).symm
                      subst e29
                      try dsimp only at h
                      cases h
                      simp -implicitDefEqProofs -dsimp only [go_sem, (eq_false h1), (eq_false h2), h5, h6, (eq_false h7), (eq_true h8), (eq_true h11), h13, h14, h15, (eq_true h17), (condZ_t h17), (eq_true h18), (eq_true h19), (eq_true h22), h24, h25, h26, (eq_true h27)]
                    · rcases ite_some b21 with ⟨h30, b21⟩ | ⟨h30, b21⟩
                      · cases b21
                        simp -implicitDefEqProofs -dsimp only [go_sem, (eq_false h1), (eq_false h2), h5, h6, (eq_false h7), (eq_true h8), (eq_true h11), h13, h14, h15, (eq_true h17), (condZ_t h17), (eq_true h18), (eq_true h19), (eq_true h22), h24, h25, h26, (eq_false h27), (eq_true h30)]
                        refine next_of gb21 ?_
                        simp -implicitDefEqProofs -dsimp only [go_sem, (eq_false h1), (eq_false h2), h5, h6, (eq_false h7), (eq_true h8), (eq_true h11), h13, h14, h15, (eq_true h17), (condZ_t h17), (eq_true h18), (eq_true h19), (eq_true h22), h24, h25, h26, (eq_false h27), (eq_true h30)]
                      · rcases ite_some b21 with ⟨h31, b21⟩ | ⟨h31, b21⟩
                        · cases b21
                          have e32 := (done_of gb21).symm
                          subst e32
                          try dsimp only at b10
                          cases b10
                          have e33 := (done_of gb10).symm
                          subst e33
                          try dsimp only at h
                          cases h
                          simp -implicitDefEqProofs -dsimp only [go_sem, (eq_false h1), (eq_false h2), h5, h6, (eq_false h7), (eq_true h8), (eq_true h11), h13, h14, h15, (eq_true h17), (condZ_t h17), (eq_true h18), (eq_true h19), (eq_true h22), h24, h25, h26, (eq_false h27), (eq_false h30), (eq_true h31)]
                        · cases b21
                          simp -implicitDefEqProofs -dsimp only [go_sem, (eq_false h1), (eq_false h2), h5, h6, (eq_false h7), (eq_true h8), (eq_true h11), h13, h14, h15, (eq_true h17), (condZ_t h17), (eq_true h18), (eq_true h19), (eq_true h22), h24, h25, h26, (eq_false h27), (eq_false h30), (eq_false h31)]
                          refine next_of gb21 ?_
                          simp -implicitDefEqProofs -dsimp only [go_sem, (eq_false h1), (eq_false h2), h5, h6, (eq_false h7), (eq_true h8), (eq_true h11), h13, h14, h15, (eq_true h17), (condZ_t h17), (eq_true h18), (eq_true h19), (eq_true h22), h24, h25, h26, (eq_false h27), (eq_false h30), (eq_false h31)]
                  · cases b21
                    have e34 := (done_of gb21).symm
                    subst e34
                    try dsimp only at b10
                    cases b10
                    simp -implicitDefEqProofs -dsimp only [go_sem, (eq_false h1), (eq_false h2), h5, h6, (eq_false h7), (eq_true h8), (eq_true h11), h13, h14, h15, (eq_true h17), (condZ_t h17), (eq_true h18), (eq_true h19), (eq_false h22)]
                    refine next_of gb10 ?_
                    simp -implicitDefEqProofs -dsimp only [go_sem, (eq_false h1), (eq_false h2), h5, h6, (eq_false h7), (eq_true h8), (eq_true h11), h13, h14, h15, (eq_true h17), (condZ_t h17), (eq_true h18), (eq_true h19), (eq_false h22)]
              · cases b10
                have e35 := (done_of gb10).symm
                subst e35
                try dsimp only at h
                cases h
                simp -implicitDefEqProofs -dsimp only [go_sem, (eq_false h1), (eq_false h2), h5, h6, (eq_false h7), (eq_true h8), (eq_true h11), h13, h14, h15, (eq_false h17), (condZ_f h17)]
            · cases b10
              have e36 := (done_of gb10).symm
              subst e36
              try dsimp only at h
              cases h
              simp -implicitDefEqProofs -dsimp only [go_sem, (eq_false h1), (eq_false h2), h5, h6, (eq_false h7), (eq_true h8), (eq_false h11)]
        · cases h
          simp -implicitDefEqProofs -dsimp only [go_sem, (eq_false h1), (eq_false h2), h5, h6, (eq_false h7), (eq_false h8)]
/- 85 loop.example/g00827/impl.isNode -/
def hi85 : Hint where
  acts := fun _ => []
  draws := fun
    | _ => ⟨.nil, [], []⟩
theorem hi85a (i : Nat) : hi85.acts i = [] := rfl
theorem hi85v (i : Nat) : hi85.views i = none := rfl
attribute [go_sem] hi85a hi85v Go.Proofs.Tryz.ntmps85 Go.Proofs.Tryz.results85
theorem c_impl_isNode {n : Int} {node : Int} {res : Bool} (h : m_impl_isNode n node = some res) : CallOk Go.Proofs.Tryz.prog 85 [.lit (.int .i64 n), .lit (.int .i64 node)] [] (.lit (.bool res)) [] := by
  refine callOk_of (ra := []) (md := mdT) hT (hi := hi85) Go.Proofs.Tryz.func85 rfl rfl (by decide +kernel) (by simp) ?_
  unfold m_impl_isNode at h
  rcases ite_some h with ⟨h1, h⟩ | ⟨h1, h⟩
  · cases h
    simp -implicitDefEqProofs -dsimp only [go_sem, (eq_true h1)]
  · cases h
    simp -implicitDefEqProofs -dsimp only [go_sem, (eq_false h1)]
/- 86 loop.example/g00827/impl.isSpan -/
def hi86 : Hint where
  acts := fun _ => []
  draws := fun
    | _ => ⟨.nil, [], []⟩
theorem hi86a (i : Nat) : hi86.acts i = [] := rfl
theorem hi86v (i : Nat) : hi86.views i = none := rfl
attribute [go_sem] hi86a hi86v Go.Proofs.Tryz.ntmps86 Go.Proofs.Tryz.results86
theorem c_impl_isSpan {n : Int} {res : Bool} (h : m_impl_isSpan n = some res) : CallOk Go.Proofs.Tryz.prog 86 [.lit (.int .i64 n)] [] (.lit (.bool res)) [] := by
  refine callOk_of (ra := []) (md := mdT) hT (hi := hi86) Go.Proofs.Tryz.func86 rfl rfl (by decide +kernel) (by simp) ?_
  unfold m_impl_isSpan at h
  rcases ite_some h with ⟨h1, h⟩ | ⟨h1, h⟩
  · cases h
    simp -implicitDefEqProofs -dsimp only [go_sem, (eq_true h1)]
  · cases h
    simp -implicitDefEqProofs -dsimp only [go_sem, (eq_false h1)]
/- 68 slices.Equal[[]int,int] -/
def m_slices_Equal_int_L1_St (v0 : List Int) (v1 : List Int) (v12 : Int) (v13 : Int) : St := ⟨[(0, .sl (rowsOf eI v0)), (1, .sl (rowsOf eI v1)), (12, .lit (.int .i64 v12)), (13, .lit (.int .i64 v13))], [], 2⟩
attribute [go_sem] m_slices_Equal_int_L1_St
def hi68 : Hint where
  acts := fun _ => []
  draws := fun
    | 6 => ⟨.cons ⟨0, false, []⟩ (.cons ⟨1, false, []⟩ (.cons ⟨2, false, []⟩ (.cons ⟨3, false, []⟩ (.cons ⟨4, false, []⟩ (.cons ⟨5, false, []⟩ (.cons ⟨6, false, []⟩ (.cons ⟨7, false, []⟩ (.cons ⟨8, false, []⟩ .nil)))))))), [[], [], [0, 1], [0, 1, 2], [], [], [4, 5], [4, 5, 6], [0, 1, 2, 3, 4, 5, 6, 7]], [0, 1, 2, 3, 4, 5, 6, 7, 8]⟩
    | _ => ⟨.nil, [], []⟩
theorem hi68a (i : Nat) : hi68.acts i = [] := rfl
theorem hi68v (i : Nat) : hi68.views i = none := rfl
attribute [go_sem] hi68a hi68v Go.Proofs.Tryz.ntmps68 Go.Proofs.Tryz.results68
@[go_sem] theorem hi68d6 : (hi68.draws 6).order = .cons ⟨0, false, []⟩ (.cons ⟨1, false, []⟩ (.cons ⟨2, false, []⟩ (.cons ⟨3, false, []⟩ (.cons ⟨4, false, []⟩ (.cons ⟨5, false, []⟩ (.cons ⟨6, false, []⟩ (.cons ⟨7, false, []⟩ (.cons ⟨8, false, []⟩ .nil)))))))) := rfl
theorem c_slices_Equal_int {v0 : List Int} {v1 : List Int} {res : Bool} (h : m_slices_Equal_int v0 v1 = some res) : CallOk Go.Proofs.Tryz.prog 68 [.sl (rowsOf eI v0), .sl (rowsOf eI v1)] [] (.lit (.bool res)) [] := by
  refine callOk_of (ra := []) (md := mdT) hT (hi := hi68) Go.Proofs.Tryz.func68 rfl rfl (by decide +kernel) (by simp) ?_
  unfold m_slices_Equal_int at h
  rcases ite_some h with ⟨h1, h⟩ | ⟨h1, h⟩
  · obtain ⟨q1003, l2, h⟩ := obnd_some h
    simp -implicitDefEqProofs -dsimp only [go_sem, (eq_true h1)]
    refine loopW_loopO (m1 := .mk) (m2 := .mk) [.nf [0, 1, 12, 13] []] (m_slices_Equal_int_L1_St v0 v1 ((v0.length : Nat) : Int)) l2 ?_ ?_
    · simp -implicitDefEqProofs -dsimp only [go_sem, (eq_true h1)]
    · intro nb3 sb3 bb3 b3 gb3
      obtain ⟨v13_1, eb3⟩ : ∃ v, v = sb3 := ⟨_, rfl⟩; subst eb3
      unfold m_slices_Equal_int_L1 at b3
      try dsimp only at b3
      rcases ite_some b3 with ⟨h4, b3⟩ | ⟨h4, b3⟩
      · obtain ⟨x1001, g5, b3⟩ := obnd_some b3
        obtain ⟨h6, h7, h8⟩ := getI_some g5
        obtain ⟨x1002, g9, b3⟩ := obnd_some b3
        obtain ⟨h10, h11, h12⟩ := getI_some g9
        rcases ite_some b3 with ⟨h13, b3⟩ | ⟨h13, b3⟩
        · cases b3
          simp -implicitDefEqProofs -dsimp only [go_sem, (eq_true h1), (eq_true h4), h6, h7, h8, h10, h11, h12, (eq_true h13)]
          refine next_of gb3 ?_
          simp -implicitDefEqProofs -dsimp only [go_sem, (eq_true h1), (eq_true h4), h6, h7, h8, h10, h11, h12, (eq_true h13)]
        · cases b3
          have e14 := (done_of gb3).symm
          subst e14
          try dsimp only at h
          cases h
          simp -implicitDefEqProofs -dsimp only [go_sem, (eq_true h1), (eq_true h4), h6, h7, h8, h10, h11, h12, (eq_false h13)]
      · cases b3
        have e15 := (done_of gb3).symm
        subst e15
        try dsimp only at h
        cases h
        simp -implicitDefEqProofs -dsimp only [go_sem, (eq_true h1), (eq_false h4)]
  · cases h
    simp -implicitDefEqProofs -dsimp only [go_sem, (eq_false h1)]
/- 116 slices.IndexFunc[[]loop.example/g00827/impl.Tie,loop.example/g00827/impl.Tie] -/
def m_slices_IndexFunc_Tie_L1_St (v0 : List GTie) (f_v1 : Nat) (k_v1 : List AV) (v7 : Int) (v8 : Int) : St := ⟨[(0, .sl (rowsOf GTie.enc v0)), (1, .fn f_v1 k_v1), (7, .lit (.int .i64 v7)), (8, .lit (.int .i64 v8))], [], 2⟩
attribute [go_sem] m_slices_IndexFunc_Tie_L1_St
def hi116 : Hint where
  acts := fun _ => []
  draws := fun
    | _ => ⟨.nil, [], []⟩
theorem hi116a (i : Nat) : hi116.acts i = [] := rfl
theorem hi116v (i : Nat) : hi116.views i = none := rfl
attribute [go_sem] hi116a hi116v Go.Proofs.Tryz.ntmps116 Go.Proofs.Tryz.results116
theorem c_slices_IndexFunc_Tie {v0 : List GTie} {v1 : GTie → Option Bool} {f_v1 : Nat} {k_v1 : List AV} (hp_v1 : ∀ y0 r, v1 y0 = some r → CallOk Go.Proofs.Tryz.prog f_v1 ([.agg [.lit (.int .i64 y0.from_), .lit (.int .i64 y0.to), .lit (.int .i64 y0.low), .lit (.int .i64 y0.high), .lit (.bool y0.free)]] ++ k_v1) [] (.lit (.bool r)) []) (hc_v1 : KC k_v1) (hm_v1 : mdT f_v1 = ⟨[], false⟩) {res : Int} (h : m_slices_IndexFunc_Tie v0 v1 = some res) : CallOk Go.Proofs.Tryz.prog 116 [.sl (rowsOf GTie.enc v0), .fn f_v1 k_v1] [] (.lit (.int .i64 res)) [] := by
  refine callOk_of (ra := []) (md := mdT) hT (hi := hi116) Go.Proofs.Tryz.func116 rfl rfl (by decide +kernel) (by simp) ?_
  unfold m_slices_IndexFunc_Tie at h
  obtain ⟨q1003, l1, h⟩ := obnd_some h
  simp -implicitDefEqProofs -dsimp only [go_sem, hc_v1.1, hc_v1.2, hm_v1]
  refine loopW_loopO (m1 := .mk) (m2 := .mk) [.nf [0, 1, 7, 8] []] (m_slices_IndexFunc_Tie_L1_St v0 f_v1 k_v1 ((v0.length : Nat) : Int)) l1 ?_ ?_
  · simp -implicitDefEqProofs -dsimp only [go_sem, hc_v1.1, hc_v1.2, hm_v1]
  · intro nb2 sb2 bb2 b2 gb2
    obtain ⟨v8_1, eb2⟩ : ∃ v, v = sb2 := ⟨_, rfl⟩; subst eb2
    unfold m_slices_IndexFunc_Tie_L1 at b2
    try dsimp only at b2
    rcases ite_some b2 with ⟨h3, b2⟩ | ⟨h3, b2⟩
    · obtain ⟨x1001, g4, b2⟩ := obnd_some b2
      obtain ⟨h5, h6, h7⟩ := getI_some g4
      obtain ⟨r1002, g8, b2⟩ := obnd_some b2
      simp -implicitDefEqProofs -dsimp only [go_sem, hc_v1.1, hc_v1.2, hm_v1, (eq_true h3), h5, h6, h7]
      refine callW_of (hp_v1 _ _ g8) ?_
      rcases ite_some b2 with ⟨h9, b2⟩ | ⟨h9, b2⟩
      · cases b2
        have e10 := (done_of gb2).symm
        subst e10
        try dsimp only at h
        cases h
        simp -implicitDefEqProofs -dsimp only [go_sem, hc_v1.1, hc_v1.2, hm_v1, (eq_true h3), h5, h6, h7, (eq_true h9), (condZ_t h9)]
      · cases b2
        simp -implicitDefEqProofs -dsimp only [go_sem, hc_v1.1, hc_v1.2, hm_v1, (eq_true h3), h5, h6, h7, (eq_false h9), (condZ_f h9)]
        refine next_of gb2 ?_
        simp -implicitDefEqProofs -dsimp only [go_sem, hc_v1.1, hc_v1.2, hm_v1, (eq_true h3), h5, h6, h7, (eq_false h9), (condZ_f h9)]
    · cases b2
      have e11 := (done_of gb2).symm
      subst e11
      try dsimp only at h
      cases h
      simp -implicitDefEqProofs -dsimp only [go_sem, hc_v1.1, hc_v1.2, hm_v1, (eq_false h3)]
/- 87 slices.ContainsFunc[[]loop.example/g00827/impl.Tie,loop.example/g00827/impl.Tie] -/
def hi87 : Hint where
  acts := fun _ => []
  draws := fun
    | _ => ⟨.nil, [], []⟩
theorem hi87a (i : Nat) : hi87.acts i = [] := rfl
theorem hi87v (i : Nat) : hi87.views i = none := rfl
attribute [go_sem] hi87a hi87v Go.Proofs.Tryz.ntmps87 Go.Proofs.Tryz.results87
theorem c_slices_ContainsFunc_Tie {v0 : List GTie} {v1 : GTie → Option Bool} {f_v1 : Nat} {k_v1 : List AV} (hp_v1 : ∀ y0 r, v1 y0 = some r → CallOk Go.Proofs.Tryz.prog f_v1 ([.agg [.lit (.int .i64 y0.from_), .lit (.int .i64 y0.to), .lit (.int .i64 y0.low), .lit (.int .i64 y0.high), .lit (.bool y0.free)]] ++ k_v1) [] (.lit (.bool r)) []) (hc_v1 : KC k_v1) (hm_v1 : mdT f_v1 = ⟨[], false⟩) {res : Bool} (h : m_slices_ContainsFunc_Tie v0 v1 = some res) : CallOk Go.Proofs.Tryz.prog 87 [.sl (rowsOf GTie.enc v0), .fn f_v1 k_v1] [] (.lit (.bool res)) [] := by
  refine callOk_of (ra := []) (md := mdT) hT (hi := hi87) Go.Proofs.Tryz.func87 rfl rfl (by decide +kernel) (by simp) ?_
  unfold m_slices_ContainsFunc_Tie at h
  obtain ⟨r1001, g1, h⟩ := obnd_some h
  simp -implicitDefEqProofs -dsimp only [go_sem, hc_v1.1, hc_v1.2, hm_v1]
  refine callW_of (c_slices_IndexFunc_Tie hp_v1 hc_v1 hm_v1 g1) ?_
  cases h
  simp -implicitDefEqProofs -dsimp only [go_sem, hc_v1.1, hc_v1.2, hm_v1]
/- 88 loop.example/g00827/impl.areTies$1 -/
def hi88 : Hint where
  acts := fun _ => []
  draws := fun
    | _ => ⟨.nil, [], []⟩
theorem hi88a (i : Nat) : hi88.acts i = [] := rfl
theorem hi88v (i : Nat) : hi88.views i = none := rfl
attribute [go_sem] hi88a hi88v Go.Proofs.Tryz.ntmps88 Go.Proofs.Tryz.results88
theorem c_impl_areTies_c1 {u : GTie} {t : GTie} {res : Bool} (h : m_impl_areTies_c1 u t = some res) : CallOk Go.Proofs.Tryz.prog 88 [.agg [.lit (.int .i64 u.from_), .lit (.int .i64 u.to), .lit (.int .i64 u.low), .lit (.int .i64 u.high), .lit (.bool u.free)], .loc [.lit (.int .i64 t.from_), .lit (.int .i64 t.to), .lit (.int .i64 t.low), .lit (.int .i64 t.high), .lit (.bool t.free)]] [] (.lit (.bool res)) [] := by
  refine callOk_of (ra := []) (md := mdT) hT (hi := hi88) Go.Proofs.Tryz.func88 rfl rfl (by decide +kernel) (by simp) ?_
  unfold m_impl_areTies_c1 at h
  rcases ite_some h with ⟨h1, h⟩ | ⟨h1, h⟩
  · cases h
    simp -implicitDefEqProofs -dsimp only [go_sem, (eq_true h1), (condZ_t h1)]
  · cases h
    simp -implicitDefEqProofs -dsimp only [go_sem, (eq_false h1), (condZ_f h1)]
/- 56 loop.example/g00827/impl.areTies -/
def m_impl_areTies_L1_St (v6 : List GTie) (v7 : Int) (s_0 : List GNode) (s_2 : Int) (v8 : Int) : St := ⟨[(1, .ptr 64 1 0 0), (6, .sl (rowsOf GTie.enc v6)), (7, .lit (.int .i64 v7)), (8, .lit (.int .i64 v8))], [(64, 1, .var [.sl (rowsOf GNode.encS s_0), .sl (rowsOf GTie.enc v6), .lit (.int .i64 s_2)])], 2⟩
attribute [go_sem] m_impl_areTies_L1_St
def hi56 : Hint where
  acts := fun _ => []
  draws := fun
    | 7 => ⟨.cons ⟨0, false, []⟩ (.cons ⟨1, false, []⟩ (.cons ⟨2, false, []⟩ (.cons ⟨3, false, []⟩ (.cons ⟨4, false, []⟩ (.cons ⟨5, false, []⟩ (.cons ⟨6, false, []⟩ (.cons ⟨7, false, []⟩ (.cons ⟨8, false, []⟩ (.cons ⟨9, false, []⟩ (.cons ⟨10, false, []⟩ (.cons ⟨11, false, []⟩ (.cons ⟨12, false, []⟩ (.cons ⟨13, false, []⟩ (.cons ⟨14, false, []⟩ (.cons ⟨15, false, []⟩ (.cons ⟨16, false, []⟩ (.cons ⟨17, false, []⟩ (.cons ⟨18, false, []⟩ (.cons ⟨19, false, []⟩ (.cons ⟨20, false, []⟩ (.cons ⟨21, false, []⟩ (.cons ⟨22, false, []⟩ (.cons ⟨23, false, []⟩ (.cons ⟨24, false, []⟩ (.cons ⟨25, false, []⟩ (.cons ⟨26, false, []⟩ (.cons ⟨27, false, []⟩ (.cons ⟨28, false, []⟩ (.cons ⟨29, false, []⟩ (.cons ⟨30, false, []⟩ (.cons ⟨31, false, []⟩ (.cons ⟨32, false, []⟩ (.cons ⟨33, false, []⟩ (.cons ⟨34, false, []⟩ (.cons ⟨35, false, []⟩ .nil))))))))))))))))))))))))))))))))))), [[], [0], [0, 1], [0, 1, 2], [0, 1, 2, 3], [0, 1, 2, 3, 4], [0, 1, 2, 3, 4, 5], [0, 1, 2, 3, 4, 5, 6], [0, 1, 2, 3, 4, 5, 6, 7], [0, 1, 2, 3, 4, 5, 6, 7, 8], [0, 1, 2, 3, 4, 5, 6, 7, 8, 9], [0, 1, 2, 3, 4, 5, 6, 7, 8], [0, 1, 2, 3, 4, 5, 6, 7, 8, 11], [0, 1, 2, 3, 4, 5, 6, 7, 8, 9, 10, 11, 12], [0, 1, 2, 3, 4, 5, 6, 7, 8, 9, 10, 11, 12, 13], [0, 1, 2, 3, 4, 5, 6, 7, 8, 9, 10, 11, 12, 13, 14], [0, 1, 2, 3, 4, 5, 6, 7, 8, 9, 10, 11, 12, 13, 14, 15], [0, 1, 2, 3, 4, 5, 6, 7, 8, 9, 10, 11, 12, 13, 14, 15, 16], [0, 1, 2, 3, 4, 5, 6, 7, 8, 9, 10, 11, 12, 13, 14, 15, 16, 17], [0, 1, 2, 3, 4, 5, 6, 7, 8, 9, 10, 11, 12, 13, 14, 15, 16, 17, 18], [0, 1, 2, 3, 4, 5, 6, 7, 8, 9, 10, 11, 12, 13, 14, 15, 16, 17, 18, 19], [0, 1, 2, 3, 4, 5, 6, 7, 8, 9, 10, 11, 12, 13, 14, 15, 16, 17, 18], [0, 1, 2, 3, 4, 5, 6, 7, 8, 9, 10, 11, 12, 13, 14, 15, 16, 17, 18, 21], [0, 1, 2, 3, 4, 5, 6, 7, 8, 9, 10, 11, 12, 13, 14, 15, 16, 17, 18, 19, 20, 21, 22], [0, 1, 2, 3, 4, 5, 6, 7, 8, 9, 10, 11, 12, 13, 14, 15, 16, 17, 18, 19, 20, 21, 22, 23], [0, 1, 2, 3, 4, 5, 6, 7, 8, 9, 10, 11, 12, 13, 14, 15, 16, 17, 18, 19, 20, 21, 22, 23, 24], [0, 1, 2, 3, 4, 5, 6, 7, 8, 9, 10, 11, 12, 13, 14, 15, 16, 17, 18], [0, 1, 2, 3, 4, 5, 6, 7, 8, 9, 10, 11, 12, 13, 14, 15, 16, 17, 18, 26], [0, 1, 2, 3, 4, 5, 6, 7, 8, 9, 10, 11, 12, 13, 14, 15, 16, 17, 18], [0, 1, 2, 3, 4, 5, 6, 7, 8, 9, 10, 11, 12, 13, 14, 15, 16, 17, 18, 28], [0, 1, 2, 3, 4, 5, 6, 7, 8, 9, 10, 11, 12, 13, 14, 15, 16, 17, 18, 26, 27, 28, 29], [0, 1, 2, 3, 4, 5, 6, 7, 8, 9, 10, 11, 12, 13, 14, 15, 16, 17, 18, 26, 27, 28, 29, 30], [0, 1, 2, 3, 4, 5, 6, 7, 8, 9, 10, 11, 12, 13, 14, 15, 16, 17, 18, 26, 27, 28, 29, 30, 31], [0, 1, 2, 3, 4, 5, 6, 7, 8, 9, 10, 11, 12, 13, 14, 15, 16, 17, 18, 19, 20, 21, 22, 23, 24, 25, 26, 27, 28, 29, 30, 31, 32], [0, 1, 2, 3, 4, 5, 6, 7, 8, 9, 10, 11, 12, 13, 14, 15, 16, 17, 18, 19, 20, 21, 22, 23, 24, 25, 26, 27, 28, 29, 30, 31, 32, 33], [0, 1, 2, 3, 4, 5, 6, 7, 8, 9, 10, 11, 12, 13, 14, 15, 16, 17, 18, 19, 20, 21, 22, 23, 24, 25, 26, 27, 28, 29, 30, 31, 32, 33, 34]], [0, 1, 2, 3, 4, 5, 6, 7, 8, 9, 10, 11, 12, 13, 14, 15, 16, 17, 18, 19, 20, 21, 22, 23, 24, 25, 26, 27, 28, 29, 30, 31, 32, 33, 34, 35]⟩
    | _ => ⟨.nil, [], []⟩
theorem hi56a (i : Nat) : hi56.acts i = [] := rfl
theorem hi56v (i : Nat) : hi56.views i = none := rfl
attribute [go_sem] hi56a hi56v Go.Proofs.Tryz.ntmps56 Go.Proofs.Tryz.results56
@[go_sem] theorem hi56d7 : (hi56.draws 7).order = .cons ⟨0, false, []⟩ (.cons ⟨1, false, []⟩ (.cons ⟨2, false, []⟩ (.cons ⟨3, false, []⟩ (.cons ⟨4, false, []⟩ (.cons ⟨5, false, []⟩ (.cons ⟨6, false, []⟩ (.cons ⟨7, false, []⟩ (.cons ⟨8, false, []⟩ (.cons ⟨9, false, []⟩ (.cons ⟨10, false, []⟩ (.cons ⟨11, false, []⟩ (.cons ⟨12, false, []⟩ (.cons ⟨13, false, []⟩ (.cons ⟨14, false, []⟩ (.cons ⟨15, false, []⟩ (.cons ⟨16, false, []⟩ (.cons ⟨17, false, []⟩ (.cons ⟨18, false, []⟩ (.cons ⟨19, false, []⟩ (.cons ⟨20, false, []⟩ (.cons ⟨21, false, []⟩ (.cons ⟨22, false, []⟩ (.cons ⟨23, false, []⟩ (.cons ⟨24, false, []⟩ (.cons ⟨25, false, []⟩ (.cons ⟨26, false, []⟩ (.cons ⟨27, false, []⟩ (.cons ⟨28, false, []⟩ (.cons ⟨29, false, []⟩ (.cons ⟨30, false, []⟩ (.cons ⟨31, false, []⟩ (.cons ⟨32, false, []⟩ (.cons ⟨33, false, []⟩ (.cons ⟨34, false, []⟩ (.cons ⟨35, false, []⟩ .nil))))))))))))))))))))))))))))))))))) := rfl
theorem c_impl_areTies {s : GShow} {res : Bool} (h : m_impl_areTies s = some res) : CallOk Go.Proofs.Tryz.prog 56 [.agg [.sl (rowsOf GNode.encS s.nodes), .sl (rowsOf GTie.enc s.ties), .lit (.int .i64 s.horizon)]] [] (.lit (.bool res)) [] := by
  refine callOk_of (ra := []) (md := mdT) hT (hi := hi56) Go.Proofs.Tryz.func56 rfl rfl (by decide +kernel) (by simp) ?_
  unfold m_impl_areTies at h
  obtain ⟨q1010, l1, h⟩ := obnd_some h
  simp -implicitDefEqProofs -dsimp only [go_sem]
  refine loopW_loopO (m1 := .mk) (m2 := .mk) [.nf [1, 6, 7, 8] [64]] (m_impl_areTies_L1_St s.ties ((s.ties.length : Nat) : Int) s.nodes s.horizon) l1 ?_ ?_
  · simp -implicitDefEqProofs -dsimp only [go_sem]
  · intro nb2 sb2 bb2 b2 gb2
    obtain ⟨v8_1, eb2⟩ : ∃ v, v = sb2 := ⟨_, rfl⟩; subst eb2
    unfold m_impl_areTies_L1 at b2
    try dsimp only at b2
    rcases ite_some b2 with ⟨h3, b2⟩ | ⟨h3, b2⟩
    · obtain ⟨x1001, g4, b2⟩ := obnd_some b2
      obtain ⟨h5, h6, h7⟩ := getI_some g4
      obtain ⟨r1002, g8, b2⟩ := obnd_some b2
      simp -implicitDefEqProofs -dsimp only [go_sem, (eq_true h3), h5, h6, h7]
      refine callW_of (c_impl_isNode g8) ?_
      rcases ite_some b2 with ⟨h9, b2⟩ | ⟨h9, b2⟩
      · obtain ⟨r1003, g10, b2⟩ := obnd_some b2
        simp -implicitDefEqProofs -dsimp only [go_sem, (eq_true h3), h5, h6, h7, (eq_true h9), (condZ_t h9)]
        refine callW_of (c_impl_isNode g10) ?_
        rcases ite_some b2 with ⟨h11, b2⟩ | ⟨h11, b2⟩
        · rcases ite_some b2 with ⟨h12, b2⟩ | ⟨h12, b2⟩
          · cases b2
            have e13 := (done_of gb2).symm
            subst e13
            try dsimp only at h
            cases h
            simp -implicitDefEqProofs -dsimp only [go_sem, (eq_true h3), h5, h6, h7, (eq_true h9), (condZ_t h9), (eq_true h11), (condZ_t h11), (eq_true h12)]
          · obtain ⟨r1004, g14, b2⟩ := obnd_some b2
            simp -implicitDefEqProofs -dsimp only [go_sem, (eq_true h3), h5, h6, h7, (eq_true h9), (condZ_t h9), (eq_true h11), (condZ_t h11), (eq_false h12)]
            refine callW_of (c_impl_isSpan g14) ?_
            rcases ite_some b2 with ⟨h15, b2⟩ | ⟨h15, b2⟩
            · obtain ⟨r1005, g16, b2⟩ := obnd_some b2
              simp -implicitDefEqProofs -dsimp only [go_sem, (eq_true h3), h5, h6, h7, (eq_true h9), (condZ_t h9), (eq_true h11), (condZ_t h11), (eq_false h12), (eq_true h15), (condZ_t h15)]
              refine callW_of (c_impl_isSpan g16) ?_
              rcases ite_some b2 with ⟨h17, b2⟩ | ⟨h17, b2⟩
              · rcases ite_some b2 with ⟨h18, b2⟩ | ⟨h18, b2⟩
                · cases b2
                  have e19 := (done_of gb2).symm
                  subst e19
                  try dsimp only at h
                  cases h
                  simp -implicitDefEqProofs -dsimp only [go_sem, (eq_true h3), h5, h6, h7, (eq_true h9), (condZ_t h9), (eq_true h11), (condZ_t h11), (eq_false h12), (eq_true h15), (condZ_t h15), (eq_true h17), (condZ_t h17), (eq_true h18)]
                · rcases ite_some b2 with ⟨h20, b2⟩ | ⟨h20, b2⟩
                  · rcases ite_some b2 with ⟨h21, b2⟩ | ⟨h21, b2⟩
                    · cases b2
                      have e22 := (done_of gb2).symm
                      subst e22
                      try dsimp only at h
                      cases h
                      simp -implicitDefEqProofs -dsimp only [go_sem, (eq_true h3), h5, h6, h7, (eq_true h9), (condZ_t h9), (eq_true h11), (condZ_t h11), (eq_false h12), (eq_true h15), (condZ_t h15), (eq_true h17), (condZ_t h17), (eq_false h18), (eq_true h20), (condZ_t h20), (eq_true h21)]
                    · rcases ite_some b2 with ⟨h23, b2⟩ | ⟨h23, b2⟩
                      · cases b2
                        have e24 := (done_of gb2).symm
                        subst e24
                        try dsimp only at h
                        cases h
                        simp -implicitDefEqProofs -dsimp only [go_sem, (eq_true h3), h5, h6, h7, (eq_true h9), (condZ_t h9), (eq_true h11), (condZ_t h11), (eq_false h12), (eq_true h15), (condZ_t h15), (eq_true h17), (condZ_t h17), (eq_false h18), (eq_true h20), (condZ_t h20), (eq_false h21), (eq_true h23)]
                      · obtain ⟨x1006, g25, b2⟩ := obnd_some b2
                        obtain ⟨h26, h27, h28⟩ := getI_some g25
                        rcases ite_some b2 with ⟨h29, b2⟩ | ⟨h29, b2⟩
                        · obtain ⟨x1007, g30, b2⟩ := obnd_some b2
                          obtain ⟨h31, h32, h33⟩ := getI_some g30
                          obtain ⟨r1008, g34, b2⟩ := obnd_some b2
                          simp -implicitDefEqProofs -dsimp only [go_sem, (eq_true h3), h5, h6, h7, (eq_true h9), (condZ_t h9), (eq_true h11), (condZ_t h11), (eq_false h12), (eq_true h15), (condZ_t h15), (eq_true h17), (condZ_t h17), (eq_false h18), (eq_true h20), (condZ_t h20), (eq_false h21), (eq_false h23), h26, h27, h28, (eq_true h29), h31, h32, h33]
                          refine callW_of (c_slices_Equal_int g34) ?_
                          rcases ite_some b2 with ⟨h35, b2⟩ | ⟨h35, b2⟩
                          · obtain ⟨h36, b2⟩ := chk_some b2
                            obtain ⟨h37, b2⟩ := chk_some b2
                            obtain ⟨r1009, g38, b2⟩ := obnd_some b2
                            simp -implicitDefEqProofs -dsimp only [go_sem, (eq_true h3), h5, h6, h7, (eq_true h9), (condZ_t h9), (eq_true h11), (condZ_t h11), (eq_false h12), (eq_true h15), (condZ_t h15), (eq_true h17), (condZ_t h17), (eq_false h18), (eq_true h20), (condZ_t h20), (eq_false h21), (eq_false h23), h26, h27, h28, (eq_true h29), h31, h32, h33, (eq_true h35), (condZ_t h35), (eq_true h36), (eq_true h37)]
                            refine callW_of (c_slices_ContainsFunc_Tie (by exact fun _ _ hr => c_impl_areTies_c1 hr) (by refine ⟨fun _ => ?_, fun _ => ?_⟩ <;> simp only [go_sem]) (by rfl) g38) ?_
                            rcases ite_some b2 with ⟨h39, b2⟩ | ⟨h39, b2⟩
                            · cases b2
                              have e40 := (done_of gb2).symm
                              subst e40
                              try dsimp only at h
                              cases h
                              simp -implicitDefEqProofs -dsimp only [go_sem, (eq_true h3), h5, h6, h7, (eq_true h9), (condZ_t h9), (eq_true h11), (condZ_t h11), (eq_false h12), (eq_true h15), (condZ_t h15), (eq_true h17), (condZ_t h17), (eq_false h18), (eq_true h20), (condZ_t h20), (eq_false h21), (eq_false h23), h26, h27, h28, (eq_true h29), h31, h32, h33, (eq_true h35), (condZ_t h35), (eq_true h36), (eq_true h37), (eq_true h39), (condZ_t h39)]
                            · cases b2
                              simp -implicitDefEqProofs -dsimp only [go_sem, (eq_true h3), h5, h6, h7, (eq_true h9), (condZ_t h9), (eq_true h11), (condZ_t h11), (eq_false h12), (eq_true h15), (condZ_t h15), (eq_true h17), (condZ_t h17), (eq_false h18), (eq_true h20), (condZ_t h20), (eq_false h21), (eq_false h23), h26, h27, h28, (eq_true h29), h31, h32, h33, (eq_true h35), (condZ_t h35), (eq_true h36), (eq_true h37), (eq_false h39), (condZ_f h39)]
                              refine next_of gb2 ?_
                              simp -implicitDefEqProofs -dsimp only [go_sem, (eq_true h3), h5, h6, h7, (eq_true h9), (condZ_t h9), (eq_true h11), (condZ_t h11), (eq_false h12), (eq_true h15), (condZ_t h15), (eq_true h17), (condZ_t h17), (eq_false h18), (eq_true h20), (condZ_t h20), (eq_false h21), (eq_false h23), h26, h27, h28, (eq_true h29), h31, h32, h33, (eq_true h35), (condZ_t h35), (eq_true h36), (eq_true h37), (eq_false h39), (condZ_f h39)]
                          · cases b2
                            have e41 := (done_of gb2).symm
                            subst e41
                            try dsimp only at h
                            cases h
                            simp -implicitDefEqProofs -dsimp only [go_sem, (eq_true h3), h5, h6, h7, (eq_true h9), (condZ_t h9), (eq_true h11), (condZ_t h11), (eq_false h12), (eq_true h15), (condZ_t h15), (eq_true h17), (condZ_t h17), (eq_false h18), (eq_true h20), (condZ_t h20), (eq_false h21), (eq_false h23), h26, h27, h28, (eq_true h29), h31, h32, h33, (eq_false h35), (condZ_f h35)]
                        · cases b2
                          have e42 := (done_of gb2).symm
                          subst e42
                          try dsimp only at h
                          cases h
                          simp -implicitDefEqProofs -dsimp only [go_sem, (eq_true h3), h5, h6, h7, (eq_true h9), (condZ_t h9), (eq_true h11), (condZ_t h11), (eq_false h12), (eq_true h15), (condZ_t h15), (eq_true h17), (condZ_t h17), (eq_false h18), (eq_true h20), (condZ_t h20), (eq_false h21), (eq_false h23), h26, h27, h28, (eq_false h29)]
                  · cases b2
                    simp -implicitDefEqProofs -dsimp only [go_sem, (eq_true h3), h5, h6, h7, (eq_true h9), (condZ_t h9), (eq_true h11), (condZ_t h11), (eq_false h12), (eq_true h15), (condZ_t h15), (eq_true h17), (condZ_t h17), (eq_false h18), (eq_false h20), (condZ_f h20)]
                    refine next_of gb2 ?_
                    simp -implicitDefEqProofs -dsimp only [go_sem, (eq_true h3), h5, h6, h7, (eq_true h9), (condZ_t h9), (eq_true h11), (condZ_t h11), (eq_false h12), (eq_true h15), (condZ_t h15), (eq_true h17), (condZ_t h17), (eq_false h18), (eq_false h20), (condZ_f h20)]
              · cases b2
                have e43 := (done_of gb2).symm
                subst e43
                try dsimp only at h
                cases h
                simp -implicitDefEqProofs -dsimp only [go_sem, (eq_true h3), h5, h6, h7, (eq_true h9), (condZ_t h9), (eq_true h11), (condZ_t h11), (eq_false h12), (eq_true h15), (condZ_t h15), (eq_false h17), (condZ_f h17)]
            · cases b2
              have e44 := (done_of gb2).symm
              subst e44
              try dsimp only at h
              cases h
              simp -implicitDefEqProofs -dsimp only [go_sem, (eq_true h3), h5, h6, h7, (eq_true h9), (condZ_t h9), (eq_true h11), (condZ_t h11), (eq_false h12), (eq_false h15), (condZ_f h15)]
        · cases b2
          have e45 := (done_of gb2).symm
          subst e45
          try dsimp only at h
          cases h
          simp -implicitDefEqProofs -dsimp only [go_sem, (eq_true h3), h5, h6, h7, (eq_true h9), (condZ_t h9), (eq_false h11), (condZ_f h11)]
      · cases b2
        have e46 := (done_of gb2).symm
        subst e46
        try dsimp only at h
        cases h
        simp -implicitDefEqProofs -dsimp only [go_sem, (eq_true h3), h5, h6, h7, (eq_false h9), (condZ_f h9)]
    · cases b2
      have e47 := (done_of gb2).symm
      subst e47
      try dsimp only at h
      cases h
      simp -implicitDefEqProofs -dsimp only [go_sem, (eq_false h3)]
/- 89 slices.IndexFunc[[]int,int] -/
def m_slices_IndexFunc_int_L1_St (v0 : List Int) (f_v1 : Nat) (k_v1 : List AV) (v7 : Int) (v8 : Int) : St := ⟨[(0, .sl (rowsOf eI v0)), (1, .fn f_v1 k_v1), (7, .lit (.int .i64 v7)), (8, .lit (.int .i64 v8))], [], 2⟩
attribute [go_sem] m_slices_IndexFunc_int_L1_St
def hi89 : Hint where
  acts := fun _ => []
  draws := fun
    | _ => ⟨.nil, [], []⟩
theorem hi89a (i : Nat) : hi89.acts i = [] := rfl
theorem hi89v (i : Nat) : hi89.views i = none := rfl
attribute [go_sem] hi89a hi89v Go.Proofs.Tryz.ntmps89 Go.Proofs.Tryz.results89
theorem c_slices_IndexFunc_int {v0 : List Int} {v1 : Int → Option Bool} {f_v1 : Nat} {k_v1 : List AV} (hp_v1 : ∀ y0 r, v1 y0 = some r → CallOk Go.Proofs.Tryz.prog f_v1 ([.lit (.int .i64 y0)] ++ k_v1) [] (.lit (.bool r)) []) (hc_v1 : KC k_v1) (hm_v1 : mdT f_v1 = ⟨[], false⟩) {res : Int} (h : m_slices_IndexFunc_int v0 v1 = some res) : CallOk Go.Proofs.Tryz.prog 89 [.sl (rowsOf eI v0), .fn f_v1 k_v1] [] (.lit (.int .i64 res)) [] := by
  refine callOk_of (ra := []) (md := mdT) hT (hi := hi89) Go.Proofs.Tryz.func89 rfl rfl (by decide +kernel) (by simp) ?_
  unfold m_slices_IndexFunc_int at h
  obtain ⟨q1003, l1, h⟩ := obnd_some h
  simp -implicitDefEqProofs -dsimp only [go_sem, hc_v1.1, hc_v1.2, hm_v1]
  refine loopW_loopO (m1 := .mk) (m2 := .mk) [.nf [0, 1, 7, 8] []] (m_slices_IndexFunc_int_L1_St v0 f_v1 k_v1 ((v0.length : Nat) : Int)) l1 ?_ ?_
  · simp -implicitDefEqProofs -dsimp only [go_sem, hc_v1.1, hc_v1.2, hm_v1]
  · intro nb2 sb2 bb2 b2 gb2
    obtain ⟨v8_1, eb2⟩ : ∃ v, v = sb2 := ⟨_, rfl⟩; subst eb2
    unfold m_slices_IndexFunc_int_L1 at b2
    try dsimp only at b2
    rcases ite_some b2 with ⟨h3, b2⟩ | ⟨h3, b2⟩
    · obtain ⟨x1001, g4, b2⟩ := obnd_some b2
      obtain ⟨h5, h6, h7⟩ := getI_some g4
      obtain ⟨r1002, g8, b2⟩ := obnd_some b2
      simp -implicitDefEqProofs -dsimp only [go_sem, hc_v1.1, hc_v1.2, hm_v1, (eq_true h3), h5, h6, h7]
      refine callW_of (hp_v1 _ _ g8) ?_
      rcases ite_some b2 with ⟨h9, b2⟩ | ⟨h9, b2⟩
      · cases b2
        have e10 := (done_of gb2).symm
        subst e10
        try dsimp only at h
        cases h
        simp -implicitDefEqProofs -dsimp only [go_sem, hc_v1.1, hc_v1.2, hm_v1, (eq_true h3), h5, h6, h7, (eq_true h9), (condZ_t h9)]
      · cases b2
        simp -implicitDefEqProofs -dsimp only [go_sem, hc_v1.1, hc_v1.2, hm_v1, (eq_true h3), h5, h6, h7, (eq_false h9), (condZ_f h9)]
        refine next_of gb2 ?_
        simp -implicitDefEqProofs -dsimp only [go_sem, hc_v1.1, hc_v1.2, hm_v1, (eq_true h3), h5, h6, h7, (eq_false h9), (condZ_f h9)]
    · cases b2
      have e11 := (done_of gb2).symm
      subst e11
      try dsimp only at h
      cases h
      simp -implicitDefEqProofs -dsimp only [go_sem, hc_v1.1, hc_v1.2, hm_v1, (eq_false h3)]
/- 57 slices.ContainsFunc[[]int,int] -/
def hi57 : Hint where
  acts := fun _ => []
  draws := fun
    | _ => ⟨.nil, [], []⟩
theorem hi57a (i : Nat) : hi57.acts i = [] := rfl
theorem hi57v (i : Nat) : hi57.views i = none := rfl
attribute [go_sem] hi57a hi57v Go.Proofs.Tryz.ntmps57 Go.Proofs.Tryz.results57
theorem c_slices_ContainsFunc_int {v0 : List Int} {v1 : Int → Option Bool} {f_v1 : Nat} {k_v1 : List AV} (hp_v1 : ∀ y0 r, v1 y0 = some r → CallOk Go.Proofs.Tryz.prog f_v1 ([.lit (.int .i64 y0)] ++ k_v1) [] (.lit (.bool r)) []) (hc_v1 : KC k_v1) (hm_v1 : mdT f_v1 = ⟨[], false⟩) {res : Bool} (h : m_slices_ContainsFunc_int v0 v1 = some res) : CallOk Go.Proofs.Tryz.prog 57 [.sl (rowsOf eI v0), .fn f_v1 k_v1] [] (.lit (.bool res)) [] := by
  refine callOk_of (ra := []) (md := mdT) hT (hi := hi57) Go.Proofs.Tryz.func57 rfl rfl (by decide +kernel) (by simp) ?_
  unfold m_slices_ContainsFunc_int at h
  obtain ⟨r1001, g1, h⟩ := obnd_some h
  simp -implicitDefEqProofs -dsimp only [go_sem, hc_v1.1, hc_v1.2, hm_v1]
  refine callW_of (c_slices_IndexFunc_int hp_v1 hc_v1 hm_v1 g1) ?_
  cases h
  simp -implicitDefEqProofs -dsimp only [go_sem, hc_v1.1, hc_v1.2, hm_v1]
/- 117 slices.IndexFunc[[]loop.example/g00827/impl.Node,loop.example/g00827/impl.Node] -/
def m_slices_IndexFunc_Node_L1_St (v0 : List GNode) (f_v1 : Nat) (k_v1 : List AV) (v7 : Int) (v8 : Int) : St := ⟨[(0, .sl (rowsOf GNode.encS v0)), (1, .fn f_v1 k_v1), (7, .lit (.int .i64 v7)), (8, .lit (.int .i64 v8))], [], 2⟩
attribute [go_sem] m_slices_IndexFunc_Node_L1_St
def hi117 : Hint where
  acts := fun _ => []
  draws := fun
    | _ => ⟨.nil, [], []⟩
theorem hi117a (i : Nat) : hi117.acts i = [] := rfl
theorem hi117v (i : Nat) : hi117.views i = none := rfl
attribute [go_sem] hi117a hi117v Go.Proofs.Tryz.ntmps117 Go.Proofs.Tryz.results117
theorem c_slices_IndexFunc_Node {v0 : List GNode} {v1 : GNode → Option Bool} {f_v1 : Nat} {k_v1 : List AV} (hp_v1 : ∀ y0 r, v1 y0 = some r → CallOk Go.Proofs.Tryz.prog f_v1 ([.agg [.lit (.string y0.name), .sl (rowsOf eI y0.label), .lit (.int .i64 y0.watch)]] ++ k_v1) [] (.lit (.bool r)) []) (hc_v1 : KC k_v1) (hm_v1 : mdT f_v1 = ⟨[], false⟩) {res : Int} (h : m_slices_IndexFunc_Node v0 v1 = some res) : CallOk Go.Proofs.Tryz.prog 117 [.sl (rowsOf GNode.encS v0), .fn f_v1 k_v1] [] (.lit (.int .i64 res)) [] := by
  refine callOk_of (ra := []) (md := mdT) hT (hi := hi117) Go.Proofs.Tryz.func117 rfl rfl (by decide +kernel) (by simp) ?_
  unfold m_slices_IndexFunc_Node at h
  obtain ⟨q1003, l1, h⟩ := obnd_some h
  simp -implicitDefEqProofs -dsimp only [go_sem, hc_v1.1, hc_v1.2, hm_v1]
  refine loopW_loopO (m1 := .mk) (m2 := .mk) [.nf [0, 1, 7, 8] []] (m_slices_IndexFunc_Node_L1_St v0 f_v1 k_v1 ((v0.length : Nat) : Int)) l1 ?_ ?_
  · simp -implicitDefEqProofs -dsimp only [go_sem, hc_v1.1, hc_v1.2, hm_v1]
  · intro nb2 sb2 bb2 b2 gb2
    obtain ⟨v8_1, eb2⟩ : ∃ v, v = sb2 := ⟨_, rfl⟩; subst eb2
    unfold m_slices_IndexFunc_Node_L1 at b2
    try dsimp only at b2
    rcases ite_some b2 with ⟨h3, b2⟩ | ⟨h3, b2⟩
    · obtain ⟨x1001, g4, b2⟩ := obnd_some b2
      obtain ⟨h5, h6, h7⟩ := getI_some g4
      obtain ⟨r1002, g8, b2⟩ := obnd_some b2
      simp -implicitDefEqProofs -dsimp only [go_sem, hc_v1.1, hc_v1.2, hm_v1, (eq_true h3), h5, h6, h7]
      refine callW_of (hp_v1 _ _ g8) ?_
      rcases ite_some b2 with ⟨h9, b2⟩ | ⟨h9, b2⟩
      · cases b2
        have e10 := (done_of gb2).symm
        subst e10
        try dsimp only at h
        cases h
        simp -implicitDefEqProofs -dsimp only [go_sem, hc_v1.1, hc_v1.2, hm_v1, (eq_true h3), h5, h6, h7, (eq_true h9), (condZ_t h9)]
      · cases b2
        simp -implicitDefEqProofs -dsimp only [go_sem, hc_v1.1, hc_v1.2, hm_v1, (eq_true h3), h5, h6, h7, (eq_false h9), (condZ_f h9)]
        refine next_of gb2 ?_
        simp -implicitDefEqProofs -dsimp only [go_sem, hc_v1.1, hc_v1.2, hm_v1, (eq_true h3), h5, h6, h7, (eq_false h9), (condZ_f h9)]
    · cases b2
      have e11 := (done_of gb2).symm
      subst e11
      try dsimp only at h
      cases h
      simp -implicitDefEqProofs -dsimp only [go_sem, hc_v1.1, hc_v1.2, hm_v1, (eq_false h3)]
/- 118 loop.example/g00827/impl.watcher$1 -/
def hi118 : Hint where
  acts := fun _ => []
  draws := fun
    | _ => ⟨.nil, [], []⟩
theorem hi118a (i : Nat) : hi118.acts i = [] := rfl
theorem hi118v (i : Nat) : hi118.views i = none := rfl
attribute [go_sem] hi118a hi118v Go.Proofs.Tryz.ntmps118 Go.Proofs.Tryz.results118
theorem c_impl_watcher_c1 {n : GNode} {p : Int} {res : Bool} (h : m_impl_watcher_c1 n p = some res) : CallOk Go.Proofs.Tryz.prog 118 [.agg [.lit (.string n.name), .sl (rowsOf eI n.label), .lit (.int .i64 n.watch)], .loc [.lit (.int .i64 p)]] [] (.lit (.bool res)) [] := by
  refine callOk_of (ra := []) (md := mdT) hT (hi := hi118) Go.Proofs.Tryz.func118 rfl rfl (by decide +kernel) (by simp) ?_
  unfold m_impl_watcher_c1 at h
  rcases ite_some h with ⟨h1, h⟩ | ⟨h1, h⟩
  · cases h
    simp -implicitDefEqProofs -dsimp only [go_sem, (eq_true h1)]
  · cases h
    simp -implicitDefEqProofs -dsimp only [go_sem, (eq_false h1)]
/- 90 loop.example/g00827/impl.watcher -/
def hi90 : Hint where
  acts := fun _ => []
  draws := fun
    | _ => ⟨.nil, [], []⟩
theorem hi90a (i : Nat) : hi90.acts i = [] := rfl
theorem hi90v (i : Nat) : hi90.views i = none := rfl
attribute [go_sem] hi90a hi90v Go.Proofs.Tryz.ntmps90 Go.Proofs.Tryz.results90
theorem c_impl_watcher {s : GShow} {p : Int} {res : Int} (h : m_impl_watcher s p = some res) : CallOk Go.Proofs.Tryz.prog 90 [.agg [.sl (rowsOf GNode.encS s.nodes), .sl (rowsOf GTie.enc s.ties), .lit (.int .i64 s.horizon)], .lit (.int .i64 p)] [] (.lit (.int .i64 res)) [] := by
  refine callOk_of (ra := []) (md := mdT) hT (hi := hi90) Go.Proofs.Tryz.func90 rfl rfl (by decide +kernel) (by simp) ?_
  unfold m_impl_watcher at h
  obtain ⟨r1001, g1, h⟩ := obnd_some h
  simp -implicitDefEqProofs -dsimp only [go_sem]
  refine callW_of (c_slices_IndexFunc_Node (by exact fun _ _ hr => c_impl_watcher_c1 hr) (by refine ⟨fun _ => ?_, fun _ => ?_⟩ <;> simp only [go_sem]) (by rfl) g1) ?_
  cases h
  simp -implicitDefEqProofs -dsimp only [go_sem]
/- 119 slices.Index[[]int,int] -/
def m_slices_Index_int_L1_St (v0 : List Int) (v1 : Int) (v7 : Int) (v8 : Int) : St := ⟨[(0, .sl (rowsOf eI v0)), (1, .lit (.int .i64 v1)), (7, .lit (.int .i64 v7)), (8, .lit (.int .i64 v8))], [], 2⟩
attribute [go_sem] m_slices_Index_int_L1_St
def hi119 : Hint where
  acts := fun _ => []
  draws := fun
    | _ => ⟨.nil, [], []⟩
theorem hi119a (i : Nat) : hi119.acts i = [] := rfl
theorem hi119v (i : Nat) : hi119.views i = none := rfl
attribute [go_sem] hi119a hi119v Go.Proofs.Tryz.ntmps119 Go.Proofs.Tryz.results119
theorem c_slices_Index_int {v0 : List Int} {v1 : Int} {res : Int} (h : m_slices_Index_int v0 v1 = some res) : CallOk Go.Proofs.Tryz.prog 119 [.sl (rowsOf eI v0), .lit (.int .i64 v1)] [] (.lit (.int .i64 res)) [] := by
  refine callOk_of (ra := []) (md := mdT) hT (hi := hi119) Go.Proofs.Tryz.func119 rfl rfl (by decide +kernel) (by simp) ?_
  unfold m_slices_Index_int at h
  obtain ⟨q1002, l1, h⟩ := obnd_some h
  simp -implicitDefEqProofs -dsimp only [go_sem]
  refine loopW_loopO (m1 := .mk) (m2 := .mk) [.nf [0, 1, 7, 8] []] (m_slices_Index_int_L1_St v0 v1 ((v0.length : Nat) : Int)) l1 ?_ ?_
  · simp -implicitDefEqProofs -dsimp only [go_sem]
  · intro nb2 sb2 bb2 b2 gb2
    obtain ⟨v8_1, eb2⟩ : ∃ v, v = sb2 := ⟨_, rfl⟩; subst eb2
    unfold m_slices_Index_int_L1 at b2
    try dsimp only at b2
    rcases ite_some b2 with ⟨h3, b2⟩ | ⟨h3, b2⟩
    · obtain ⟨x1001, g4, b2⟩ := obnd_some b2
      obtain ⟨h5, h6, h7⟩ := getI_some g4
      rcases ite_some b2 with ⟨h8, b2⟩ | ⟨h8, b2⟩
      · cases b2
        have e9 := (done_of gb2).symm
        subst e9
        try dsimp only at h
        cases h
        simp -implicitDefEqProofs -dsimp only [go_sem, (eq_true h3), h5, h6, h7, (eq_true h8)]
      · cases b2
        simp -implicitDefEqProofs -dsimp only [go_sem, (eq_true h3), h5, h6, h7, (eq_false h8)]
        refine next_of gb2 ?_
        simp -implicitDefEqProofs -dsimp only [go_sem, (eq_true h3), h5, h6, h7, (eq_false h8)]
    · cases b2
      have e10 := (done_of gb2).symm
      subst e10
      try dsimp only at h
      cases h
      simp -implicitDefEqProofs -dsimp only [go_sem, (eq_false h3)]
/- 91 slices.Contains[[]int,int] -/
def hi91 : Hint where
  acts := fun _ => []
  draws := fun
    | _ => ⟨.nil, [], []⟩
theorem hi91a (i : Nat) : hi91.acts i = [] := rfl
theorem hi91v (i : Nat) : hi91.views i = none := rfl
attribute [go_sem] hi91a hi91v Go.Proofs.Tryz.ntmps91 Go.Proofs.Tryz.results91
theorem c_slices_Contains_int {v0 : List Int} {v1 : Int} {res : Bool} (h : m_slices_Contains_int v0 v1 = some res) : CallOk Go.Proofs.Tryz.prog 91 [.sl (rowsOf eI v0), .lit (.int .i64 v1)] [] (.lit (.bool res)) [] := by
  refine callOk_of (ra := []) (md := mdT) hT (hi := hi91) Go.Proofs.Tryz.func91 rfl rfl (by decide +kernel) (by simp) ?_
  unfold m_slices_Contains_int at h
  obtain ⟨r1001, g1, h⟩ := obnd_some h
  simp -implicitDefEqProofs -dsimp only [go_sem]
  refine callW_of (c_slices_Index_int g1) ?_
  cases h
  simp -implicitDefEqProofs -dsimp only [go_sem]
/- 120 loop.example/g00827/impl.ImpliesLabel$1 -/
def hi120 : Hint where
  acts := fun _ => []
  draws := fun
    | _ => ⟨.nil, [], []⟩
theorem hi120a (i : Nat) : hi120.acts i = [] := rfl
theorem hi120v (i : Nat) : hi120.views i = none := rfl
attribute [go_sem] hi120a hi120v Go.Proofs.Tryz.ntmps120 Go.Proofs.Tryz.results120
theorem c_impl_ImpliesLabel_c1 {v0 : Int} {a : List Int} {res : Bool} (h : m_impl_ImpliesLabel_c1 v0 a = some res) : CallOk Go.Proofs.Tryz.prog 120 [.lit (.int .i64 v0), .loc [.sl (rowsOf eI a)]] [] (.lit (.bool res)) [] := by
  refine callOk_of (ra := []) (md := mdT) hT (hi := hi120) Go.Proofs.Tryz.func120 rfl rfl (by decide +kernel) (by simp) ?_
  unfold m_impl_ImpliesLabel_c1 at h
  obtain ⟨r1001, g1, h⟩ := obnd_some h
  simp -implicitDefEqProofs -dsimp only [go_sem]
  refine callW_of (c_slices_Contains_int g1) ?_
  cases h
  simp -implicitDefEqProofs -dsimp only [go_sem]
/- 92 loop.example/g00827/impl.ImpliesLabel -/
def hi92 : Hint where
  acts := fun _ => []
  draws := fun
    | _ => ⟨.nil, [], []⟩
theorem hi92a (i : Nat) : hi92.acts i = [] := rfl
theorem hi92v (i : Nat) : hi92.views i = none := rfl
attribute [go_sem] hi92a hi92v Go.Proofs.Tryz.ntmps92 Go.Proofs.Tryz.results92
theorem c_impl_ImpliesLabel {a : List Int} {b : List Int} {res : Bool} (h : m_impl_ImpliesLabel a b = some res) : CallOk Go.Proofs.Tryz.prog 92 [.sl (rowsOf eI a), .sl (rowsOf eI b)] [] (.lit (.bool res)) [] := by
  refine callOk_of (ra := []) (md := mdT) hT (hi := hi92) Go.Proofs.Tryz.func92 rfl rfl (by decide +kernel) (by simp) ?_
  unfold m_impl_ImpliesLabel at h
  obtain ⟨r1001, g1, h⟩ := obnd_some h
  simp -implicitDefEqProofs -dsimp only [go_sem]
  refine callW_of (c_impl_LabelOk g1) ?_
  rcases ite_some h with ⟨h2, h⟩ | ⟨h2, h⟩
  · obtain ⟨r1002, g3, h⟩ := obnd_some h
    simp -implicitDefEqProofs -dsimp only [go_sem, (eq_true h2), (condZ_t h2)]
    refine callW_of (c_impl_LabelOk g3) ?_
    rcases ite_some h with ⟨h4, h⟩ | ⟨h4, h⟩
    · obtain ⟨r1003, g5, h⟩ := obnd_some h
      simp -implicitDefEqProofs -dsimp only [go_sem, (eq_true h2), (condZ_t h2), (eq_true h4), (condZ_t h4)]
      refine callW_of (c_slices_ContainsFunc_int (by exact fun _ _ hr => c_impl_ImpliesLabel_c1 hr) (by refine ⟨fun _ => ?_, fun _ => ?_⟩ <;> simp only [go_sem]) (by rfl) g5) ?_
      cases h
      simp -implicitDefEqProofs -dsimp only [go_sem, (eq_true h2), (condZ_t h2), (eq_true h4), (condZ_t h4)]
    · cases h
      simp -implicitDefEqProofs -dsimp only [go_sem, (eq_true h2), (condZ_t h2), (eq_false h4), (condZ_f h4)]
  · cases h
    simp -implicitDefEqProofs -dsimp only [go_sem, (eq_false h2), (condZ_f h2)]
end Go.Proofs.YteijmljgodikiaaGreatZ
