/- Functions. -/
import Derived.Test.YtgmiaokdnpaglaaWFK0
set_option linter.all false
set_option linter.unusedVariables false
set_option linter.unusedSimpArgs false
set_option maxRecDepth 100000
set_option maxHeartbeats 400000
namespace Go.Proofs.YtgmiaokdnpaglaaW
open Go
/- 63 loop.example/g00827/laws.szState -/
def hi63 : Hint where
  acts := fun _ => []
  draws := fun
    | _ => ⟨.nil, [], []⟩
theorem hi63a (i : Nat) : hi63.acts i = [] := rfl
theorem hi63v (i : Nat) : hi63.views i = none := rfl
attribute [go_sem] hi63a hi63v Go.Proofs.Try.ntmps63 Go.Proofs.Try.results63
theorem c_laws_szState {a : GState} {left : Int} {res : Int} (h : m_laws_szState a left = some res) : CallOk Go.Proofs.Try.prog 63 [.agg [.lit (.int .i64 a.now), .sl (rowsOf eI a.times), .sl (rowsOf eI a.values)], .lit (.int .i64 left)] [] (.lit (.int .i64 res)) [] := by
  refine callOk_of (ra := []) (md := mdT) hT (hi := hi63) Go.Proofs.Try.func63 rfl rfl (by decide +kernel) (by simp) ?_
  unfold m_laws_szState at h
  obtain ⟨r1001, g1, h⟩ := obnd_some h
  simp -implicitDefEqProofs -dsimp only [go_sem]
  refine callW_of (c_laws_szIntS g1) ?_
  rcases ite_some h with ⟨h2, h⟩ | ⟨h2, h⟩
  · cases h
    simp -implicitDefEqProofs -dsimp only [go_sem, (eq_true h2)]
  · obtain ⟨r1002, g3, h⟩ := obnd_some h
    simp -implicitDefEqProofs -dsimp only [go_sem, (eq_false h2)]
    refine callW_of (c_laws_szIntS g3) ?_
    rcases ite_some h with ⟨h4, h⟩ | ⟨h4, h⟩
    · cases h
      simp -implicitDefEqProofs -dsimp only [go_sem, (eq_false h2), (eq_true h4)]
    · cases h
      simp -implicitDefEqProofs -dsimp only [go_sem, (eq_false h2), (eq_false h4)]
/- 174 loop.example/g00827/laws.szEntry -/
def hi174 : Hint where
  acts := fun _ => []
  draws := fun
    | _ => ⟨.nil, [], []⟩
theorem hi174a (i : Nat) : hi174.acts i = [] := rfl
theorem hi174v (i : Nat) : hi174.views i = none := rfl
attribute [go_sem] hi174a hi174v Go.Proofs.Try.ntmps174 Go.Proofs.Try.results174
theorem c_laws_szEntry {a : GEntry} {left : Int} {res : Int} (h : m_laws_szEntry a left = some res) : CallOk Go.Proofs.Try.prog 174 [.agg [.lit (.int .i64 a.now), .sl (rowsOf eI a.ties), .sl (rowsOf eI a.nodes), .sl (rowsOf eI a.values)], .lit (.int .i64 left)] [] (.lit (.int .i64 res)) [] := by
  refine callOk_of (ra := []) (md := mdT) hT (hi := hi174) Go.Proofs.Try.func174 rfl rfl (by decide +kernel) (by simp) ?_
  unfold m_laws_szEntry at h
  obtain ⟨r1001, g1, h⟩ := obnd_some h
  simp -implicitDefEqProofs -dsimp only [go_sem]
  refine callW_of (c_laws_szIntS g1) ?_
  rcases ite_some h with ⟨h2, h⟩ | ⟨h2, h⟩
  · cases h
    simp -implicitDefEqProofs -dsimp only [go_sem, (eq_true h2)]
  · obtain ⟨r1002, g3, h⟩ := obnd_some h
    simp -implicitDefEqProofs -dsimp only [go_sem, (eq_false h2)]
    refine callW_of (c_laws_szIntS g3) ?_
    rcases ite_some h with ⟨h4, h⟩ | ⟨h4, h⟩
    · cases h
      simp -implicitDefEqProofs -dsimp only [go_sem, (eq_false h2), (eq_true h4)]
    · obtain ⟨r1003, g5, h⟩ := obnd_some h
      simp -implicitDefEqProofs -dsimp only [go_sem, (eq_false h2), (eq_false h4)]
      refine callW_of (c_laws_szIntS g5) ?_
      rcases ite_some h with ⟨h6, h⟩ | ⟨h6, h⟩
      · cases h
        simp -implicitDefEqProofs -dsimp only [go_sem, (eq_false h2), (eq_false h4), (eq_true h6)]
      · cases h
        simp -implicitDefEqProofs -dsimp only [go_sem, (eq_false h2), (eq_false h4), (eq_false h6)]
/- 109 loop.example/g00827/laws.szEntryS -/
def m_laws_szEntryS_L1_St (a : List GEntry) : (Int × Int) → St
  | (left, i) => ⟨[(0, .sl (rowsOf GEntry.encS a)), (1, .lit (.int .i64 left)), (5, .lit (.int .i64 i))], [], 2⟩
attribute [go_sem] m_laws_szEntryS_L1_St
def hi109 : Hint where
  acts := fun _ => []
  draws := fun
    | _ => ⟨.nil, [], []⟩
theorem hi109a (i : Nat) : hi109.acts i = [] := rfl
theorem hi109v (i : Nat) : hi109.views i = none := rfl
attribute [go_sem] hi109a hi109v Go.Proofs.Try.ntmps109 Go.Proofs.Try.results109
theorem c_laws_szEntryS {a : List GEntry} {left : Int} {res : Int} (h : m_laws_szEntryS a left = some res) : CallOk Go.Proofs.Try.prog 109 [.sl (rowsOf GEntry.encS a), .lit (.int .i64 left)] [] (.lit (.int .i64 res)) [] := by
  refine callOk_of (ra := []) (md := mdT) hT (hi := hi109) Go.Proofs.Try.func109 rfl rfl (by decide +kernel) (by simp) ?_
  unfold m_laws_szEntryS at h
  rcases ite_some h with ⟨h1, h⟩ | ⟨h1, h⟩
  · cases h
    simp -implicitDefEqProofs -dsimp only [go_sem, (eq_true h1)]
  · obtain ⟨q1003, l2, h⟩ := obnd_some h
    simp -implicitDefEqProofs -dsimp only [go_sem, (eq_false h1)]
    refine loopW_loopO (m1 := .mk) (m2 := .mk) [.nf [0, 1, 5] []] (m_laws_szEntryS_L1_St a) l2 ?_ ?_
    · simp -implicitDefEqProofs -dsimp only [go_sem, (eq_false h1)]
    · intro nb3 sb3 bb3 b3 gb3
      obtain ⟨left_1, i_1⟩ := sb3
      unfold m_laws_szEntryS_L1 at b3
      try dsimp only at b3
      rcases ite_some b3 with ⟨h4, b3⟩ | ⟨h4, b3⟩
      · obtain ⟨x1001, g5, b3⟩ := obnd_some b3
        obtain ⟨h6, h7, h8⟩ := getI_some g5
        obtain ⟨r1002, g9, b3⟩ := obnd_some b3
        simp -implicitDefEqProofs -dsimp only [go_sem, (eq_false h1), (eq_true h4), h6, h7, h8]
        refine callW_of (c_laws_szEntry g9) ?_
        rcases ite_some b3 with ⟨h10, b3⟩ | ⟨h10, b3⟩
        · cases b3
          have e11 := done_of gb3
          subst e11
          try dsimp only at h
          cases h
          simp -implicitDefEqProofs -dsimp only [go_sem, (eq_false h1), (eq_true h4), h6, h7, h8, (eq_true h10)]
        · cases b3
          simp -implicitDefEqProofs -dsimp only [go_sem, (eq_false h1), (eq_true h4), h6, h7, h8, (eq_false h10)]
          refine next_of gb3 ?_
          simp -implicitDefEqProofs -dsimp only [go_sem, (eq_false h1), (eq_true h4), h6, h7, h8, (eq_false h10)]
      · cases b3
        have e12 := done_of gb3
        subst e12
        try dsimp only at h
        cases h
        simp -implicitDefEqProofs -dsimp only [go_sem, (eq_false h1), (eq_false h4)]
/- 37 loop.example/g00827/laws.szDesk -/
def hi37 : Hint where
  acts := fun _ => []
  draws := fun
    | _ => ⟨.nil, [], []⟩
theorem hi37a (i : Nat) : hi37.acts i = [] := rfl
theorem hi37v (i : Nat) : hi37.views i = none := rfl
attribute [go_sem] hi37a hi37v Go.Proofs.Try.ntmps37 Go.Proofs.Try.results37
theorem c_laws_szDesk {a : GDesk} {left : Int} {res : Int} (h : m_laws_szDesk a left = some res) : CallOk Go.Proofs.Try.prog 37 [.agg [.sl (rowsOf GNode.encS a.show_.nodes), .sl (rowsOf GTie.enc a.show_.ties), .lit (.int .i64 a.show_.horizon), .lit (.int .i64 a.state.now), .sl (rowsOf eI a.state.times), .sl (rowsOf eI a.state.values), .lit (.bool a.lazy), .sl (rowsOf GEntry.encS a.log)], .lit (.int .i64 left)] [] (.lit (.int .i64 res)) [] := by
  refine callOk_of (ra := []) (md := mdT) hT (hi := hi37) Go.Proofs.Try.func37 rfl rfl (by decide +kernel) (by simp) ?_
  unfold m_laws_szDesk at h
  obtain ⟨r1001, g1, h⟩ := obnd_some h
  simp -implicitDefEqProofs -dsimp only [go_sem]
  refine callW_of (c_laws_szShow g1) ?_
  rcases ite_some h with ⟨h2, h⟩ | ⟨h2, h⟩
  · cases h
    simp -implicitDefEqProofs -dsimp only [go_sem, (eq_true h2)]
  · obtain ⟨r1002, g3, h⟩ := obnd_some h
    simp -implicitDefEqProofs -dsimp only [go_sem, (eq_false h2)]
    refine callW_of (c_laws_szState g3) ?_
    rcases ite_some h with ⟨h4, h⟩ | ⟨h4, h⟩
    · cases h
      simp -implicitDefEqProofs -dsimp only [go_sem, (eq_false h2), (eq_true h4)]
    · obtain ⟨r1003, g5, h⟩ := obnd_some h
      simp -implicitDefEqProofs -dsimp only [go_sem, (eq_false h2), (eq_false h4)]
      refine callW_of (c_laws_szEntryS g5) ?_
      rcases ite_some h with ⟨h6, h⟩ | ⟨h6, h⟩
      · cases h
        simp -implicitDefEqProofs -dsimp only [go_sem, (eq_false h2), (eq_false h4), (eq_true h6)]
      · cases h
        simp -implicitDefEqProofs -dsimp only [go_sem, (eq_false h2), (eq_false h4), (eq_false h6)]
/- 65 loop.example/g00827/laws.toState -/
def hi65 : Hint where
  acts := fun _ => []
  draws := fun
    | _ => ⟨.nil, [], []⟩
theorem hi65a (i : Nat) : hi65.acts i = [] := rfl
theorem hi65v (i : Nat) : hi65.views i = none := rfl
attribute [go_sem] hi65a hi65v Go.Proofs.Try.ntmps65 Go.Proofs.Try.results65
theorem c_laws_toState {a : GState} {res : GState} (h : m_laws_toState a = some res) : CallOk Go.Proofs.Try.prog 65 [.agg [.lit (.int .i64 a.now), .sl (rowsOf eI a.times), .sl (rowsOf eI a.values)]] [] (.agg [.lit (.int .i64 res.now), .ref 20000 1 0 res.times.length, .ref 20001 1 0 res.values.length]) [(20000, 1, .row true (rowsOf eI res.times)), (20001, 1, .row true (rowsOf eI res.values))] := by
  refine callOk_of (ra := [.homeCell 128 1, .homeCell 128 2]) (md := mdT) hT (hi := hi65) Go.Proofs.Try.func65 rfl rfl (by decide +kernel) (by simp) ?_
  unfold m_laws_toState at h
  obtain ⟨r1001, g1, h⟩ := obnd_some h
  simp -implicitDefEqProofs -dsimp only [go_sem]
  refine callW_of (c_laws_toIntS g1) ?_
  obtain ⟨r1002, g2, h⟩ := obnd_some h
  simp -implicitDefEqProofs -dsimp only [go_sem]
  refine callW_of (c_laws_toIntS g2) ?_
  cases h
  simp -implicitDefEqProofs -dsimp only [go_sem]
/- 176 loop.example/g00827/laws.toEntry -/
def hi176 : Hint where
  acts := fun _ => []
  draws := fun
    | _ => ⟨.nil, [], []⟩
theorem hi176a (i : Nat) : hi176.acts i = [] := rfl
theorem hi176v (i : Nat) : hi176.views i = none := rfl
attribute [go_sem] hi176a hi176v Go.Proofs.Try.ntmps176 Go.Proofs.Try.results176
theorem c_laws_toEntry {a : GEntry} {res : GEntry} (h : m_laws_toEntry a = some res) : CallOk Go.Proofs.Try.prog 176 [.agg [.lit (.int .i64 a.now), .sl (rowsOf eI a.ties), .sl (rowsOf eI a.nodes), .sl (rowsOf eI a.values)]] [] (.agg [.lit (.int .i64 res.now), .ref 20000 1 0 res.ties.length, .ref 20001 1 0 res.nodes.length, .ref 20002 1 0 res.values.length]) [(20000, 1, .row true (rowsOf eI res.ties)), (20001, 1, .row true (rowsOf eI res.nodes)), (20002, 1, .row true (rowsOf eI res.values))] := by
  refine callOk_of (ra := [.homeCell 128 1, .homeCell 128 2, .homeCell 128 3]) (md := mdT) hT (hi := hi176) Go.Proofs.Try.func176 rfl rfl (by decide +kernel) (by simp) ?_
  unfold m_laws_toEntry at h
  obtain ⟨r1001, g1, h⟩ := obnd_some h
  simp -implicitDefEqProofs -dsimp only [go_sem]
  refine callW_of (c_laws_toIntS g1) ?_
  obtain ⟨r1002, g2, h⟩ := obnd_some h
  simp -implicitDefEqProofs -dsimp only [go_sem]
  refine callW_of (c_laws_toIntS g2) ?_
  obtain ⟨r1003, g3, h⟩ := obnd_some h
  simp -implicitDefEqProofs -dsimp only [go_sem]
  refine callW_of (c_laws_toIntS g3) ?_
  cases h
  simp -implicitDefEqProofs -dsimp only [go_sem]
/- 113 loop.example/g00827/laws.toEntryS -/
def m_laws_toEntryS_L1_St (a : List GEntry) : (Int × (List GEntry)) → St
  | (i, out) => ⟨[(0, .sl (rowsOf GEntry.encS a)), (3, .ref 448 1 0 out.length), (4, .lit (.int .i64 i))], [(448, 1, .row true (rowsOf GEntry.encO out))], 2⟩
attribute [go_sem] m_laws_toEntryS_L1_St
def hi113 : Hint where
  acts := fun _ => []
  draws := fun
    | _ => ⟨.nil, [], []⟩
theorem hi113a (i : Nat) : hi113.acts i = [] := rfl
theorem hi113v (i : Nat) : hi113.views i = none := rfl
attribute [go_sem] hi113a hi113v Go.Proofs.Try.ntmps113 Go.Proofs.Try.results113
theorem c_laws_toEntryS {a : List GEntry} {res : List GEntry} (h : m_laws_toEntryS a = some res) : CallOk Go.Proofs.Try.prog 113 [.sl (rowsOf GEntry.encS a)] [] (.ref 20000 1 0 res.length) [(20000, 1, .row true (rowsOf GEntry.encO res))] := by
  refine callOk_of (ra := [.home 2]) (md := mdT) hT (hi := hi113) Go.Proofs.Try.func113 rfl rfl (by decide +kernel) (by simp) ?_
  unfold m_laws_toEntryS at h
  obtain ⟨h1, h⟩ := chk_some h
  obtain ⟨h2, h⟩ := chk_some h
  obtain ⟨q1004, l3, h⟩ := obnd_some h
  simp -implicitDefEqProofs -dsimp only [go_sem, (eq_true h1), (eq_true h2)]
  refine loopW_loopO (m1 := .mk) (m2 := .mk) [.nf [0, 3, 4] [448]] (m_laws_toEntryS_L1_St a) l3 ?_ ?_
  · simp -implicitDefEqProofs -dsimp only [go_sem, (eq_true h1), (eq_true h2)]
  · intro nb4 sb4 bb4 b4 gb4
    obtain ⟨i_1, out_1⟩ := sb4
    unfold m_laws_toEntryS_L1 at b4
    try dsimp only at b4
    rcases ite_some b4 with ⟨h5, b4⟩ | ⟨h5, b4⟩
    · obtain ⟨x1001, g6, b4⟩ := obnd_some b4
      obtain ⟨h7, h8, h9⟩ := getI_some g6
      obtain ⟨r1002, g10, b4⟩ := obnd_some b4
      simp -implicitDefEqProofs -dsimp only [go_sem, (eq_true h1), (eq_true h2), (eq_true h5), h7, h8, h9]
      refine callW_of (c_laws_toEntry g10) ?_
      obtain ⟨x1003, g11, b4⟩ := obnd_some b4
      obtain ⟨h12, h13, h14⟩ := getI_some g11
      cases b4
      simp -implicitDefEqProofs -dsimp only [go_sem, (eq_true h1), (eq_true h2), (eq_true h5), h7, h8, h9, h12, h13, h14]
      refine next_of gb4 ?_
      simp -implicitDefEqProofs -dsimp only [go_sem, (eq_true h1), (eq_true h2), (eq_true h5), h7, h8, h9, h12, h13, h14]
    · cases b4
      have e15 := done_of gb4
      subst e15
      try dsimp only at h
      cases h
      simp -implicitDefEqProofs -dsimp only [go_sem, (eq_true h1), (eq_true h2), (eq_false h5)]
/- 39 loop.example/g00827/laws.toDesk -/
def hi39 : Hint where
  acts := fun _ => []
  draws := fun
    | _ => ⟨.nil, [], []⟩
theorem hi39a (i : Nat) : hi39.acts i = [] := rfl
theorem hi39v (i : Nat) : hi39.views i = none := rfl
attribute [go_sem] hi39a hi39v Go.Proofs.Try.ntmps39 Go.Proofs.Try.results39
theorem c_laws_toDesk {a : GDesk} {res : GDesk} (h : m_laws_toDesk a = some res) : CallOk Go.Proofs.Try.prog 39 [.agg [.sl (rowsOf GNode.encS a.show_.nodes), .sl (rowsOf GTie.enc a.show_.ties), .lit (.int .i64 a.show_.horizon), .lit (.int .i64 a.state.now), .sl (rowsOf eI a.state.times), .sl (rowsOf eI a.state.values), .lit (.bool a.lazy), .sl (rowsOf GEntry.encS a.log)]] [] (.agg [.ref 20000 1 0 res.show_.nodes.length, .ref 20001 1 0 res.show_.ties.length, .lit (.int .i64 res.show_.horizon), .lit (.int .i64 res.state.now), .ref 20002 1 0 res.state.times.length, .ref 20003 1 0 res.state.values.length, .lit (.bool res.lazy), .ref 20004 1 0 res.log.length]) [(20000, 1, .row true (rowsOf GNode.encO res.show_.nodes)), (20001, 1, .row true (rowsOf GTie.enc res.show_.ties)), (20002, 1, .row true (rowsOf eI res.state.times)), (20003, 1, .row true (rowsOf eI res.state.values)), (20004, 1, .row true (rowsOf GEntry.encO res.log))] := by
  refine callOk_of (ra := [.homeCell 128 0, .homeCell 128 1, .homeCell 128 4, .homeCell 128 5, .homeCell 128 7]) (md := mdT) hT (hi := hi39) Go.Proofs.Try.func39 rfl rfl (by decide +kernel) (by simp) ?_
  unfold m_laws_toDesk at h
  obtain ⟨r1001, g1, h⟩ := obnd_some h
  simp -implicitDefEqProofs -dsimp only [go_sem]
  refine callW_of (c_laws_toShow g1) ?_
  obtain ⟨r1002, g2, h⟩ := obnd_some h
  simp -implicitDefEqProofs -dsimp only [go_sem]
  refine callW_of (c_laws_toState g2) ?_
  obtain ⟨r1003, g3, h⟩ := obnd_some h
  simp -implicitDefEqProofs -dsimp only [go_sem]
  refine callW_of (c_laws_toEntryS g3) ?_
  cases h
  simp -implicitDefEqProofs -dsimp only [go_sem]
/- 110 loop.example/g00827/spec.SameShows -/
def m_spec_SameShows_L1_St (v34 : List GNode) (v35 : Int) (a_1 : List GTie) (a_2 : Int) (b_0 : List GNode) (b_1 : List GTie) (b_2 : Int) (v36 : Int) : St := ⟨[(2, .ptr 128 1 0 0), (3, .ptr 192 1 0 0), (34, .sl (rowsOf GNode.encS v34)), (35, .lit (.int .i64 v35)), (36, .lit (.int .i64 v36))], [(128, 1, .var [.sl (rowsOf GNode.encS v34), .sl (rowsOf GTie.enc a_1), .lit (.int .i64 a_2)]), (192, 1, .var [.sl (rowsOf GNode.encS b_0), .sl (rowsOf GTie.enc b_1), .lit (.int .i64 b_2)])], 2⟩
attribute [go_sem] m_spec_SameShows_L1_St
def m_spec_SameShows_L2_St (v68 : List GTie) (v69 : Int) (b_0 : List GNode) (b_1 : List GTie) (b_2 : Int) (v70 : Int) : St := ⟨[(3, .ptr 192 1 0 0), (68, .sl (rowsOf GTie.enc v68)), (69, .lit (.int .i64 v69)), (70, .lit (.int .i64 v70))], [(192, 1, .var [.sl (rowsOf GNode.encS b_0), .sl (rowsOf GTie.enc b_1), .lit (.int .i64 b_2)])], 2⟩
attribute [go_sem] m_spec_SameShows_L2_St
def hi110 : Hint where
  acts := fun _ => []
  draws := fun
    | 13 => ⟨.cons ⟨0, false, []⟩ (.cons ⟨1, false, []⟩ (.cons ⟨2, false, []⟩ (.cons ⟨3, false, []⟩ (.cons ⟨4, false, []⟩ (.cons ⟨5, false, []⟩ (.cons ⟨6, false, []⟩ .nil)))))), [[], [], [1], [], [1, 2, 3], [1, 2, 3, 4], [0, 1, 2, 3, 4, 5]], [0, 1, 2, 3, 4, 5, 6]⟩
    | _ => ⟨.nil, [], []⟩
theorem hi110a (i : Nat) : hi110.acts i = [] := rfl
theorem hi110v (i : Nat) : hi110.views i = none := rfl
attribute [go_sem] hi110a hi110v Go.Proofs.Try.ntmps110 Go.Proofs.Try.results110
@[go_sem] theorem hi110d13 : (hi110.draws 13).order = .cons ⟨0, false, []⟩ (.cons ⟨1, false, []⟩ (.cons ⟨2, false, []⟩ (.cons ⟨3, false, []⟩ (.cons ⟨4, false, []⟩ (.cons ⟨5, false, []⟩ (.cons ⟨6, false, []⟩ .nil)))))) := rfl
theorem c_spec_SameShows {a : GShow} {b : GShow} {res : Bool} (h : m_spec_SameShows a b = some res) : CallOk Go.Proofs.Try.prog 110 [.agg [.sl (rowsOf GNode.encS a.nodes), .sl (rowsOf GTie.enc a.ties), .lit (.int .i64 a.horizon)], .agg [.sl (rowsOf GNode.encS b.nodes), .sl (rowsOf GTie.enc b.ties), .lit (.int .i64 b.horizon)]] [] (.lit (.bool res)) [] := by
  refine callOk_of (ra := []) (md := mdT) hT (hi := hi110) Go.Proofs.Try.func110 rfl rfl (by decide +kernel) (by simp) ?_
  unfold m_spec_SameShows at h
  rcases ite_some h with ⟨h1, h⟩ | ⟨h1, h⟩
  · rcases ite_some h with ⟨h2, h⟩ | ⟨h2, h⟩
    · rcases ite_some h with ⟨h3, h⟩ | ⟨h3, h⟩
      · obtain ⟨q1007, l4, h⟩ := obnd_some h
        simp -implicitDefEqProofs -dsimp only [go_sem, (eq_true h1), (eq_true h2), (eq_true h3)]
        refine loopW_loopO (m1 := .mk) (m2 := .mk) [.nf [2, 3, 34, 35, 36] [128, 192]] (m_spec_SameShows_L1_St a.nodes ((a.nodes.length : Nat) : Int) a.ties a.horizon b.nodes b.ties b.horizon) l4 ?_ ?_
        · simp -implicitDefEqProofs -dsimp only [go_sem, (eq_true h1), (eq_true h2), (eq_true h3)]
        · intro nb5 sb5 bb5 b5 gb5
          obtain ⟨v36_1, eb5⟩ : ∃ v, v = sb5 := ⟨_, rfl⟩; subst eb5
          unfold m_spec_SameShows_L1 at b5
          try dsimp only at b5
          rcases ite_some b5 with ⟨h6, b5⟩ | ⟨h6, b5⟩
          · obtain ⟨x1001, g7, b5⟩ := obnd_some b5
            obtain ⟨h8, h9, h10⟩ := getI_some g7
            obtain ⟨x1002, g11, b5⟩ := obnd_some b5
            obtain ⟨h12, h13, h14⟩ := getI_some g11
            rcases ite_some b5 with ⟨h15, b5⟩ | ⟨h15, b5⟩
            · rcases ite_some b5 with ⟨h16, b5⟩ | ⟨h16, b5⟩
              · obtain ⟨r1003, g17, b5⟩ := obnd_some b5
                simp -implicitDefEqProofs -dsimp only [go_sem, (eq_true h1), (eq_true h2), (eq_true h3), (eq_true h6), h8, h9, h10, h12, h13, h14, (eq_true h15), (eq_true h16)]
                refine callW_of (c_spec_l08Same g17) ?_
                rcases ite_some b5 with ⟨h18, b5⟩ | ⟨h18, b5⟩
                · cases b5
                  simp -implicitDefEqProofs -dsimp only [go_sem, (eq_true h1), (eq_true h2), (eq_true h3), (eq_true h6), h8, h9, h10, h12, h13, h14, (eq_true h15), (eq_true h16), (eq_true h18), (condZ_t h18)]
                  refine next_of gb5 ?_
                  simp -implicitDefEqProofs -dsimp only [go_sem, (eq_true h1), (eq_true h2), (eq_true h3), (eq_true h6), h8, h9, h10, h12, h13, h14, (eq_true h15), (eq_true h16), (eq_true h18), (condZ_t h18)]
                · cases b5
                  have e19 := done_of gb5
                  subst e19
                  try dsimp only at h
                  cases h
                  simp -implicitDefEqProofs -dsimp only [go_sem, (eq_true h1), (eq_true h2), (eq_true h3), (eq_true h6), h8, h9, h10, h12, h13, h14, (eq_true h15), (eq_true h16), (eq_false h18), (condZ_f h18)]
              · cases b5
                have e20 := done_of gb5
                subst e20
                try dsimp only at h
                cases h
                simp -implicitDefEqProofs -dsimp only [go_sem, (eq_true h1), (eq_true h2), (eq_true h3), (eq_true h6), h8, h9, h10, h12, h13, h14, (eq_true h15), (eq_false h16)]
            · cases b5
              have e21 := done_of gb5
              subst e21
              try dsimp only at h
              cases h
              simp -implicitDefEqProofs -dsimp only [go_sem, (eq_true h1), (eq_true h2), (eq_true h3), (eq_true h6), h8, h9, h10, h12, h13, h14, (eq_false h15)]
          · cases b5
            have e22 := done_of gb5
            subst e22
            try dsimp only at h
            obtain ⟨q1006, l23, h⟩ := obnd_some h
            simp -implicitDefEqProofs -dsimp only [go_sem, (eq_true h1), (eq_true h2), (eq_true h3), (eq_false h6)]
            refine loopW_loopO (m1 := .mk) (m2 := .mk) [.nf [3, 68, 69, 70] [192]] (m_spec_SameShows_L2_St a.ties ((a.ties.length : Nat) : Int) b.nodes b.ties b.horizon) l23 ?_ ?_
            · simp -implicitDefEqProofs -dsimp only [go_sem, (eq_true h1), (eq_true h2), (eq_true h3), (eq_false h6)]
            · intro nb24 sb24 bb24 b24 gb24
              obtain ⟨v70_2, eb24⟩ : ∃ v, v = sb24 := ⟨_, rfl⟩; subst eb24
              unfold m_spec_SameShows_L2 at b24
              try dsimp only at b24
              rcases ite_some b24 with ⟨h25, b24⟩ | ⟨h25, b24⟩
              · obtain ⟨x1004, g26, b24⟩ := obnd_some b24
                obtain ⟨h27, h28, h29⟩ := getI_some g26
                obtain ⟨x1005, g30, b24⟩ := obnd_some b24
                obtain ⟨h31, h32, h33⟩ := getI_some g30
                rcases ite_some b24 with ⟨h34, b24⟩ | ⟨h34, b24⟩
                · cases b24
                  simp -implicitDefEqProofs -dsimp only [go_sem, (eq_true h1), (eq_true h2), (eq_true h3), (eq_false h6), (eq_true h25), h27, h28, h29, h31, h32, h33, (eq_true h34), (condZ_t h34)]
                  refine next_of gb24 ?_
                  simp -implicitDefEqProofs -dsimp only [go_sem, (eq_true h1), (eq_true h2), (eq_true h3), (eq_false h6), (eq_true h25), h27, h28, h29, h31, h32, h33, (eq_true h34), (condZ_t h34)]
                · cases b24
                  have e35 := done_of gb24
                  subst e35
                  try dsimp only at h
                  cases h
                  simp -implicitDefEqProofs -dsimp only [go_sem, (eq_true h1), (eq_true h2), (eq_true h3), (eq_false h6), (eq_true h25), h27, h28, h29, h31, h32, h33, (eq_false h34), (condZ_f h34)]
              · cases b24
                have e36 := done_of gb24
                subst e36
                try dsimp only at h
                cases h
                simp -implicitDefEqProofs -dsimp only [go_sem, (eq_true h1), (eq_true h2), (eq_true h3), (eq_false h6), (eq_false h25)]
      · cases h
        simp -implicitDefEqProofs -dsimp only [go_sem, (eq_true h1), (eq_true h2), (eq_false h3)]
    · cases h
      simp -implicitDefEqProofs -dsimp only [go_sem, (eq_true h1), (eq_false h2)]
  · cases h
    simp -implicitDefEqProofs -dsimp only [go_sem, (eq_false h1)]
/- 111 loop.example/g00827/spec.SameStates -/
def hi111 : Hint where
  acts := fun _ => []
  draws := fun
    | _ => ⟨.nil, [], []⟩
theorem hi111a (i : Nat) : hi111.acts i = [] := rfl
theorem hi111v (i : Nat) : hi111.views i = none := rfl
attribute [go_sem] hi111a hi111v Go.Proofs.Try.ntmps111 Go.Proofs.Try.results111
theorem c_spec_SameStates {a : GState} {b : GState} {res : Bool} (h : m_spec_SameStates a b = some res) : CallOk Go.Proofs.Try.prog 111 [.agg [.lit (.int .i64 a.now), .sl (rowsOf eI a.times), .sl (rowsOf eI a.values)], .agg [.lit (.int .i64 b.now), .sl (rowsOf eI b.times), .sl (rowsOf eI b.values)]] [] (.lit (.bool res)) [] := by
  refine callOk_of (ra := []) (md := mdT) hT (hi := hi111) Go.Proofs.Try.func111 rfl rfl (by decide +kernel) (by simp) ?_
  unfold m_spec_SameStates at h
  rcases ite_some h with ⟨h1, h⟩ | ⟨h1, h⟩
  · obtain ⟨r1001, g2, h⟩ := obnd_some h
    simp -implicitDefEqProofs -dsimp only [go_sem, (eq_true h1)]
    refine callW_of (c_spec_l08Same g2) ?_
    rcases ite_some h with ⟨h3, h⟩ | ⟨h3, h⟩
    · obtain ⟨r1002, g4, h⟩ := obnd_some h
      simp -implicitDefEqProofs -dsimp only [go_sem, (eq_true h1), (eq_true h3), (condZ_t h3)]
      refine callW_of (c_spec_l08Same g4) ?_
      cases h
      simp -implicitDefEqProofs -dsimp only [go_sem, (eq_true h1), (eq_true h3), (condZ_t h3)]
    · cases h
      simp -implicitDefEqProofs -dsimp only [go_sem, (eq_true h1), (eq_false h3), (condZ_f h3)]
  · cases h
    simp -implicitDefEqProofs -dsimp only [go_sem, (eq_false h1)]
/- 112 loop.example/g00827/spec.l25Same -/
def hi112 : Hint where
  acts := fun _ => []
  draws := fun
    | _ => ⟨.nil, [], []⟩
theorem hi112a (i : Nat) : hi112.acts i = [] := rfl
theorem hi112v (i : Nat) : hi112.views i = none := rfl
attribute [go_sem] hi112a hi112v Go.Proofs.Try.ntmps112 Go.Proofs.Try.results112
theorem c_spec_l25Same {a : GEntry} {b : GEntry} {res : Bool} (h : m_spec_l25Same a b = some res) : CallOk Go.Proofs.Try.prog 112 [.agg [.lit (.int .i64 a.now), .sl (rowsOf eI a.ties), .sl (rowsOf eI a.nodes), .sl (rowsOf eI a.values)], .agg [.lit (.int .i64 b.now), .sl (rowsOf eI b.ties), .sl (rowsOf eI b.nodes), .sl (rowsOf eI b.values)]] [] (.lit (.bool res)) [] := by
  refine callOk_of (ra := []) (md := mdT) hT (hi := hi112) Go.Proofs.Try.func112 rfl rfl (by decide +kernel) (by simp) ?_
  unfold m_spec_l25Same at h
  rcases ite_some h with ⟨h1, h⟩ | ⟨h1, h⟩
  · obtain ⟨r1001, g2, h⟩ := obnd_some h
    simp -implicitDefEqProofs -dsimp only [go_sem, (eq_true h1)]
    refine callW_of (c_spec_l08Same g2) ?_
    rcases ite_some h with ⟨h3, h⟩ | ⟨h3, h⟩
    · obtain ⟨r1002, g4, h⟩ := obnd_some h
      simp -implicitDefEqProofs -dsimp only [go_sem, (eq_true h1), (eq_true h3), (condZ_t h3)]
      refine callW_of (c_spec_l08Same g4) ?_
      rcases ite_some h with ⟨h5, h⟩ | ⟨h5, h⟩
      · obtain ⟨r1003, g6, h⟩ := obnd_some h
        simp -implicitDefEqProofs -dsimp only [go_sem, (eq_true h1), (eq_true h3), (condZ_t h3), (eq_true h5), (condZ_t h5)]
        refine callW_of (c_spec_l08Same g6) ?_
        cases h
        simp -implicitDefEqProofs -dsimp only [go_sem, (eq_true h1), (eq_true h3), (condZ_t h3), (eq_true h5), (condZ_t h5)]
      · cases h
        simp -implicitDefEqProofs -dsimp only [go_sem, (eq_true h1), (eq_true h3), (condZ_t h3), (eq_false h5), (condZ_f h5)]
    · cases h
      simp -implicitDefEqProofs -dsimp only [go_sem, (eq_true h1), (eq_false h3), (condZ_f h3)]
  · cases h
    simp -implicitDefEqProofs -dsimp only [go_sem, (eq_false h1)]
/- 38 loop.example/g00827/spec.SameDesks -/
def m_spec_SameDesks_L1_St (v38 : List GEntry) (v39 : Int) (b_0 : List GNode) (b_1 : List GTie) (b_2 : Int) (b_3 : Int) (b_4 : List Int) (b_5 : List Int) (b_6 : Bool) (b_7 : List GEntry) (v40 : Int) : St := ⟨[(3, .ptr 192 1 0 0), (38, .sl (rowsOf GEntry.encS v38)), (39, .lit (.int .i64 v39)), (40, .lit (.int .i64 v40))], [(192, 1, .var [.sl (rowsOf GNode.encS b_0), .sl (rowsOf GTie.enc b_1), .lit (.int .i64 b_2), .lit (.int .i64 b_3), .sl (rowsOf eI b_4), .sl (rowsOf eI b_5), .lit (.bool b_6), .sl (rowsOf GEntry.encS b_7)])], 2⟩
attribute [go_sem] m_spec_SameDesks_L1_St
def hi38 : Hint where
  acts := fun _ => []
  draws := fun
    | 6 => ⟨.cons ⟨0, false, []⟩ (.cons ⟨1, false, []⟩ (.cons ⟨2, false, []⟩ (.cons ⟨3, false, []⟩ (.cons ⟨4, false, []⟩ (.cons ⟨5, false, []⟩ (.cons ⟨6, false, []⟩ (.cons ⟨7, false, []⟩ .nil))))))), [[], [], [1], [], [1, 2, 3], [1, 2, 3, 4], [0, 1, 2, 3, 4, 5], [0, 1, 2, 3, 4, 5, 6]], [0, 1, 2, 3, 4, 5, 6, 7]⟩
    | _ => ⟨.nil, [], []⟩
theorem hi38a (i : Nat) : hi38.acts i = [] := rfl
theorem hi38v (i : Nat) : hi38.views i = none := rfl
attribute [go_sem] hi38a hi38v Go.Proofs.Try.ntmps38 Go.Proofs.Try.results38
@[go_sem] theorem hi38d6 : (hi38.draws 6).order = .cons ⟨0, false, []⟩ (.cons ⟨1, false, []⟩ (.cons ⟨2, false, []⟩ (.cons ⟨3, false, []⟩ (.cons ⟨4, false, []⟩ (.cons ⟨5, false, []⟩ (.cons ⟨6, false, []⟩ (.cons ⟨7, false, []⟩ .nil))))))) := rfl
theorem c_spec_SameDesks {a : GDesk} {b : GDesk} {res : Bool} (h : m_spec_SameDesks a b = some res) : CallOk Go.Proofs.Try.prog 38 [.agg [.sl (rowsOf GNode.encS a.show_.nodes), .sl (rowsOf GTie.enc a.show_.ties), .lit (.int .i64 a.show_.horizon), .lit (.int .i64 a.state.now), .sl (rowsOf eI a.state.times), .sl (rowsOf eI a.state.values), .lit (.bool a.lazy), .sl (rowsOf GEntry.encS a.log)], .agg [.sl (rowsOf GNode.encS b.show_.nodes), .sl (rowsOf GTie.enc b.show_.ties), .lit (.int .i64 b.show_.horizon), .lit (.int .i64 b.state.now), .sl (rowsOf eI b.state.times), .sl (rowsOf eI b.state.values), .lit (.bool b.lazy), .sl (rowsOf GEntry.encS b.log)]] [] (.lit (.bool res)) [] := by
  refine callOk_of (ra := []) (md := mdT) hT (hi := hi38) Go.Proofs.Try.func38 rfl rfl (by decide +kernel) (by simp) ?_
  unfold m_spec_SameDesks at h
  obtain ⟨r1001, g1, h⟩ := obnd_some h
  simp -implicitDefEqProofs -dsimp only [go_sem]
  refine callW_of (c_spec_SameShows g1) ?_
  rcases ite_some h with ⟨h2, h⟩ | ⟨h2, h⟩
  · obtain ⟨r1002, g3, h⟩ := obnd_some h
    simp -implicitDefEqProofs -dsimp only [go_sem, (eq_true h2), (condZ_t h2)]
    refine callW_of (c_spec_SameStates g3) ?_
    rcases ite_some h with ⟨h4, h⟩ | ⟨h4, h⟩
    · rcases ite_some h with ⟨h5, h⟩ | ⟨h5, h⟩
      · rcases ite_some h with ⟨h6, h⟩ | ⟨h6, h⟩
        · obtain ⟨q1006, l7, h⟩ := obnd_some h
          simp -implicitDefEqProofs -dsimp only [go_sem, (eq_true h2), (condZ_t h2), (eq_true h4), (condZ_t h4), (eq_true h5), (eq_true h6)]
          refine loopW_loopO (m1 := .mk) (m2 := .mk) [.nf [3, 38, 39, 40] [192]] (m_spec_SameDesks_L1_St a.log ((a.log.length : Nat) : Int) b.show_.nodes b.show_.ties b.show_.horizon b.state.now b.state.times b.state.values b.lazy b.log) l7 ?_ ?_
          · simp -implicitDefEqProofs -dsimp only [go_sem, (eq_true h2), (condZ_t h2), (eq_true h4), (condZ_t h4), (eq_true h5), (eq_true h6)]
          · intro nb8 sb8 bb8 b8 gb8
            obtain ⟨v40_1, eb8⟩ : ∃ v, v = sb8 := ⟨_, rfl⟩; subst eb8
            unfold m_spec_SameDesks_L1 at b8
            try dsimp only at b8
            rcases ite_some b8 with ⟨h9, b8⟩ | ⟨h9, b8⟩
            · obtain ⟨x1003, g10, b8⟩ := obnd_some b8
              obtain ⟨h11, h12, h13⟩ := getI_some g10
              obtain ⟨x1004, g14, b8⟩ := obnd_some b8
              obtain ⟨h15, h16, h17⟩ := getI_some g14
              obtain ⟨r1005, g18, b8⟩ := obnd_some b8
              simp -implicitDefEqProofs -dsimp only [go_sem, (eq_true h2), (condZ_t h2), (eq_true h4), (condZ_t h4), (eq_true h5), (eq_true h6), (eq_true h9), h11, h12, h13, h15, h16, h17]
              refine callW_of (c_spec_l25Same g18) ?_
              rcases ite_some b8 with ⟨h19, b8⟩ | ⟨h19, b8⟩
              · cases b8
                simp -implicitDefEqProofs -dsimp only [go_sem, (eq_true h2), (condZ_t h2), (eq_true h4), (condZ_t h4), (eq_true h5), (eq_true h6), (eq_true h9), h11, h12, h13, h15, h16, h17, (eq_true h19), (condZ_t h19)]
                refine next_of gb8 ?_
                simp -implicitDefEqProofs -dsimp only [go_sem, (eq_true h2), (condZ_t h2), (eq_true h4), (condZ_t h4), (eq_true h5), (eq_true h6), (eq_true h9), h11, h12, h13, h15, h16, h17, (eq_true h19), (condZ_t h19)]
              · cases b8
                have e20 := done_of gb8
                subst e20
                try dsimp only at h
                cases h
                simp -implicitDefEqProofs -dsimp only [go_sem, (eq_true h2), (condZ_t h2), (eq_true h4), (condZ_t h4), (eq_true h5), (eq_true h6), (eq_true h9), h11, h12, h13, h15, h16, h17, (eq_false h19), (condZ_f h19)]
            · cases b8
              have e21 := done_of gb8
              subst e21
              try dsimp only at h
              cases h
              simp -implicitDefEqProofs -dsimp only [go_sem, (eq_true h2), (condZ_t h2), (eq_true h4), (condZ_t h4), (eq_true h5), (eq_true h6), (eq_false h9)]
        · cases h
          simp -implicitDefEqProofs -dsimp only [go_sem, (eq_true h2), (condZ_t h2), (eq_true h4), (condZ_t h4), (eq_true h5), (eq_false h6)]
      · cases h
        simp -implicitDefEqProofs -dsimp only [go_sem, (eq_true h2), (condZ_t h2), (eq_true h4), (condZ_t h4), (eq_false h5)]
    · cases h
      simp -implicitDefEqProofs -dsimp only [go_sem, (eq_true h2), (condZ_t h2), (eq_false h4), (condZ_f h4)]
  · cases h
    simp -implicitDefEqProofs -dsimp only [go_sem, (eq_false h2), (condZ_f h2)]
/- 177 slices.EqualFunc[[]loop.example/g00827/impl.Node,[]loop.example/g00827/impl.Node,loop.example/g00827/impl.Node,loop.example/g00827/impl.Node] -/
def m_slices_EqualFunc_Node_L1_St (v1 : List GNode) (f_v2 : Nat) (k_v2 : List AV) (v15 : List GNode) (v16 : Int) (v17 : Int) : St := ⟨[(1, .sl (rowsOf GNode.encS v1)), (2, .fn f_v2 k_v2), (15, .sl (rowsOf GNode.encS v15)), (16, .lit (.int .i64 v16)), (17, .lit (.int .i64 v17))], [], 2⟩
attribute [go_sem] m_slices_EqualFunc_Node_L1_St
def hi177 : Hint where
  acts := fun _ => []
  draws := fun
    | _ => ⟨.nil, [], []⟩
theorem hi177a (i : Nat) : hi177.acts i = [] := rfl
theorem hi177v (i : Nat) : hi177.views i = none := rfl
attribute [go_sem] hi177a hi177v Go.Proofs.Try.ntmps177 Go.Proofs.Try.results177
theorem c_slices_EqualFunc_Node {v0 : List GNode} {v1 : List GNode} {v2 : GNode → GNode → Option Bool} {f_v2 : Nat} {k_v2 : List AV} (hp_v2 : ∀ y0 y1 r, v2 y0 y1 = some r → CallOk Go.Proofs.Try.prog f_v2 ([.agg [.lit (.string y0.name), .sl (rowsOf eI y0.label), .lit (.int .i64 y0.watch)], .agg [.lit (.string y1.name), .sl (rowsOf eI y1.label), .lit (.int .i64 y1.watch)]] ++ k_v2) [] (.lit (.bool r)) []) (hc_v2 : KC k_v2) (hm_v2 : mdT f_v2 = ⟨[], false⟩) {res : Bool} (h : m_slices_EqualFunc_Node v0 v1 v2 = some res) : CallOk Go.Proofs.Try.prog 177 [.sl (rowsOf GNode.encS v0), .sl (rowsOf GNode.encS v1), .fn f_v2 k_v2] [] (.lit (.bool res)) [] := by
  refine callOk_of (ra := []) (md := mdT) hT (hi := hi177) Go.Proofs.Try.func177 rfl rfl (by decide +kernel) (by simp) ?_
  unfold m_slices_EqualFunc_Node at h
  rcases ite_some h with ⟨h1, h⟩ | ⟨h1, h⟩
  · obtain ⟨q1004, l2, h⟩ := obnd_some h
    simp -implicitDefEqProofs -dsimp only [go_sem, hc_v2.1, hc_v2.2, hm_v2, (eq_true h1)]
    refine loopW_loopO (m1 := .mk) (m2 := .mk) [.nf [1, 2, 15, 16, 17] []] (m_slices_EqualFunc_Node_L1_St v1 f_v2 k_v2 v0 ((v0.length : Nat) : Int)) l2 ?_ ?_
    · simp -implicitDefEqProofs -dsimp only [go_sem, hc_v2.1, hc_v2.2, hm_v2, (eq_true h1)]
    · intro nb3 sb3 bb3 b3 gb3
      obtain ⟨v17_1, eb3⟩ : ∃ v, v = sb3 := ⟨_, rfl⟩; subst eb3
      unfold m_slices_EqualFunc_Node_L1 at b3
      try dsimp only at b3
      rcases ite_some b3 with ⟨h4, b3⟩ | ⟨h4, b3⟩
      · obtain ⟨x1001, g5, b3⟩ := obnd_some b3
        obtain ⟨h6, h7, h8⟩ := getI_some g5
        obtain ⟨x1002, g9, b3⟩ := obnd_some b3
        obtain ⟨h10, h11, h12⟩ := getI_some g9
        obtain ⟨r1003, g13, b3⟩ := obnd_some b3
        simp -implicitDefEqProofs -dsimp only [go_sem, hc_v2.1, hc_v2.2, hm_v2, (eq_true h1), (eq_true h4), h6, h7, h8, h10, h11, h12]
        refine callW_of (hp_v2 _ _ _ g13) ?_
        rcases ite_some b3 with ⟨h14, b3⟩ | ⟨h14, b3⟩
        · cases b3
          simp -implicitDefEqProofs -dsimp only [go_sem, hc_v2.1, hc_v2.2, hm_v2, (eq_true h1), (eq_true h4), h6, h7, h8, h10, h11, h12, (eq_true h14), (condZ_t h14)]
          refine next_of gb3 ?_
          simp -implicitDefEqProofs -dsimp only [go_sem, hc_v2.1, hc_v2.2, hm_v2, (eq_true h1), (eq_true h4), h6, h7, h8, h10, h11, h12, (eq_true h14), (condZ_t h14)]
        · cases b3
          have e15 := done_of gb3
          subst e15
          try dsimp only at h
          cases h
          simp -implicitDefEqProofs -dsimp only [go_sem, hc_v2.1, hc_v2.2, hm_v2, (eq_true h1), (eq_true h4), h6, h7, h8, h10, h11, h12, (eq_false h14), (condZ_f h14)]
      · cases b3
        have e16 := done_of gb3
        subst e16
        try dsimp only at h
        cases h
        simp -implicitDefEqProofs -dsimp only [go_sem, hc_v2.1, hc_v2.2, hm_v2, (eq_true h1), (eq_false h4)]
  · cases h
    simp -implicitDefEqProofs -dsimp only [go_sem, hc_v2.1, hc_v2.2, hm_v2, (eq_false h1)]
/- 178 loop.example/g00827/impl.sameNodes -/
def hi178 : Hint where
  acts := fun _ => []
  draws := fun
    | _ => ⟨.nil, [], []⟩
theorem hi178a (i : Nat) : hi178.acts i = [] := rfl
theorem hi178v (i : Nat) : hi178.views i = none := rfl
attribute [go_sem] hi178a hi178v Go.Proofs.Try.ntmps178 Go.Proofs.Try.results178
theorem c_impl_sameNodes {a : GNode} {b : GNode} {res : Bool} (h : m_impl_sameNodes a b = some res) : CallOk Go.Proofs.Try.prog 178 [.agg [.lit (.string a.name), .sl (rowsOf eI a.label), .lit (.int .i64 a.watch)], .agg [.lit (.string b.name), .sl (rowsOf eI b.label), .lit (.int .i64 b.watch)]] [] (.lit (.bool res)) [] := by
  refine callOk_of (ra := []) (md := mdT) hT (hi := hi178) Go.Proofs.Try.func178 rfl rfl (by decide +kernel) (by simp) ?_
  unfold m_impl_sameNodes at h
  rcases ite_some h with ⟨h1, h⟩ | ⟨h1, h⟩
  · obtain ⟨r1001, g2, h⟩ := obnd_some h
    simp -implicitDefEqProofs -dsimp only [go_sem, (eq_true h1)]
    refine callW_of (c_slices_Equal_int g2) ?_
    rcases ite_some h with ⟨h3, h⟩ | ⟨h3, h⟩
    · cases h
      simp -implicitDefEqProofs -dsimp only [go_sem, (eq_true h1), (eq_true h3), (condZ_t h3)]
    · cases h
      simp -implicitDefEqProofs -dsimp only [go_sem, (eq_true h1), (eq_false h3), (condZ_f h3)]
  · cases h
    simp -implicitDefEqProofs -dsimp only [go_sem, (eq_false h1)]
/- 179 slices.Equal[[]loop.example/g00827/impl.Tie,loop.example/g00827/impl.Tie] -/
def m_slices_Equal_Tie_L1_St (v0 : List GTie) (v1 : List GTie) (v12 : Int) (v13 : Int) : St := ⟨[(0, .sl (rowsOf GTie.enc v0)), (1, .sl (rowsOf GTie.enc v1)), (12, .lit (.int .i64 v12)), (13, .lit (.int .i64 v13))], [], 2⟩
attribute [go_sem] m_slices_Equal_Tie_L1_St
def hi179 : Hint where
  acts := fun _ => []
  draws := fun
    | 6 => ⟨.cons ⟨0, false, []⟩ (.cons ⟨1, false, []⟩ (.cons ⟨2, false, []⟩ (.cons ⟨3, false, []⟩ (.cons ⟨4, false, []⟩ (.cons ⟨5, false, []⟩ (.cons ⟨6, false, []⟩ (.cons ⟨7, false, []⟩ (.cons ⟨8, false, []⟩ .nil)))))))), [[], [], [0, 1], [0, 1, 2], [], [], [4, 5], [4, 5, 6], [0, 1, 2, 3, 4, 5, 6, 7]], [0, 1, 2, 3, 4, 5, 6, 7, 8]⟩
    | _ => ⟨.nil, [], []⟩
theorem hi179a (i : Nat) : hi179.acts i = [] := rfl
theorem hi179v (i : Nat) : hi179.views i = none := rfl
attribute [go_sem] hi179a hi179v Go.Proofs.Try.ntmps179 Go.Proofs.Try.results179
@[go_sem] theorem hi179d6 : (hi179.draws 6).order = .cons ⟨0, false, []⟩ (.cons ⟨1, false, []⟩ (.cons ⟨2, false, []⟩ (.cons ⟨3, false, []⟩ (.cons ⟨4, false, []⟩ (.cons ⟨5, false, []⟩ (.cons ⟨6, false, []⟩ (.cons ⟨7, false, []⟩ (.cons ⟨8, false, []⟩ .nil)))))))) := rfl
theorem c_slices_Equal_Tie {v0 : List GTie} {v1 : List GTie} {res : Bool} (h : m_slices_Equal_Tie v0 v1 = some res) : CallOk Go.Proofs.Try.prog 179 [.sl (rowsOf GTie.enc v0), .sl (rowsOf GTie.enc v1)] [] (.lit (.bool res)) [] := by
  refine callOk_of (ra := []) (md := mdT) hT (hi := hi179) Go.Proofs.Try.func179 rfl rfl (by decide +kernel) (by simp) ?_
  unfold m_slices_Equal_Tie at h
  rcases ite_some h with ⟨h1, h⟩ | ⟨h1, h⟩
  · obtain ⟨q1003, l2, h⟩ := obnd_some h
    simp -implicitDefEqProofs -dsimp only [go_sem, (eq_true h1)]
    refine loopW_loopO (m1 := .mk) (m2 := .mk) [.nf [0, 1, 12, 13] []] (m_slices_Equal_Tie_L1_St v0 v1 ((v0.length : Nat) : Int)) l2 ?_ ?_
    · simp -implicitDefEqProofs -dsimp only [go_sem, (eq_true h1)]
    · intro nb3 sb3 bb3 b3 gb3
      obtain ⟨v13_1, eb3⟩ : ∃ v, v = sb3 := ⟨_, rfl⟩; subst eb3
      unfold m_slices_Equal_Tie_L1 at b3
      try dsimp only at b3
      rcases ite_some b3 with ⟨h4, b3⟩ | ⟨h4, b3⟩
      · obtain ⟨x1001, g5, b3⟩ := obnd_some b3
        obtain ⟨h6, h7, h8⟩ := getI_some g5
        obtain ⟨x1002, g9, b3⟩ := obnd_some b3
        obtain ⟨h10, h11, h12⟩ := getI_some g9
        rcases ite_some b3 with ⟨h13, b3⟩ | ⟨h13, b3⟩
        · cases b3
          simp -implicitDefEqProofs -dsimp only [go_sem, (eq_true h1), (eq_true h4), h6, h7, h8, h10, h11, h12, (eq_true h13), (condZ_t h13)]
          refine next_of gb3 ?_
          simp -implicitDefEqProofs -dsimp only [go_sem, (eq_true h1), (eq_true h4), h6, h7, h8, h10, h11, h12, (eq_true h13), (condZ_t h13)]
        · cases b3
          have e14 := done_of gb3
          subst e14
          try dsimp only at h
          cases h
          simp -implicitDefEqProofs -dsimp only [go_sem, (eq_true h1), (eq_true h4), h6, h7, h8, h10, h11, h12, (eq_false h13), (condZ_f h13)]
      · cases b3
        have e15 := done_of gb3
        subst e15
        try dsimp only at h
        cases h
        simp -implicitDefEqProofs -dsimp only [go_sem, (eq_true h1), (eq_false h4)]
  · cases h
    simp -implicitDefEqProofs -dsimp only [go_sem, (eq_false h1)]
/- 114 loop.example/g00827/impl.SameShows -/
def hi114 : Hint where
  acts := fun _ => []
  draws := fun
    | _ => ⟨.nil, [], []⟩
theorem hi114a (i : Nat) : hi114.acts i = [] := rfl
theorem hi114v (i : Nat) : hi114.views i = none := rfl
attribute [go_sem] hi114a hi114v Go.Proofs.Try.ntmps114 Go.Proofs.Try.results114
theorem c_impl_SameShows {a : GShow} {b : GShow} {res : Bool} (h : m_impl_SameShows a b = some res) : CallOk Go.Proofs.Try.prog 114 [.agg [.sl (rowsOf GNode.encS a.nodes), .sl (rowsOf GTie.enc a.ties), .lit (.int .i64 a.horizon)], .agg [.sl (rowsOf GNode.encS b.nodes), .sl (rowsOf GTie.enc b.ties), .lit (.int .i64 b.horizon)]] [] (.lit (.bool res)) [] := by
  refine callOk_of (ra := []) (md := mdT) hT (hi := hi114) Go.Proofs.Try.func114 rfl rfl (by decide +kernel) (by simp) ?_
  unfold m_impl_SameShows at h
  obtain ⟨r1001, g1, h⟩ := obnd_some h
  simp -implicitDefEqProofs -dsimp only [go_sem]
  refine callW_of (c_slices_EqualFunc_Node (by exact fun _ _ _ hr => c_impl_sameNodes hr) (by refine ⟨fun _ => ?_, fun _ => ?_⟩ <;> simp only [go_sem]) (by rfl) g1) ?_
  rcases ite_some h with ⟨h2, h⟩ | ⟨h2, h⟩
  · obtain ⟨r1002, g3, h⟩ := obnd_some h
    simp -implicitDefEqProofs -dsimp only [go_sem, (eq_true h2), (condZ_t h2)]
    refine callW_of (c_slices_Equal_Tie g3) ?_
    rcases ite_some h with ⟨h4, h⟩ | ⟨h4, h⟩
    · cases h
      simp -implicitDefEqProofs -dsimp only [go_sem, (eq_true h2), (condZ_t h2), (eq_true h4), (condZ_t h4)]
    · cases h
      simp -implicitDefEqProofs -dsimp only [go_sem, (eq_true h2), (condZ_t h2), (eq_false h4), (condZ_f h4)]
  · cases h
    simp -implicitDefEqProofs -dsimp only [go_sem, (eq_false h2), (condZ_f h2)]
/- 115 loop.example/g00827/impl.SameStates -/
def hi115 : Hint where
  acts := fun _ => []
  draws := fun
    | _ => ⟨.nil, [], []⟩
theorem hi115a (i : Nat) : hi115.acts i = [] := rfl
theorem hi115v (i : Nat) : hi115.views i = none := rfl
attribute [go_sem] hi115a hi115v Go.Proofs.Try.ntmps115 Go.Proofs.Try.results115
theorem c_impl_SameStates {a : GState} {b : GState} {res : Bool} (h : m_impl_SameStates a b = some res) : CallOk Go.Proofs.Try.prog 115 [.agg [.lit (.int .i64 a.now), .sl (rowsOf eI a.times), .sl (rowsOf eI a.values)], .agg [.lit (.int .i64 b.now), .sl (rowsOf eI b.times), .sl (rowsOf eI b.values)]] [] (.lit (.bool res)) [] := by
  refine callOk_of (ra := []) (md := mdT) hT (hi := hi115) Go.Proofs.Try.func115 rfl rfl (by decide +kernel) (by simp) ?_
  unfold m_impl_SameStates at h
  rcases ite_some h with ⟨h1, h⟩ | ⟨h1, h⟩
  · obtain ⟨r1001, g2, h⟩ := obnd_some h
    simp -implicitDefEqProofs -dsimp only [go_sem, (eq_true h1)]
    refine callW_of (c_slices_Equal_int g2) ?_
    rcases ite_some h with ⟨h3, h⟩ | ⟨h3, h⟩
    · obtain ⟨r1002, g4, h⟩ := obnd_some h
      simp -implicitDefEqProofs -dsimp only [go_sem, (eq_true h1), (eq_true h3), (condZ_t h3)]
      refine callW_of (c_slices_Equal_int g4) ?_
      cases h
      simp -implicitDefEqProofs -dsimp only [go_sem, (eq_true h1), (eq_true h3), (condZ_t h3)]
    · cases h
      simp -implicitDefEqProofs -dsimp only [go_sem, (eq_true h1), (eq_false h3), (condZ_f h3)]
  · cases h
    simp -implicitDefEqProofs -dsimp only [go_sem, (eq_false h1)]
/- 116 slices.EqualFunc[[]loop.example/g00827/impl.Entry,[]loop.example/g00827/impl.Entry,loop.example/g00827/impl.Entry,loop.example/g00827/impl.Entry] -/
def m_slices_EqualFunc_Entry_L1_St (v1 : List GEntry) (f_v2 : Nat) (k_v2 : List AV) (v15 : List GEntry) (v16 : Int) (v17 : Int) : St := ⟨[(1, .sl (rowsOf GEntry.encS v1)), (2, .fn f_v2 k_v2), (15, .sl (rowsOf GEntry.encS v15)), (16, .lit (.int .i64 v16)), (17, .lit (.int .i64 v17))], [], 2⟩
attribute [go_sem] m_slices_EqualFunc_Entry_L1_St
def hi116 : Hint where
  acts := fun _ => []
  draws := fun
    | _ => ⟨.nil, [], []⟩
theorem hi116a (i : Nat) : hi116.acts i = [] := rfl
theorem hi116v (i : Nat) : hi116.views i = none := rfl
attribute [go_sem] hi116a hi116v Go.Proofs.Try.ntmps116 Go.Proofs.Try.results116
theorem c_slices_EqualFunc_Entry {v0 : List GEntry} {v1 : List GEntry} {v2 : GEntry → GEntry → Option Bool} {f_v2 : Nat} {k_v2 : List AV} (hp_v2 : ∀ y0 y1 r, v2 y0 y1 = some r → CallOk Go.Proofs.Try.prog f_v2 ([.agg [.lit (.int .i64 y0.now), .sl (rowsOf eI y0.ties), .sl (rowsOf eI y0.nodes), .sl (rowsOf eI y0.values)], .agg [.lit (.int .i64 y1.now), .sl (rowsOf eI y1.ties), .sl (rowsOf eI y1.nodes), .sl (rowsOf eI y1.values)]] ++ k_v2) [] (.lit (.bool r)) []) (hc_v2 : KC k_v2) (hm_v2 : mdT f_v2 = ⟨[], false⟩) {res : Bool} (h : m_slices_EqualFunc_Entry v0 v1 v2 = some res) : CallOk Go.Proofs.Try.prog 116 [.sl (rowsOf GEntry.encS v0), .sl (rowsOf GEntry.encS v1), .fn f_v2 k_v2] [] (.lit (.bool res)) [] := by
  refine callOk_of (ra := []) (md := mdT) hT (hi := hi116) Go.Proofs.Try.func116 rfl rfl (by decide +kernel) (by simp) ?_
  unfold m_slices_EqualFunc_Entry at h
  rcases ite_some h with ⟨h1, h⟩ | ⟨h1, h⟩
  · obtain ⟨q1004, l2, h⟩ := obnd_some h
    simp -implicitDefEqProofs -dsimp only [go_sem, hc_v2.1, hc_v2.2, hm_v2, (eq_true h1)]
    refine loopW_loopO (m1 := .mk) (m2 := .mk) [.nf [1, 2, 15, 16, 17] []] (m_slices_EqualFunc_Entry_L1_St v1 f_v2 k_v2 v0 ((v0.length : Nat) : Int)) l2 ?_ ?_
    · simp -implicitDefEqProofs -dsimp only [go_sem, hc_v2.1, hc_v2.2, hm_v2, (eq_true h1)]
    · intro nb3 sb3 bb3 b3 gb3
      obtain ⟨v17_1, eb3⟩ : ∃ v, v = sb3 := ⟨_, rfl⟩; subst eb3
      unfold m_slices_EqualFunc_Entry_L1 at b3
      try dsimp only at b3
      rcases ite_some b3 with ⟨h4, b3⟩ | ⟨h4, b3⟩
      · obtain ⟨x1001, g5, b3⟩ := obnd_some b3
        obtain ⟨h6, h7, h8⟩ := getI_some g5
        obtain ⟨x1002, g9, b3⟩ := obnd_some b3
        obtain ⟨h10, h11, h12⟩ := getI_some g9
        obtain ⟨r1003, g13, b3⟩ := obnd_some b3
        simp -implicitDefEqProofs -dsimp only [go_sem, hc_v2.1, hc_v2.2, hm_v2, (eq_true h1), (eq_true h4), h6, h7, h8, h10, h11, h12]
        refine callW_of (hp_v2 _ _ _ g13) ?_
        rcases ite_some b3 with ⟨h14, b3⟩ | ⟨h14, b3⟩
        · cases b3
          simp -implicitDefEqProofs -dsimp only [go_sem, hc_v2.1, hc_v2.2, hm_v2, (eq_true h1), (eq_true h4), h6, h7, h8, h10, h11, h12, (eq_true h14), (condZ_t h14)]
          refine next_of gb3 ?_
          simp -implicitDefEqProofs -dsimp only [go_sem, hc_v2.1, hc_v2.2, hm_v2, (eq_true h1), (eq_true h4), h6, h7, h8, h10, h11, h12, (eq_true h14), (condZ_t h14)]
        · cases b3
          have e15 := done_of gb3
          subst e15
          try dsimp only at h
          cases h
          simp -implicitDefEqProofs -dsimp only [go_sem, hc_v2.1, hc_v2.2, hm_v2, (eq_true h1), (eq_true h4), h6, h7, h8, h10, h11, h12, (eq_false h14), (condZ_f h14)]
      · cases b3
        have e16 := done_of gb3
        subst e16
        try dsimp only at h
        cases h
        simp -implicitDefEqProofs -dsimp only [go_sem, hc_v2.1, hc_v2.2, hm_v2, (eq_true h1), (eq_false h4)]
  · cases h
    simp -implicitDefEqProofs -dsimp only [go_sem, hc_v2.1, hc_v2.2, hm_v2, (eq_false h1)]
/- 117 loop.example/g00827/impl.sameEntries -/
def hi117 : Hint where
  acts := fun _ => []
  draws := fun
    | _ => ⟨.nil, [], []⟩
theorem hi117a (i : Nat) : hi117.acts i = [] := rfl
theorem hi117v (i : Nat) : hi117.views i = none := rfl
attribute [go_sem] hi117a hi117v Go.Proofs.Try.ntmps117 Go.Proofs.Try.results117
theorem c_impl_sameEntries {a : GEntry} {b : GEntry} {res : Bool} (h : m_impl_sameEntries a b = some res) : CallOk Go.Proofs.Try.prog 117 [.agg [.lit (.int .i64 a.now), .sl (rowsOf eI a.ties), .sl (rowsOf eI a.nodes), .sl (rowsOf eI a.values)], .agg [.lit (.int .i64 b.now), .sl (rowsOf eI b.ties), .sl (rowsOf eI b.nodes), .sl (rowsOf eI b.values)]] [] (.lit (.bool res)) [] := by
  refine callOk_of (ra := []) (md := mdT) hT (hi := hi117) Go.Proofs.Try.func117 rfl rfl (by decide +kernel) (by simp) ?_
  unfold m_impl_sameEntries at h
  rcases ite_some h with ⟨h1, h⟩ | ⟨h1, h⟩
  · obtain ⟨r1001, g2, h⟩ := obnd_some h
    simp -implicitDefEqProofs -dsimp only [go_sem, (eq_true h1)]
    refine callW_of (c_slices_Equal_int g2) ?_
    rcases ite_some h with ⟨h3, h⟩ | ⟨h3, h⟩
    · obtain ⟨r1002, g4, h⟩ := obnd_some h
      simp -implicitDefEqProofs -dsimp only [go_sem, (eq_true h1), (eq_true h3), (condZ_t h3)]
      refine callW_of (c_slices_Equal_int g4) ?_
      rcases ite_some h with ⟨h5, h⟩ | ⟨h5, h⟩
      · obtain ⟨r1003, g6, h⟩ := obnd_some h
        simp -implicitDefEqProofs -dsimp only [go_sem, (eq_true h1), (eq_true h3), (condZ_t h3), (eq_true h5), (condZ_t h5)]
        refine callW_of (c_slices_Equal_int g6) ?_
        cases h
        simp -implicitDefEqProofs -dsimp only [go_sem, (eq_true h1), (eq_true h3), (condZ_t h3), (eq_true h5), (condZ_t h5)]
      · cases h
        simp -implicitDefEqProofs -dsimp only [go_sem, (eq_true h1), (eq_true h3), (condZ_t h3), (eq_false h5), (condZ_f h5)]
    · cases h
      simp -implicitDefEqProofs -dsimp only [go_sem, (eq_true h1), (eq_false h3), (condZ_f h3)]
  · cases h
    simp -implicitDefEqProofs -dsimp only [go_sem, (eq_false h1)]
/- 40 loop.example/g00827/impl.SameDesks -/
def hi40 : Hint where
  acts := fun _ => []
  draws := fun
    | _ => ⟨.nil, [], []⟩
theorem hi40a (i : Nat) : hi40.acts i = [] := rfl
theorem hi40v (i : Nat) : hi40.views i = none := rfl
attribute [go_sem] hi40a hi40v Go.Proofs.Try.ntmps40 Go.Proofs.Try.results40
theorem c_impl_SameDesks {a : GDesk} {b : GDesk} {res : Bool} (h : m_impl_SameDesks a b = some res) : CallOk Go.Proofs.Try.prog 40 [.agg [.sl (rowsOf GNode.encS a.show_.nodes), .sl (rowsOf GTie.enc a.show_.ties), .lit (.int .i64 a.show_.horizon), .lit (.int .i64 a.state.now), .sl (rowsOf eI a.state.times), .sl (rowsOf eI a.state.values), .lit (.bool a.lazy), .sl (rowsOf GEntry.encS a.log)], .agg [.sl (rowsOf GNode.encS b.show_.nodes), .sl (rowsOf GTie.enc b.show_.ties), .lit (.int .i64 b.show_.horizon), .lit (.int .i64 b.state.now), .sl (rowsOf eI b.state.times), .sl (rowsOf eI b.state.values), .lit (.bool b.lazy), .sl (rowsOf GEntry.encS b.log)]] [] (.lit (.bool res)) [] := by
  refine callOk_of (ra := []) (md := mdT) hT (hi := hi40) Go.Proofs.Try.func40 rfl rfl (by decide +kernel) (by simp) ?_
  unfold m_impl_SameDesks at h
  obtain ⟨r1001, g1, h⟩ := obnd_some h
  simp -implicitDefEqProofs -dsimp only [go_sem]
  refine callW_of (c_impl_SameShows g1) ?_
  rcases ite_some h with ⟨h2, h⟩ | ⟨h2, h⟩
  · obtain ⟨r1002, g3, h⟩ := obnd_some h
    simp -implicitDefEqProofs -dsimp only [go_sem, (eq_true h2), (condZ_t h2)]
    refine callW_of (c_impl_SameStates g3) ?_
    rcases ite_some h with ⟨h4, h⟩ | ⟨h4, h⟩
    · rcases ite_some h with ⟨h5, h⟩ | ⟨h5, h⟩
      · obtain ⟨r1003, g6, h⟩ := obnd_some h
        simp -implicitDefEqProofs -dsimp only [go_sem, (eq_true h2), (condZ_t h2), (eq_true h4), (condZ_t h4), (eq_true h5)]
        refine callW_of (c_slices_EqualFunc_Entry (by exact fun _ _ _ hr => c_impl_sameEntries hr) (by refine ⟨fun _ => ?_, fun _ => ?_⟩ <;> simp only [go_sem]) (by rfl) g6) ?_
        cases h
        simp -implicitDefEqProofs -dsimp only [go_sem, (eq_true h2), (condZ_t h2), (eq_true h4), (condZ_t h4), (eq_true h5)]
      · cases h
        simp -implicitDefEqProofs -dsimp only [go_sem, (eq_true h2), (condZ_t h2), (eq_true h4), (condZ_t h4), (eq_false h5)]
    · cases h
      simp -implicitDefEqProofs -dsimp only [go_sem, (eq_true h2), (condZ_t h2), (eq_false h4), (condZ_f h4)]
  · cases h
    simp -implicitDefEqProofs -dsimp only [go_sem, (eq_false h2), (condZ_f h2)]
/- 67 loop.example/g00827/laws.eqState -/
def hi67 : Hint where
  acts := fun _ => []
  draws := fun
    | _ => ⟨.nil, [], []⟩
theorem hi67a (i : Nat) : hi67.acts i = [] := rfl
theorem hi67v (i : Nat) : hi67.views i = none := rfl
attribute [go_sem] hi67a hi67v Go.Proofs.Try.ntmps67 Go.Proofs.Try.results67
theorem c_laws_eqState {a : GState} {b : GState} {res : Bool} (h : m_laws_eqState a b = some res) : CallOk Go.Proofs.Try.prog 67 [.agg [.lit (.int .i64 a.now), .sl (rowsOf eI a.times), .sl (rowsOf eI a.values)], .agg [.lit (.int .i64 b.now), .sl (rowsOf eI b.times), .sl (rowsOf eI b.values)]] [] (.lit (.bool res)) [] := by
  refine callOk_of (ra := []) (md := mdT) hT (hi := hi67) Go.Proofs.Try.func67 rfl rfl (by decide +kernel) (by simp) ?_
  unfold m_laws_eqState at h
  rcases ite_some h with ⟨h1, h⟩ | ⟨h1, h⟩
  · obtain ⟨r1001, g2, h⟩ := obnd_some h
    simp -implicitDefEqProofs -dsimp only [go_sem, (eq_true h1)]
    refine callW_of (c_laws_eqIntS g2) ?_
    rcases ite_some h with ⟨h3, h⟩ | ⟨h3, h⟩
    · obtain ⟨r1002, g4, h⟩ := obnd_some h
      simp -implicitDefEqProofs -dsimp only [go_sem, (eq_true h1), (eq_true h3), (condZ_t h3)]
      refine callW_of (c_laws_eqIntS g4) ?_
      rcases ite_some h with ⟨h5, h⟩ | ⟨h5, h⟩
      · cases h
        simp -implicitDefEqProofs -dsimp only [go_sem, (eq_true h1), (eq_true h3), (condZ_t h3), (eq_true h5), (condZ_t h5)]
      · cases h
        simp -implicitDefEqProofs -dsimp only [go_sem, (eq_true h1), (eq_true h3), (condZ_t h3), (eq_false h5), (condZ_f h5)]
    · cases h
      simp -implicitDefEqProofs -dsimp only [go_sem, (eq_true h1), (eq_false h3), (condZ_f h3)]
  · cases h
    simp -implicitDefEqProofs -dsimp only [go_sem, (eq_false h1)]
/- 180 loop.example/g00827/laws.eqEntry -/
def hi180 : Hint where
  acts := fun _ => []
  draws := fun
    | _ => ⟨.nil, [], []⟩
theorem hi180a (i : Nat) : hi180.acts i = [] := rfl
theorem hi180v (i : Nat) : hi180.views i = none := rfl
attribute [go_sem] hi180a hi180v Go.Proofs.Try.ntmps180 Go.Proofs.Try.results180
theorem c_laws_eqEntry {a : GEntry} {b : GEntry} {res : Bool} (h : m_laws_eqEntry a b = some res) : CallOk Go.Proofs.Try.prog 180 [.agg [.lit (.int .i64 a.now), .sl (rowsOf eI a.ties), .sl (rowsOf eI a.nodes), .sl (rowsOf eI a.values)], .agg [.lit (.int .i64 b.now), .sl (rowsOf eI b.ties), .sl (rowsOf eI b.nodes), .sl (rowsOf eI b.values)]] [] (.lit (.bool res)) [] := by
  refine callOk_of (ra := []) (md := mdT) hT (hi := hi180) Go.Proofs.Try.func180 rfl rfl (by decide +kernel) (by simp) ?_
  unfold m_laws_eqEntry at h
  rcases ite_some h with ⟨h1, h⟩ | ⟨h1, h⟩
  · obtain ⟨r1001, g2, h⟩ := obnd_some h
    simp -implicitDefEqProofs -dsimp only [go_sem, (eq_true h1)]
    refine callW_of (c_laws_eqIntS g2) ?_
    rcases ite_some h with ⟨h3, h⟩ | ⟨h3, h⟩
    · obtain ⟨r1002, g4, h⟩ := obnd_some h
      simp -implicitDefEqProofs -dsimp only [go_sem, (eq_true h1), (eq_true h3), (condZ_t h3)]
      refine callW_of (c_laws_eqIntS g4) ?_
      rcases ite_some h with ⟨h5, h⟩ | ⟨h5, h⟩
      · obtain ⟨r1003, g6, h⟩ := obnd_some h
        simp -implicitDefEqProofs -dsimp only [go_sem, (eq_true h1), (eq_true h3), (condZ_t h3), (eq_true h5), (condZ_t h5)]
        refine callW_of (c_laws_eqIntS g6) ?_
        rcases ite_some h with ⟨h7, h⟩ | ⟨h7, h⟩
        · cases h
          simp -implicitDefEqProofs -dsimp only [go_sem, (eq_true h1), (eq_true h3), (condZ_t h3), (eq_true h5), (condZ_t h5), (eq_true h7), (condZ_t h7)]
        · cases h
          simp -implicitDefEqProofs -dsimp only [go_sem, (eq_true h1), (eq_true h3), (condZ_t h3), (eq_true h5), (condZ_t h5), (eq_false h7), (condZ_f h7)]
      · cases h
        simp -implicitDefEqProofs -dsimp only [go_sem, (eq_true h1), (eq_true h3), (condZ_t h3), (eq_false h5), (condZ_f h5)]
    · cases h
      simp -implicitDefEqProofs -dsimp only [go_sem, (eq_true h1), (eq_false h3), (condZ_f h3)]
  · cases h
    simp -implicitDefEqProofs -dsimp only [go_sem, (eq_false h1)]
/- 118 loop.example/g00827/laws.eqEntryS -/
def m_laws_eqEntryS_L1_St (a : List GEntry) (b : List GEntry) (i : Int) : St := ⟨[(0, .sl (rowsOf GEntry.encS a)), (1, .sl (rowsOf GEntry.encS b)), (5, .lit (.int .i64 i))], [], 2⟩
attribute [go_sem] m_laws_eqEntryS_L1_St
def hi118 : Hint where
  acts := fun _ => []
  draws := fun
    | 6 => ⟨.cons ⟨0, false, []⟩ (.cons ⟨1, false, []⟩ (.cons ⟨2, false, []⟩ (.cons ⟨3, false, []⟩ (.cons ⟨4, false, []⟩ (.cons ⟨5, false, []⟩ (.cons ⟨6, false, []⟩ (.cons ⟨7, false, []⟩ (.cons ⟨8, false, []⟩ (.cons ⟨9, false, []⟩ .nil))))))))), [[], [], [0, 1], [0, 1, 2], [], [], [4, 5], [4, 5, 6], [0, 1, 2, 3, 4, 5, 6, 7], [0, 1, 2, 3, 4, 5, 6, 7, 8]], [0, 1, 2, 3, 4, 5, 6, 7, 8, 9]⟩
    | _ => ⟨.nil, [], []⟩
theorem hi118a (i : Nat) : hi118.acts i = [] := rfl
theorem hi118v (i : Nat) : hi118.views i = none := rfl
attribute [go_sem] hi118a hi118v Go.Proofs.Try.ntmps118 Go.Proofs.Try.results118
@[go_sem] theorem hi118d6 : (hi118.draws 6).order = .cons ⟨0, false, []⟩ (.cons ⟨1, false, []⟩ (.cons ⟨2, false, []⟩ (.cons ⟨3, false, []⟩ (.cons ⟨4, false, []⟩ (.cons ⟨5, false, []⟩ (.cons ⟨6, false, []⟩ (.cons ⟨7, false, []⟩ (.cons ⟨8, false, []⟩ (.cons ⟨9, false, []⟩ .nil))))))))) := rfl
theorem c_laws_eqEntryS {a : List GEntry} {b : List GEntry} {res : Bool} (h : m_laws_eqEntryS a b = some res) : CallOk Go.Proofs.Try.prog 118 [.sl (rowsOf GEntry.encS a), .sl (rowsOf GEntry.encS b)] [] (.lit (.bool res)) [] := by
  refine callOk_of (ra := []) (md := mdT) hT (hi := hi118) Go.Proofs.Try.func118 rfl rfl (by decide +kernel) (by simp) ?_
  unfold m_laws_eqEntryS at h
  rcases ite_some h with ⟨h1, h⟩ | ⟨h1, h⟩
  · obtain ⟨q1004, l2, h⟩ := obnd_some h
    simp -implicitDefEqProofs -dsimp only [go_sem, (eq_true h1)]
    refine loopW_loopO (m1 := .mk) (m2 := .mk) [.nf [0, 1, 5] []] (m_laws_eqEntryS_L1_St a b) l2 ?_ ?_
    · simp -implicitDefEqProofs -dsimp only [go_sem, (eq_true h1)]
    · intro nb3 sb3 bb3 b3 gb3
      obtain ⟨i_1, eb3⟩ : ∃ v, v = sb3 := ⟨_, rfl⟩; subst eb3
      unfold m_laws_eqEntryS_L1 at b3
      try dsimp only at b3
      rcases ite_some b3 with ⟨h4, b3⟩ | ⟨h4, b3⟩
      · obtain ⟨x1001, g5, b3⟩ := obnd_some b3
        obtain ⟨h6, h7, h8⟩ := getI_some g5
        obtain ⟨x1002, g9, b3⟩ := obnd_some b3
        obtain ⟨h10, h11, h12⟩ := getI_some g9
        obtain ⟨r1003, g13, b3⟩ := obnd_some b3
        simp -implicitDefEqProofs -dsimp only [go_sem, (eq_true h1), (eq_true h4), h6, h7, h8, h10, h11, h12]
        refine callW_of (c_laws_eqEntry g13) ?_
        rcases ite_some b3 with ⟨h14, b3⟩ | ⟨h14, b3⟩
        · cases b3
          simp -implicitDefEqProofs -dsimp only [go_sem, (eq_true h1), (eq_true h4), h6, h7, h8, h10, h11, h12, (eq_true h14), (condZ_t h14)]
          refine next_of gb3 ?_
          simp -implicitDefEqProofs -dsimp only [go_sem, (eq_true h1), (eq_true h4), h6, h7, h8, h10, h11, h12, (eq_true h14), (condZ_t h14)]
        · cases b3
          have e15 := done_of gb3
          subst e15
          try dsimp only at h
          cases h
          simp -implicitDefEqProofs -dsimp only [go_sem, (eq_true h1), (eq_true h4), h6, h7, h8, h10, h11, h12, (eq_false h14), (condZ_f h14)]
      · cases b3
        have e16 := done_of gb3
        subst e16
        try dsimp only at h
        cases h
        simp -implicitDefEqProofs -dsimp only [go_sem, (eq_true h1), (eq_false h4)]
  · cases h
    simp -implicitDefEqProofs -dsimp only [go_sem, (eq_false h1)]
/- 41 loop.example/g00827/laws.eqDesk -/
def hi41 : Hint where
  acts := fun _ => []
  draws := fun
    | _ => ⟨.nil, [], []⟩
theorem hi41a (i : Nat) : hi41.acts i = [] := rfl
theorem hi41v (i : Nat) : hi41.views i = none := rfl
attribute [go_sem] hi41a hi41v Go.Proofs.Try.ntmps41 Go.Proofs.Try.results41
theorem c_laws_eqDesk {a : GDesk} {b : GDesk} {res : Bool} (h : m_laws_eqDesk a b = some res) : CallOk Go.Proofs.Try.prog 41 [.agg [.sl (rowsOf GNode.encS a.show_.nodes), .sl (rowsOf GTie.enc a.show_.ties), .lit (.int .i64 a.show_.horizon), .lit (.int .i64 a.state.now), .sl (rowsOf eI a.state.times), .sl (rowsOf eI a.state.values), .lit (.bool a.lazy), .sl (rowsOf GEntry.encS a.log)], .agg [.sl (rowsOf GNode.encS b.show_.nodes), .sl (rowsOf GTie.enc b.show_.ties), .lit (.int .i64 b.show_.horizon), .lit (.int .i64 b.state.now), .sl (rowsOf eI b.state.times), .sl (rowsOf eI b.state.values), .lit (.bool b.lazy), .sl (rowsOf GEntry.encS b.log)]] [] (.lit (.bool res)) [] := by
  refine callOk_of (ra := []) (md := mdT) hT (hi := hi41) Go.Proofs.Try.func41 rfl rfl (by decide +kernel) (by simp) ?_
  unfold m_laws_eqDesk at h
  obtain ⟨r1001, g1, h⟩ := obnd_some h
  simp -implicitDefEqProofs -dsimp only [go_sem]
  refine callW_of (c_laws_eqShow g1) ?_
  rcases ite_some h with ⟨h2, h⟩ | ⟨h2, h⟩
  · obtain ⟨r1002, g3, h⟩ := obnd_some h
    simp -implicitDefEqProofs -dsimp only [go_sem, (eq_true h2), (condZ_t h2)]
    refine callW_of (c_laws_eqState g3) ?_
    rcases ite_some h with ⟨h4, h⟩ | ⟨h4, h⟩
    · rcases ite_some h with ⟨h5, h⟩ | ⟨h5, h⟩
      · obtain ⟨r1003, g6, h⟩ := obnd_some h
        simp -implicitDefEqProofs -dsimp only [go_sem, (eq_true h2), (condZ_t h2), (eq_true h4), (condZ_t h4), (eq_true h5)]
        refine callW_of (c_laws_eqEntryS g6) ?_
        rcases ite_some h with ⟨h7, h⟩ | ⟨h7, h⟩
        · cases h
          simp -implicitDefEqProofs -dsimp only [go_sem, (eq_true h2), (condZ_t h2), (eq_true h4), (condZ_t h4), (eq_true h5), (eq_true h7), (condZ_t h7)]
        · cases h
          simp -implicitDefEqProofs -dsimp only [go_sem, (eq_true h2), (condZ_t h2), (eq_true h4), (condZ_t h4), (eq_true h5), (eq_false h7), (condZ_f h7)]
      · cases h
        simp -implicitDefEqProofs -dsimp only [go_sem, (eq_true h2), (condZ_t h2), (eq_true h4), (condZ_t h4), (eq_false h5)]
    · cases h
      simp -implicitDefEqProofs -dsimp only [go_sem, (eq_true h2), (condZ_t h2), (eq_false h4), (condZ_f h4)]
  · cases h
    simp -implicitDefEqProofs -dsimp only [go_sem, (eq_false h2), (condZ_f h2)]
/- 5 loop.example/g00827/laws.FnExactSameDesks -/
def hi5 : Hint where
  acts := fun _ => []
  draws := fun
    | 8 => ⟨.cons ⟨0, false, []⟩ (.cons ⟨2, true, []⟩ (.cons ⟨1, false, [2]⟩ (.cons ⟨3, false, []⟩ (.cons ⟨4, false, []⟩ (.cons ⟨5, false, []⟩ .nil))))), [[], [0], [], [0, 1, 2], [0, 1, 2, 3], [0, 1, 2, 3, 4]], [0, 1, 2, 3, 4, 5]⟩
    | 14 => ⟨.cons ⟨0, true, []⟩ (.cons ⟨1, false, []⟩ (.cons ⟨2, false, [0]⟩ (.cons ⟨3, false, []⟩ (.cons ⟨4, false, []⟩ .nil)))), [[], [], [1], [0, 1, 2], [0, 1, 2, 3]], [0, 1, 2, 3, 4]⟩
    | 16 => ⟨.cons ⟨0, true, []⟩ (.cons ⟨1, false, []⟩ (.cons ⟨2, false, [0]⟩ (.cons ⟨3, false, []⟩ (.cons ⟨4, false, []⟩ .nil)))), [[], [], [1], [0, 1, 2], [0, 1, 2, 3]], [0, 1, 2, 3, 4]⟩
    | _ => ⟨.nil, [], []⟩
theorem hi5a (i : Nat) : hi5.acts i = [] := rfl
theorem hi5v (i : Nat) : hi5.views i = none := rfl
attribute [go_sem] hi5a hi5v Go.Proofs.Try.ntmps5 Go.Proofs.Try.results5
@[go_sem] theorem hi5d8 : (hi5.draws 8).order = .cons ⟨0, false, []⟩ (.cons ⟨2, true, []⟩ (.cons ⟨1, false, [2]⟩ (.cons ⟨3, false, []⟩ (.cons ⟨4, false, []⟩ (.cons ⟨5, false, []⟩ .nil))))) := rfl
@[go_sem] theorem hi5d14 : (hi5.draws 14).order = .cons ⟨0, true, []⟩ (.cons ⟨1, false, []⟩ (.cons ⟨2, false, [0]⟩ (.cons ⟨3, false, []⟩ (.cons ⟨4, false, []⟩ .nil)))) := rfl
@[go_sem] theorem hi5d16 : (hi5.draws 16).order = .cons ⟨0, true, []⟩ (.cons ⟨1, false, []⟩ (.cons ⟨2, false, [0]⟩ (.cons ⟨3, false, []⟩ (.cons ⟨4, false, []⟩ .nil)))) := rfl
theorem c_laws_FnExactSameDesks {aA : GDesk} {aB : GDesk} {res : Bool} (h : m_laws_FnExactSameDesks aA aB = some res) : CallOk Go.Proofs.Try.prog 5 [.agg [.sl (rowsOf GNode.encS aA.show_.nodes), .sl (rowsOf GTie.enc aA.show_.ties), .lit (.int .i64 aA.show_.horizon), .lit (.int .i64 aA.state.now), .sl (rowsOf eI aA.state.times), .sl (rowsOf eI aA.state.values), .lit (.bool aA.lazy), .sl (rowsOf GEntry.encS aA.log)], .agg [.sl (rowsOf GNode.encS aB.show_.nodes), .sl (rowsOf GTie.enc aB.show_.ties), .lit (.int .i64 aB.show_.horizon), .lit (.int .i64 aB.state.now), .sl (rowsOf eI aB.state.times), .sl (rowsOf eI aB.state.values), .lit (.bool aB.lazy), .sl (rowsOf GEntry.encS aB.log)]] [] (.lit (.bool res)) [] := by
  refine callOk_of (ra := []) (md := mdT) hT (hi := hi5) Go.Proofs.Try.func5 rfl rfl (by decide +kernel) (by simp) ?_
  unfold m_laws_FnExactSameDesks at h
  obtain ⟨r1001, g1, h⟩ := obnd_some h
  simp -implicitDefEqProofs -dsimp only [go_sem]
  refine callW_of (c_laws_szDesk g1) ?_
  rcases ite_some h with ⟨h2, h⟩ | ⟨h2, h⟩
  · cases h
    simp -implicitDefEqProofs -dsimp only [go_sem, (eq_true h2)]
  · obtain ⟨r1002, g3, h⟩ := obnd_some h
    simp -implicitDefEqProofs -dsimp only [go_sem, (eq_false h2)]
    refine callW_of (c_laws_szDesk g3) ?_
    rcases ite_some h with ⟨h4, h⟩ | ⟨h4, h⟩
    · cases h
      simp -implicitDefEqProofs -dsimp only [go_sem, (eq_false h2), (eq_true h4)]
    · obtain ⟨r1003, g5, h⟩ := obnd_some h
      simp -implicitDefEqProofs -dsimp only [go_sem, (eq_false h2), (eq_false h4)]
      refine callW_of (c_laws_toDesk g5) ?_
      obtain ⟨r1004, g6, h⟩ := obnd_some h
      simp -implicitDefEqProofs -dsimp only [go_sem, (eq_false h2), (eq_false h4)]
      refine callW_of (c_laws_toDesk g6) ?_
      obtain ⟨r1005, g7, h⟩ := obnd_some h
      simp -implicitDefEqProofs -dsimp only [go_sem, (eq_false h2), (eq_false h4)]
      refine callW_of (c_spec_SameDesks g7) ?_
      obtain ⟨r1006, g8, h⟩ := obnd_some h
      simp -implicitDefEqProofs -dsimp only [go_sem, (eq_false h2), (eq_false h4)]
      refine callW_of (c_laws_toDesk g8) ?_
      obtain ⟨r1007, g9, h⟩ := obnd_some h
      simp -implicitDefEqProofs -dsimp only [go_sem, (eq_false h2), (eq_false h4)]
      refine callW_of (c_laws_toDesk g9) ?_
      obtain ⟨r1008, g10, h⟩ := obnd_some h
      simp -implicitDefEqProofs -dsimp only [go_sem, (eq_false h2), (eq_false h4)]
      refine callW_of (c_impl_SameDesks g10) ?_
      rcases ite_some h with ⟨h11, h⟩ | ⟨h11, h⟩
      · obtain ⟨r1009, g12, h⟩ := obnd_some h
        simp -implicitDefEqProofs -dsimp only [go_sem, (eq_false h2), (eq_false h4), (eq_true h11)]
        refine callW_of (c_laws_toDesk g12) ?_
        obtain ⟨r1010, g13, h⟩ := obnd_some h
        simp -implicitDefEqProofs -dsimp only [go_sem, (eq_false h2), (eq_false h4), (eq_true h11)]
        refine callW_of (c_laws_eqDesk g13) ?_
        rcases ite_some h with ⟨h14, h⟩ | ⟨h14, h⟩
        · obtain ⟨r1011, g15, h⟩ := obnd_some h
          simp -implicitDefEqProofs -dsimp only [go_sem, (eq_false h2), (eq_false h4), (eq_true h11), (eq_true h14), (condZ_t h14)]
          refine callW_of (c_laws_toDesk g15) ?_
          obtain ⟨r1012, g16, h⟩ := obnd_some h
          simp -implicitDefEqProofs -dsimp only [go_sem, (eq_false h2), (eq_false h4), (eq_true h11), (eq_true h14), (condZ_t h14)]
          refine callW_of (c_laws_eqDesk g16) ?_
          rcases ite_some h with ⟨h17, h⟩ | ⟨h17, h⟩
          · cases h
            simp -implicitDefEqProofs -dsimp only [go_sem, (eq_false h2), (eq_false h4), (eq_true h11), (eq_true h14), (condZ_t h14), (eq_true h17), (condZ_t h17)]
          · cases h
            simp -implicitDefEqProofs -dsimp only [go_sem, (eq_false h2), (eq_false h4), (eq_true h11), (eq_true h14), (condZ_t h14), (eq_false h17), (condZ_f h17)]
        · cases h
          simp -implicitDefEqProofs -dsimp only [go_sem, (eq_false h2), (eq_false h4), (eq_true h11), (eq_false h14), (condZ_f h14)]
      · cases h
        simp -implicitDefEqProofs -dsimp only [go_sem, (eq_false h2), (eq_false h4), (eq_false h11)]
end Go.Proofs.YtgmiaokdnpaglaaW
