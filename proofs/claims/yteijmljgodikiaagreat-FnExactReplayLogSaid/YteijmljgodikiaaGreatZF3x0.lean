/- Functions. -/
import Derived.Test.YteijmljgodikiaaGreatZFK1
set_option linter.all false
set_option linter.unusedVariables false
set_option linter.unusedSimpArgs false
set_option maxRecDepth 100000
set_option maxHeartbeats 400000
namespace Go.Proofs.YteijmljgodikiaaGreatZ
open Go
/- 7 loop.example/g00827/spec.ReplayLog -/
def hi7 : Hint where
  acts := fun _ => []
  draws := fun
    | _ => ⟨.nil, [], []⟩
theorem hi7a (i : Nat) : hi7.acts i = [] := rfl
theorem hi7v (i : Nat) : hi7.views i = none := rfl
attribute [go_sem] hi7a hi7v Go.Proofs.Tryz.ntmps7 Go.Proofs.Tryz.results7
theorem c_spec_ReplayLog {s : GShow} {log : List GEntry} {res : GState × Bool} (h : m_spec_ReplayLog s log = some res) : CallOk Go.Proofs.Tryz.prog 7 [.agg [.sl (rowsOf GNode.encS s.nodes), .sl (rowsOf GTie.enc s.ties), .lit (.int .i64 s.horizon)], .sl (rowsOf GEntry.encS log)] [] (.tup [.agg [.lit (.int .i64 res.1.now), .ref 20000 1 0 res.1.times.length, .ref 20001 1 0 res.1.values.length], .lit (.bool res.2)]) [(20000, 1, .row true (rowsOf eI res.1.times)), (20001, 1, .row true (rowsOf eI res.1.values))] := by
  refine callOk_of (ra := [.homeCell 256 1, .homeCell 256 2]) (md := mdT) hT (hi := hi7) Go.Proofs.Tryz.func7 rfl rfl (by decide +kernel) (by simp) ?_
  unfold m_spec_ReplayLog at h
  obtain ⟨r1001, g1, h⟩ := obnd_some h
  simp -implicitDefEqProofs -dsimp only [go_sem]
  refine callW_of (c_spec_l22Replay g1) ?_
  rcases ite_some h with ⟨h2, h⟩ | ⟨h2, h⟩
  · cases h
    simp -implicitDefEqProofs -dsimp only [go_sem, (eq_true h2), (condZ_t h2)]
  · cases h
    simp -implicitDefEqProofs -dsimp only [go_sem, (eq_false h2), (condZ_f h2)]
/- 72 loop.example/g00827/laws.markText -/
def m_laws_markText_L1_St  : (Int × ByteArray) → St
  | (k, out) => ⟨[(0, .lit (.int .i64 k)), (3, .lit (.string out))], [], 2⟩
attribute [go_sem] m_laws_markText_L1_St
def hi72 : Hint where
  acts := fun _ => []
  draws := fun
    | _ => ⟨.nil, [], []⟩
theorem hi72a (i : Nat) : hi72.acts i = [] := rfl
theorem hi72v (i : Nat) : hi72.views i = none := rfl
attribute [go_sem] hi72a hi72v Go.Proofs.Tryz.ntmps72 Go.Proofs.Tryz.results72
theorem c_laws_markText {k : Int} {res : ByteArray} (h : m_laws_markText k = some res) : CallOk Go.Proofs.Tryz.prog 72 [.lit (.int .i64 k)] [] (.lit (.string res)) [] := by
  refine callOk_of (ra := []) (md := mdT) hT (hi := hi72) Go.Proofs.Tryz.func72 rfl rfl (by decide +kernel) (by simp) ?_
  unfold m_laws_markText at h
  rcases ite_some h with ⟨h1, h⟩ | ⟨h1, h⟩
  · cases h
    simp -implicitDefEqProofs -dsimp only [go_sem, (eq_true h1)]
  · obtain ⟨q1001, l2, h⟩ := obnd_some h
    simp -implicitDefEqProofs -dsimp only [go_sem, (eq_false h1)]
    refine loopW_loopO (m1 := .mk) (m2 := .mk) [.nf [0, 3] []] (m_laws_markText_L1_St) l2 ?_ ?_
    · simp -implicitDefEqProofs -dsimp only [go_sem, (eq_false h1)]
    · intro nb3 sb3 bb3 b3 gb3
      obtain ⟨k_1, out_1⟩ := sb3
      unfold m_laws_markText_L1 at b3
      try dsimp only at b3
      rcases ite_some b3 with ⟨h4, b3⟩ | ⟨h4, b3⟩
      · obtain ⟨h5, b3⟩ := chk_some b3
        cases b3
        simp -implicitDefEqProofs -dsimp only [go_sem, (eq_false h1), (eq_true h4), (eq_true h5)]
        refine next_of gb3 ?_
        simp -implicitDefEqProofs -dsimp only [go_sem, (eq_false h1), (eq_true h4), (eq_true h5)]
      · cases b3
        have e6 := (done_of gb3).symm
        subst e6
        try dsimp only at h
        obtain ⟨h7, h⟩ := chk_some h
        cases h
        simp -implicitDefEqProofs -dsimp only [go_sem, (eq_false h1), (eq_false h4), (eq_true h7)]
/- 39 loop.example/g00827/laws.markIntS -/
def m_laws_markIntS_L1_St (zb0 : Bool)  : (Int × Int × (List Int)) → St
  | (k, i, a) => ⟨[(0, .ref 10000 0 0 a.length), (1, .lit (.int .i64 k)), (5, .lit (.int .i64 i))], [(10000, 0, .row zb0 (rowsOf eI a))], 2⟩
attribute [go_sem] m_laws_markIntS_L1_St
def hi39 : Hint where
  acts := fun _ => []
  draws := fun
    | _ => ⟨.nil, [], []⟩
theorem hi39a (i : Nat) : hi39.acts i = [] := rfl
theorem hi39v (i : Nat) : hi39.views i = none := rfl
attribute [go_sem] hi39a hi39v Go.Proofs.Tryz.ntmps39 Go.Proofs.Tryz.results39
theorem c_laws_markIntS {a : List Int} {k : Int} {zb0 : Bool} {res : Int × (List Int)} (h : m_laws_markIntS a k = some res) : CallOk Go.Proofs.Tryz.prog 39 [.ref 10000 0 0 a.length, .lit (.int .i64 k)] [(10000, 0, .row zb0 (rowsOf eI a))] (.lit (.int .i64 res.1)) [(10000, 0, .row zb0 (rowsOf eI res.2))] := by
  refine callOk_of (ra := []) (md := mdT) hT (hi := hi39) Go.Proofs.Tryz.func39 rfl rfl (by decide +kernel) (by simp) ?_
  unfold m_laws_markIntS at h
  obtain ⟨q1002, l1, h⟩ := obnd_some h
  simp -implicitDefEqProofs -dsimp only [go_sem]
  refine loopW_loopO (m1 := .mk) (m2 := .mk) [.nf [0, 1, 5] [10000]] (m_laws_markIntS_L1_St zb0) l1 ?_ ?_
  · simp -implicitDefEqProofs -dsimp only [go_sem]
  · intro nb2 sb2 bb2 b2 gb2
    obtain ⟨k_1, i_1, a_1⟩ := sb2
    unfold m_laws_markIntS_L1 at b2
    try dsimp only at b2
    rcases ite_some b2 with ⟨h3, b2⟩ | ⟨h3, b2⟩
    · obtain ⟨x1001, g4, b2⟩ := obnd_some b2
      obtain ⟨h5, h6, h7⟩ := getI_some g4
      cases b2
      simp -implicitDefEqProofs -dsimp only [go_sem, (eq_true h3), h5, h6, h7]
      refine next_of gb2 ?_
      simp -implicitDefEqProofs -dsimp only [go_sem, (eq_true h3), h5, h6, h7]
    · cases b2
      have e8 := (done_of gb2).symm
      subst e8
      try dsimp only at h
      cases h
      simp -implicitDefEqProofs -dsimp only [go_sem, (eq_false h3)]
/- 37 loop.example/g00827/laws.markNodeS -/
def m_laws_markNodeS_L1_St (zb0 : Bool)  : (Int × Int × (List GNode)) → St
  | (k, i, a) => ⟨[(0, .ref 10000 0 0 a.length), (1, .lit (.int .i64 k)), (5, .lit (.int .i64 i))], [(10000, 0, .row zb0 (rowsOf GNode.encO a))], 2⟩
attribute [go_sem] m_laws_markNodeS_L1_St
def hi37 : Hint where
  acts := fun _ => []
  views := fun
    | 6 => some (4, 1)
    | _ => none
  draws := fun
    | _ => ⟨.nil, [], []⟩
theorem hi37a (i : Nat) : hi37.acts i = [] := rfl
@[go_sem] theorem hi37v0 : hi37.views 0 = none := rfl
@[go_sem] theorem hi37v1 : hi37.views 1 = none := rfl
@[go_sem] theorem hi37v2 : hi37.views 2 = none := rfl
@[go_sem] theorem hi37v4 : hi37.views 4 = none := rfl
@[go_sem] theorem hi37v5 : hi37.views 5 = none := rfl
@[go_sem] theorem hi37v6 : hi37.views 6 = some (4, 1) := rfl
@[go_sem] theorem hi37v7 : hi37.views 7 = none := rfl
@[go_sem] theorem hi37v8 : hi37.views 8 = none := rfl
@[go_sem] theorem hi37v3 : hi37.views 3 = none := rfl
@[go_sem] theorem hi37v9 : hi37.views 9 = none := rfl
attribute [go_sem] hi37a Go.Proofs.Tryz.ntmps37 Go.Proofs.Tryz.results37
theorem c_laws_markNodeS {a : List GNode} {k : Int} {zb0 : Bool} {res : Int × (List GNode)} (h : m_laws_markNodeS a k = some res) : CallOk Go.Proofs.Tryz.prog 37 [.ref 10000 0 0 a.length, .lit (.int .i64 k)] [(10000, 0, .row zb0 (rowsOf GNode.encO a))] (.lit (.int .i64 res.1)) [(10000, 0, .row zb0 (rowsOf GNode.encO res.2))] := by
  refine callOk_of (ra := []) (md := mdT) hT (hi := hi37) Go.Proofs.Tryz.func37 rfl rfl (by decide +kernel) (by simp) ?_
  unfold m_laws_markNodeS at h
  obtain ⟨q1006, l1, h⟩ := obnd_some h
  simp -implicitDefEqProofs -dsimp only [go_sem]
  refine loopW_loopO (m1 := .mk) (m2 := .mk) [.nf [0, 1, 5] [10000]] (m_laws_markNodeS_L1_St zb0) l1 ?_ ?_
  · simp -implicitDefEqProofs -dsimp only [go_sem]
  · intro nb2 sb2 bb2 b2 gb2
    obtain ⟨k_1, i_1, a_1⟩ := sb2
    unfold m_laws_markNodeS_L1 at b2
    try dsimp only at b2
    rcases ite_some b2 with ⟨h3, b2⟩ | ⟨h3, b2⟩
    · obtain ⟨r1001, g4, b2⟩ := obnd_some b2
      simp -implicitDefEqProofs -dsimp only [go_sem, (eq_true h3)]
      refine callW_of (c_laws_markText g4) ?_
      obtain ⟨x1002, g5, b2⟩ := obnd_some b2
      obtain ⟨h6, h7, h8⟩ := getI_some g5
      obtain ⟨x1003, g9, b2⟩ := obnd_some b2
      obtain ⟨h10, h11, h12⟩ := getI_some g9
      obtain ⟨r1004, g13, b2⟩ := obnd_some b2
      obtain ⟨h14, b2⟩ := chk_some b2
      simp -implicitDefEqProofs -dsimp only [go_sem, (eq_true h3), h6, h7, h8, h10, h11, h12]
      refine viewW_of h14 (by simp only [go_sem]) (c_laws_markIntS g13) ?_
      obtain ⟨x1005, g15, b2⟩ := obnd_some b2
      obtain ⟨h16, h17, h18⟩ := getI_some g15
      cases b2
      simp -implicitDefEqProofs -dsimp only [go_sem, (eq_true h3), h6, h7, h8, h10, h11, h12, h16, h17, h18]
      refine next_of gb2 ?_
      simp -implicitDefEqProofs -dsimp only [go_sem, (eq_true h3), h6, h7, h8, h10, h11, h12, h16, h17, h18]
    · cases b2
      have e19 := (done_of gb2).symm
      subst e19
      try dsimp only at h
      cases h
      simp -implicitDefEqProofs -dsimp only [go_sem, (eq_false h3)]
/- 38 loop.example/g00827/laws.markTieS -/
def m_laws_markTieS_L1_St (zb0 : Bool)  : (Int × Int × (List GTie)) → St
  | (k, i, a) => ⟨[(0, .ref 10000 0 0 a.length), (1, .lit (.int .i64 k)), (5, .lit (.int .i64 i))], [(10000, 0, .row zb0 (rowsOf GTie.enc a))], 2⟩
attribute [go_sem] m_laws_markTieS_L1_St
def hi38 : Hint where
  acts := fun _ => []
  draws := fun
    | _ => ⟨.nil, [], []⟩
theorem hi38a (i : Nat) : hi38.acts i = [] := rfl
theorem hi38v (i : Nat) : hi38.views i = none := rfl
attribute [go_sem] hi38a hi38v Go.Proofs.Tryz.ntmps38 Go.Proofs.Tryz.results38
theorem c_laws_markTieS {a : List GTie} {k : Int} {zb0 : Bool} {res : Int × (List GTie)} (h : m_laws_markTieS a k = some res) : CallOk Go.Proofs.Tryz.prog 38 [.ref 10000 0 0 a.length, .lit (.int .i64 k)] [(10000, 0, .row zb0 (rowsOf GTie.enc a))] (.lit (.int .i64 res.1)) [(10000, 0, .row zb0 (rowsOf GTie.enc res.2))] := by
  refine callOk_of (ra := []) (md := mdT) hT (hi := hi38) Go.Proofs.Tryz.func38 rfl rfl (by decide +kernel) (by simp) ?_
  unfold m_laws_markTieS at h
  obtain ⟨q1006, l1, h⟩ := obnd_some h
  simp -implicitDefEqProofs -dsimp only [go_sem]
  refine loopW_loopO (m1 := .mk) (m2 := .mk) [.nf [0, 1, 5] [10000]] (m_laws_markTieS_L1_St zb0) l1 ?_ ?_
  · simp -implicitDefEqProofs -dsimp only [go_sem]
  · intro nb2 sb2 bb2 b2 gb2
    obtain ⟨k_1, i_1, a_1⟩ := sb2
    unfold m_laws_markTieS_L1 at b2
    try dsimp only at b2
    rcases ite_some b2 with ⟨h3, b2⟩ | ⟨h3, b2⟩
    · obtain ⟨x1001, g4, b2⟩ := obnd_some b2
      obtain ⟨h5, h6, h7⟩ := getI_some g4
      obtain ⟨x1002, g8, b2⟩ := obnd_some b2
      obtain ⟨h9, h10, h11⟩ := getI_some g8
      obtain ⟨x1003, g12, b2⟩ := obnd_some b2
      obtain ⟨h13, h14, h15⟩ := getI_some g12
      obtain ⟨x1004, g16, b2⟩ := obnd_some b2
      obtain ⟨h17, h18, h19⟩ := getI_some g16
      obtain ⟨x1005, g20, b2⟩ := obnd_some b2
      obtain ⟨h21, h22, h23⟩ := getI_some g20
      cases b2
      simp -implicitDefEqProofs -dsimp only [go_sem, (eq_true h3), h5, h6, h7, h9, h10, h11, h13, h14, h15, h17, h18, h19, h21, h22, h23]
      refine next_of gb2 ?_
      simp -implicitDefEqProofs -dsimp only [go_sem, (eq_true h3), h5, h6, h7, h9, h10, h11, h13, h14, h15, h17, h18, h19, h21, h22, h23]
    · cases b2
      have e24 := (done_of gb2).symm
      subst e24
      try dsimp only at h
      cases h
      simp -implicitDefEqProofs -dsimp only [go_sem, (eq_false h3)]
/- 14 loop.example/g00827/laws.markShow -/
def hi14 : Hint where
  acts := fun _ => []
  draws := fun
    | _ => ⟨.nil, [], []⟩
theorem hi14a (i : Nat) : hi14.acts i = [] := rfl
theorem hi14v (i : Nat) : hi14.views i = none := rfl
attribute [go_sem] hi14a hi14v Go.Proofs.Tryz.ntmps14 Go.Proofs.Tryz.results14
theorem c_laws_markShow {a : GShow} {k : Int} {zb0 : Bool} {zb1 : Bool} {res : Int × (List GNode) × (List GTie)} (h : m_laws_markShow a k = some res) : CallOk Go.Proofs.Tryz.prog 14 [.agg [.ref 10000 0 0 a.nodes.length, .ref 10001 0 0 a.ties.length, .lit (.int .i64 a.horizon)], .lit (.int .i64 k)] [(10000, 0, .row zb0 (rowsOf GNode.encO a.nodes)), (10001, 0, .row zb1 (rowsOf GTie.enc a.ties))] (.lit (.int .i64 res.1)) [(10000, 0, .row zb0 (rowsOf GNode.encO res.2.1)), (10001, 0, .row zb1 (rowsOf GTie.enc res.2.2))] := by
  refine callOk_of (ra := []) (md := mdT) hT (hi := hi14) Go.Proofs.Tryz.func14 rfl rfl (by decide +kernel) (by simp) ?_
  unfold m_laws_markShow at h
  obtain ⟨r1001, g1, h⟩ := obnd_some h
  simp -implicitDefEqProofs -dsimp only [go_sem]
  refine callW_of (c_laws_markNodeS g1) ?_
  obtain ⟨r1002, g2, h⟩ := obnd_some h
  simp -implicitDefEqProofs -dsimp only [go_sem]
  refine callW_of (c_laws_markTieS g2) ?_
  cases h
  simp -implicitDefEqProofs -dsimp only [go_sem]
/- 15 loop.example/g00827/laws.markEntryS -/
def m_laws_markEntryS_L1_St (zb0 : Bool)  : (Int × Int × (List GEntry)) → St
  | (k, i, a) => ⟨[(0, .ref 10000 0 0 a.length), (1, .lit (.int .i64 k)), (5, .lit (.int .i64 i))], [(10000, 0, .row zb0 (rowsOf GEntry.encO a))], 2⟩
attribute [go_sem] m_laws_markEntryS_L1_St
def hi15 : Hint where
  acts := fun _ => []
  views := fun
    | 6 => some (4, 1)
    | 7 => some (4, 1)
    | 8 => some (4, 1)
    | _ => none
  draws := fun
    | _ => ⟨.nil, [], []⟩
theorem hi15a (i : Nat) : hi15.acts i = [] := rfl
@[go_sem] theorem hi15v0 : hi15.views 0 = none := rfl
@[go_sem] theorem hi15v1 : hi15.views 1 = none := rfl
@[go_sem] theorem hi15v2 : hi15.views 2 = none := rfl
@[go_sem] theorem hi15v4 : hi15.views 4 = none := rfl
@[go_sem] theorem hi15v5 : hi15.views 5 = none := rfl
@[go_sem] theorem hi15v6 : hi15.views 6 = some (4, 1) := rfl
@[go_sem] theorem hi15v7 : hi15.views 7 = some (4, 1) := rfl
@[go_sem] theorem hi15v8 : hi15.views 8 = some (4, 1) := rfl
@[go_sem] theorem hi15v3 : hi15.views 3 = none := rfl
@[go_sem] theorem hi15v9 : hi15.views 9 = none := rfl
attribute [go_sem] hi15a Go.Proofs.Tryz.ntmps15 Go.Proofs.Tryz.results15
theorem c_laws_markEntryS {a : List GEntry} {k : Int} {zb0 : Bool} {res : Int × (List GEntry)} (h : m_laws_markEntryS a k = some res) : CallOk Go.Proofs.Tryz.prog 15 [.ref 10000 0 0 a.length, .lit (.int .i64 k)] [(10000, 0, .row zb0 (rowsOf GEntry.encO a))] (.lit (.int .i64 res.1)) [(10000, 0, .row zb0 (rowsOf GEntry.encO res.2))] := by
  refine callOk_of (ra := []) (md := mdT) hT (hi := hi15) Go.Proofs.Tryz.func15 rfl rfl (by decide +kernel) (by simp) ?_
  unfold m_laws_markEntryS at h
  obtain ⟨q1008, l1, h⟩ := obnd_some h
  simp -implicitDefEqProofs -dsimp only [go_sem]
  refine loopW_loopO (m1 := .mk) (m2 := .mk) [.nf [0, 1, 5] [10000]] (m_laws_markEntryS_L1_St zb0) l1 ?_ ?_
  · simp -implicitDefEqProofs -dsimp only [go_sem]
  · intro nb2 sb2 bb2 b2 gb2
    obtain ⟨k_1, i_1, a_1⟩ := sb2
    unfold m_laws_markEntryS_L1 at b2
    try dsimp only at b2
    rcases ite_some b2 with ⟨h3, b2⟩ | ⟨h3, b2⟩
    · obtain ⟨x1001, g4, b2⟩ := obnd_some b2
      obtain ⟨h5, h6, h7⟩ := getI_some g4
      obtain ⟨x1002, g8, b2⟩ := obnd_some b2
      obtain ⟨h9, h10, h11⟩ := getI_some g8
      obtain ⟨r1003, g12, b2⟩ := obnd_some b2
      obtain ⟨h13, b2⟩ := chk_some b2
      simp -implicitDefEqProofs -dsimp only [go_sem, (eq_true h3), h5, h6, h7, h9, h10, h11]
      refine viewW_of h13 (by simp only [go_sem]) (c_laws_markIntS g12) ?_
      obtain ⟨x1004, g14, b2⟩ := obnd_some b2
      obtain ⟨h15, h16, h17⟩ := getI_some g14
      obtain ⟨r1005, g18, b2⟩ := obnd_some b2
      obtain ⟨h19, b2⟩ := chk_some b2
      simp -implicitDefEqProofs -dsimp only [go_sem, (eq_true h3), h5, h6, h7, h9, h10, h11, h15, h16, h17]
      refine viewW_of h19 (by simp only [go_sem]) (c_laws_markIntS g18) ?_
      obtain ⟨x1006, g20, b2⟩ := obnd_some b2
      obtain ⟨h21, h22, h23⟩ := getI_some g20
      obtain ⟨r1007, g24, b2⟩ := obnd_some b2
      obtain ⟨h25, b2⟩ := chk_some b2
      simp -implicitDefEqProofs -dsimp only [go_sem, (eq_true h3), h5, h6, h7, h9, h10, h11, h15, h16, h17, h21, h22, h23]
      refine viewW_of h25 (by simp only [go_sem]) (c_laws_markIntS g24) ?_
      cases b2
      simp -implicitDefEqProofs -dsimp only [go_sem, (eq_true h3), h5, h6, h7, h9, h10, h11, h15, h16, h17, h21, h22, h23]
      refine next_of gb2 ?_
      simp -implicitDefEqProofs -dsimp only [go_sem, (eq_true h3), h5, h6, h7, h9, h10, h11, h15, h16, h17, h21, h22, h23]
    · cases b2
      have e26 := (done_of gb2).symm
      subst e26
      try dsimp only at h
      cases h
      simp -implicitDefEqProofs -dsimp only [go_sem, (eq_false h3)]
/- 16 loop.example/g00827/laws.markState -/
def hi16 : Hint where
  acts := fun _ => []
  draws := fun
    | _ => ⟨.nil, [], []⟩
theorem hi16a (i : Nat) : hi16.acts i = [] := rfl
theorem hi16v (i : Nat) : hi16.views i = none := rfl
attribute [go_sem] hi16a hi16v Go.Proofs.Tryz.ntmps16 Go.Proofs.Tryz.results16
theorem c_laws_markState {a : GState} {k : Int} {zb0 : Bool} {zb1 : Bool} {res : Int × (List Int) × (List Int)} (h : m_laws_markState a k = some res) : CallOk Go.Proofs.Tryz.prog 16 [.agg [.lit (.int .i64 a.now), .ref 10000 0 0 a.times.length, .ref 10001 0 0 a.values.length], .lit (.int .i64 k)] [(10000, 0, .row zb0 (rowsOf eI a.times)), (10001, 0, .row zb1 (rowsOf eI a.values))] (.lit (.int .i64 res.1)) [(10000, 0, .row zb0 (rowsOf eI res.2.1)), (10001, 0, .row zb1 (rowsOf eI res.2.2))] := by
  refine callOk_of (ra := []) (md := mdT) hT (hi := hi16) Go.Proofs.Tryz.func16 rfl rfl (by decide +kernel) (by simp) ?_
  unfold m_laws_markState at h
  obtain ⟨r1001, g1, h⟩ := obnd_some h
  simp -implicitDefEqProofs -dsimp only [go_sem]
  refine callW_of (c_laws_markIntS g1) ?_
  obtain ⟨r1002, g2, h⟩ := obnd_some h
  simp -implicitDefEqProofs -dsimp only [go_sem]
  refine callW_of (c_laws_markIntS g2) ?_
  cases h
  simp -implicitDefEqProofs -dsimp only [go_sem]
/- 40 loop.example/g00827/laws.heldIntS -/
def m_laws_heldIntS_L1_St (a : List Int) : (Int × Int) → St
  | (k, i) => ⟨[(0, .sl (rowsOf eI a)), (1, .lit (.int .i64 k)), (5, .lit (.int .i64 i))], [], 2⟩
attribute [go_sem] m_laws_heldIntS_L1_St
def hi40 : Hint where
  acts := fun _ => []
  draws := fun
    | _ => ⟨.nil, [], []⟩
theorem hi40a (i : Nat) : hi40.acts i = [] := rfl
theorem hi40v (i : Nat) : hi40.views i = none := rfl
attribute [go_sem] hi40a hi40v Go.Proofs.Tryz.ntmps40 Go.Proofs.Tryz.results40
theorem c_laws_heldIntS {a : List Int} {k : Int} {res : Int} (h : m_laws_heldIntS a k = some res) : CallOk Go.Proofs.Tryz.prog 40 [.sl (rowsOf eI a), .lit (.int .i64 k)] [] (.lit (.int .i64 res)) [] := by
  refine callOk_of (ra := []) (md := mdT) hT (hi := hi40) Go.Proofs.Tryz.func40 rfl rfl (by decide +kernel) (by simp) ?_
  unfold m_laws_heldIntS at h
  obtain ⟨q1002, l1, h⟩ := obnd_some h
  simp -implicitDefEqProofs -dsimp only [go_sem]
  refine loopW_loopO (m1 := .mk) (m2 := .mk) [.nf [0, 1, 5] []] (m_laws_heldIntS_L1_St a) l1 ?_ ?_
  · simp -implicitDefEqProofs -dsimp only [go_sem]
  · intro nb2 sb2 bb2 b2 gb2
    obtain ⟨k_1, i_1⟩ := sb2
    unfold m_laws_heldIntS_L1 at b2
    try dsimp only at b2
    rcases ite_some b2 with ⟨h3, b2⟩ | ⟨h3, b2⟩
    · obtain ⟨x1001, g4, b2⟩ := obnd_some b2
      obtain ⟨h5, h6, h7⟩ := getI_some g4
      rcases ite_some b2 with ⟨h8, b2⟩ | ⟨h8, b2⟩
      · cases b2
        simp -implicitDefEqProofs -dsimp only [go_sem, (eq_true h3), h5, h6, h7, (eq_true h8)]
        refine next_of gb2 ?_
        simp -implicitDefEqProofs -dsimp only [go_sem, (eq_true h3), h5, h6, h7, (eq_true h8)]
      · cases b2
        have e9 := (done_of gb2).symm
        subst e9
        try dsimp only at h
        cases h
        simp -implicitDefEqProofs -dsimp only [go_sem, (eq_true h3), h5, h6, h7, (eq_false h8)]
    · cases b2
      have e10 := (done_of gb2).symm
      subst e10
      try dsimp only at h
      cases h
      simp -implicitDefEqProofs -dsimp only [go_sem, (eq_false h3)]
/- 17 loop.example/g00827/laws.heldState -/
def hi17 : Hint where
  acts := fun _ => []
  draws := fun
    | _ => ⟨.nil, [], []⟩
theorem hi17a (i : Nat) : hi17.acts i = [] := rfl
theorem hi17v (i : Nat) : hi17.views i = none := rfl
attribute [go_sem] hi17a hi17v Go.Proofs.Tryz.ntmps17 Go.Proofs.Tryz.results17
theorem c_laws_heldState {a : GState} {k : Int} {res : Int} (h : m_laws_heldState a k = some res) : CallOk Go.Proofs.Tryz.prog 17 [.agg [.lit (.int .i64 a.now), .sl (rowsOf eI a.times), .sl (rowsOf eI a.values)], .lit (.int .i64 k)] [] (.lit (.int .i64 res)) [] := by
  refine callOk_of (ra := []) (md := mdT) hT (hi := hi17) Go.Proofs.Tryz.func17 rfl rfl (by decide +kernel) (by simp) ?_
  unfold m_laws_heldState at h
  obtain ⟨r1001, g1, h⟩ := obnd_some h
  simp -implicitDefEqProofs -dsimp only [go_sem]
  refine callW_of (c_laws_heldIntS g1) ?_
  rcases ite_some h with ⟨h2, h⟩ | ⟨h2, h⟩
  · cases h
    simp -implicitDefEqProofs -dsimp only [go_sem, (eq_true h2)]
  · obtain ⟨r1002, g3, h⟩ := obnd_some h
    simp -implicitDefEqProofs -dsimp only [go_sem, (eq_false h2)]
    refine callW_of (c_laws_heldIntS g3) ?_
    rcases ite_some h with ⟨h4, h⟩ | ⟨h4, h⟩
    · cases h
      simp -implicitDefEqProofs -dsimp only [go_sem, (eq_false h2), (eq_true h4)]
    · cases h
      simp -implicitDefEqProofs -dsimp only [go_sem, (eq_false h2), (eq_false h4)]
/- 3 loop.example/g00827/laws.FnExactReplayLog -/
def hi3 : Hint where
  acts := fun _ => []
  draws := fun
    | 14 => ⟨.cons ⟨0, true, []⟩ (.cons ⟨1, false, []⟩ (.cons ⟨2, false, [0]⟩ (.cons ⟨3, false, []⟩ (.cons ⟨4, false, []⟩ .nil)))), [[], [], [1], [0, 1, 2], [0, 1, 2, 3]], [0, 1, 2, 3, 4]⟩
    | _ => ⟨.nil, [], []⟩
theorem hi3a (i : Nat) : hi3.acts i = [] := rfl
theorem hi3v (i : Nat) : hi3.views i = none := rfl
attribute [go_sem] hi3a hi3v Go.Proofs.Tryz.ntmps3 Go.Proofs.Tryz.results3
@[go_sem] theorem hi3d14 : (hi3.draws 14).order = .cons ⟨0, true, []⟩ (.cons ⟨1, false, []⟩ (.cons ⟨2, false, [0]⟩ (.cons ⟨3, false, []⟩ (.cons ⟨4, false, []⟩ .nil)))) := rfl
theorem c_laws_FnExactReplayLog {aS : GShow} {aLog : List GEntry} {res : Bool} (h : m_laws_FnExactReplayLog aS aLog = some res) : CallOk Go.Proofs.Tryz.prog 3 [.agg [.sl (rowsOf GNode.encS aS.nodes), .sl (rowsOf GTie.enc aS.ties), .lit (.int .i64 aS.horizon)], .sl (rowsOf GEntry.encS aLog)] [] (.lit (.bool res)) [] := by
  refine callOk_of (ra := []) (md := mdT) hT (hi := hi3) Go.Proofs.Tryz.func3 rfl rfl (by decide +kernel) (by simp) ?_
  unfold m_laws_FnExactReplayLog at h
  obtain ⟨r1001, g1, h⟩ := obnd_some h
  simp -implicitDefEqProofs -dsimp only [go_sem]
  refine callW_of (c_laws_szShow g1) ?_
  rcases ite_some h with ⟨h2, h⟩ | ⟨h2, h⟩
  · cases h
    simp -implicitDefEqProofs -dsimp only [go_sem, (eq_true h2)]
  · obtain ⟨r1002, g3, h⟩ := obnd_some h
    simp -implicitDefEqProofs -dsimp only [go_sem, (eq_false h2)]
    refine callW_of (c_laws_szEntryS g3) ?_
    rcases ite_some h with ⟨h4, h⟩ | ⟨h4, h⟩
    · cases h
      simp -implicitDefEqProofs -dsimp only [go_sem, (eq_false h2), (eq_true h4)]
    · obtain ⟨r1003, g5, h⟩ := obnd_some h
      simp -implicitDefEqProofs -dsimp only [go_sem, (eq_false h2), (eq_false h4)]
      refine callW_of (c_laws_toShow g5) ?_
      obtain ⟨r1004, g6, h⟩ := obnd_some h
      simp -implicitDefEqProofs -dsimp only [go_sem, (eq_false h2), (eq_false h4)]
      refine callW_of (c_laws_toEntryS g6) ?_
      obtain ⟨r1005, g7, h⟩ := obnd_some h
      simp -implicitDefEqProofs -dsimp only [go_sem, (eq_false h2), (eq_false h4)]
      refine callW_of (c_spec_ReplayLog g7) ?_
      obtain ⟨r1006, g8, h⟩ := obnd_some h
      simp -implicitDefEqProofs -dsimp only [go_sem, (eq_false h2), (eq_false h4)]
      refine callW_of (c_laws_toShow g8) ?_
      obtain ⟨r1007, g9, h⟩ := obnd_some h
      simp -implicitDefEqProofs -dsimp only [go_sem, (eq_false h2), (eq_false h4)]
      refine callW_of (c_laws_toEntryS g9) ?_
      obtain ⟨r1008, g10, h⟩ := obnd_some h
      simp -implicitDefEqProofs -dsimp only [go_sem, (eq_false h2), (eq_false h4)]
      refine callW_of (c_impl_ReplayLog g10) ?_
      obtain ⟨r1009, g11, h⟩ := obnd_some h
      simp -implicitDefEqProofs -dsimp only [go_sem, (eq_false h2), (eq_false h4)]
      refine callW_of (c_laws_eqState g11) ?_
      rcases ite_some h with ⟨h12, h⟩ | ⟨h12, h⟩
      · rcases ite_some h with ⟨h13, h⟩ | ⟨h13, h⟩
        · obtain ⟨r1010, g14, h⟩ := obnd_some h
          simp -implicitDefEqProofs -dsimp only [go_sem, (eq_false h2), (eq_false h4), (eq_true h12), (condZ_t h12), (eq_true h13)]
          refine callW_of (c_laws_toShow g14) ?_
          obtain ⟨r1011, g15, h⟩ := obnd_some h
          simp -implicitDefEqProofs -dsimp only [go_sem, (eq_false h2), (eq_false h4), (eq_true h12), (condZ_t h12), (eq_true h13)]
          refine callW_of (c_laws_eqShow g15) ?_
          rcases ite_some h with ⟨h16, h⟩ | ⟨h16, h⟩
          · obtain ⟨r1012, g17, h⟩ := obnd_some h
            simp -implicitDefEqProofs -dsimp only [go_sem, (eq_false h2), (eq_false h4), (eq_true h12), (condZ_t h12), (eq_true h13), (eq_true h16), (condZ_t h16)]
            refine callW_of (c_laws_toEntryS g17) ?_
            obtain ⟨r1013, g18, h⟩ := obnd_some h
            simp -implicitDefEqProofs -dsimp only [go_sem, (eq_false h2), (eq_false h4), (eq_true h12), (condZ_t h12), (eq_true h13), (eq_true h16), (condZ_t h16)]
            refine callW_of (c_laws_eqEntryS g18) ?_
            rcases ite_some h with ⟨h19, h⟩ | ⟨h19, h⟩
            · obtain ⟨r1014, g20, h⟩ := obnd_some h
              simp -implicitDefEqProofs -dsimp only [go_sem, (eq_false h2), (eq_false h4), (eq_true h12), (condZ_t h12), (eq_true h13), (eq_true h16), (condZ_t h16), (eq_true h19), (condZ_t h19)]
              refine callW_of (c_laws_markShow g20) ?_
              obtain ⟨r1015, g21, h⟩ := obnd_some h
              simp -implicitDefEqProofs -dsimp only [go_sem, (eq_false h2), (eq_false h4), (eq_true h12), (condZ_t h12), (eq_true h13), (eq_true h16), (condZ_t h16), (eq_true h19), (condZ_t h19)]
              refine callW_of (c_laws_markEntryS g21) ?_
              rcases ite_some h with ⟨h22, h⟩ | ⟨h22, h⟩
              · cases h
                simp -implicitDefEqProofs -dsimp only [go_sem, (eq_false h2), (eq_false h4), (eq_true h12), (condZ_t h12), (eq_true h13), (eq_true h16), (condZ_t h16), (eq_true h19), (condZ_t h19), (eq_true h22)]
              · obtain ⟨r1016, g23, h⟩ := obnd_some h
                simp -implicitDefEqProofs -dsimp only [go_sem, (eq_false h2), (eq_false h4), (eq_true h12), (condZ_t h12), (eq_true h13), (eq_true h16), (condZ_t h16), (eq_true h19), (condZ_t h19), (eq_false h22)]
                refine callW_of (c_laws_eqState g23) ?_
                rcases ite_some h with ⟨h24, h⟩ | ⟨h24, h⟩
                · obtain ⟨r1017, g25, h⟩ := obnd_some h
                  simp -implicitDefEqProofs -dsimp only [go_sem, (eq_false h2), (eq_false h4), (eq_true h12), (condZ_t h12), (eq_true h13), (eq_true h16), (condZ_t h16), (eq_true h19), (condZ_t h19), (eq_false h22), (eq_true h24), (condZ_t h24)]
                  refine callW_of (c_laws_markState g25) ?_
                  obtain ⟨h26, h⟩ := chk_some h
                  obtain ⟨h27, h⟩ := chk_some h
                  obtain ⟨r1018, g28, h⟩ := obnd_some h
                  simp -implicitDefEqProofs -dsimp only [go_sem, (eq_false h2), (eq_false h4), (eq_true h12), (condZ_t h12), (eq_true h13), (eq_true h16), (condZ_t h16), (eq_true h19), (condZ_t h19), (eq_false h22), (eq_true h24), (condZ_t h24), (eq_true h26), (eq_true h27)]
                  refine callW_of (c_laws_heldState g28) ?_
                  rcases ite_some h with ⟨h29, h⟩ | ⟨h29, h⟩
                  · cases h
                    simp -implicitDefEqProofs -dsimp only [go_sem, (eq_false h2), (eq_false h4), (eq_true h12), (condZ_t h12), (eq_true h13), (eq_true h16), (condZ_t h16), (eq_true h19), (condZ_t h19), (eq_false h22), (eq_true h24), (condZ_t h24), (eq_true h26), (eq_true h27), (eq_true h29)]
                  · rcases ite_some h with ⟨h30, h⟩ | ⟨h30, h⟩
                    · obtain ⟨r1019, g31, h⟩ := obnd_some h
                      simp -implicitDefEqProofs -dsimp only [go_sem, (eq_false h2), (eq_false h4), (eq_true h12), (condZ_t h12), (eq_true h13), (eq_true h16), (condZ_t h16), (eq_true h19), (condZ_t h19), (eq_false h22), (eq_true h24), (condZ_t h24), (eq_true h26), (eq_true h27), (eq_false h29), (eq_true h30)]
                      refine callW_of (c_laws_toShow g31) ?_
                      obtain ⟨r1020, g32, h⟩ := obnd_some h
                      simp -implicitDefEqProofs -dsimp only [go_sem, (eq_false h2), (eq_false h4), (eq_true h12), (condZ_t h12), (eq_true h13), (eq_true h16), (condZ_t h16), (eq_true h19), (condZ_t h19), (eq_false h22), (eq_true h24), (condZ_t h24), (eq_true h26), (eq_true h27), (eq_false h29), (eq_true h30)]
                      refine callW_of (c_laws_toEntryS g32) ?_
                      obtain ⟨r1021, g33, h⟩ := obnd_some h
                      simp -implicitDefEqProofs -dsimp only [go_sem, (eq_false h2), (eq_false h4), (eq_true h12), (condZ_t h12), (eq_true h13), (eq_true h16), (condZ_t h16), (eq_true h19), (condZ_t h19), (eq_false h22), (eq_true h24), (condZ_t h24), (eq_true h26), (eq_true h27), (eq_false h29), (eq_true h30)]
                      refine callW_of (c_impl_ReplayLog g33) ?_
                      obtain ⟨r1022, g34, h⟩ := obnd_some h
                      simp -implicitDefEqProofs -dsimp only [go_sem, (eq_false h2), (eq_false h4), (eq_true h12), (condZ_t h12), (eq_true h13), (eq_true h16), (condZ_t h16), (eq_true h19), (condZ_t h19), (eq_false h22), (eq_true h24), (condZ_t h24), (eq_true h26), (eq_true h27), (eq_false h29), (eq_true h30)]
                      refine callW_of (c_laws_eqState g34) ?_
                      rcases ite_some h with ⟨h35, h⟩ | ⟨h35, h⟩
                      · rcases ite_some h with ⟨h36, h⟩ | ⟨h36, h⟩
                        · obtain ⟨r1023, g37, h⟩ := obnd_some h
                          simp -implicitDefEqProofs -dsimp only [go_sem, (eq_false h2), (eq_false h4), (eq_true h12), (condZ_t h12), (eq_true h13), (eq_true h16), (condZ_t h16), (eq_true h19), (condZ_t h19), (eq_false h22), (eq_true h24), (condZ_t h24), (eq_true h26), (eq_true h27), (eq_false h29), (eq_true h30), (eq_true h35), (condZ_t h35), (eq_true h36)]
                          refine callW_of (c_laws_heldState g37) ?_
                          rcases ite_some h with ⟨h38, h⟩ | ⟨h38, h⟩
                          · cases h
                            simp -implicitDefEqProofs -dsimp only [go_sem, (eq_false h2), (eq_false h4), (eq_true h12), (condZ_t h12), (eq_true h13), (eq_true h16), (condZ_t h16), (eq_true h19), (condZ_t h19), (eq_false h22), (eq_true h24), (condZ_t h24), (eq_true h26), (eq_true h27), (eq_false h29), (eq_true h30), (eq_true h35), (condZ_t h35), (eq_true h36), (eq_true h38)]
                          · rcases ite_some h with ⟨h39, h⟩ | ⟨h39, h⟩
                            · cases h
                              simp -implicitDefEqProofs -dsimp only [go_sem, (eq_false h2), (eq_false h4), (eq_true h12), (condZ_t h12), (eq_true h13), (eq_true h16), (condZ_t h16), (eq_true h19), (condZ_t h19), (eq_false h22), (eq_true h24), (condZ_t h24), (eq_true h26), (eq_true h27), (eq_false h29), (eq_true h30), (eq_true h35), (condZ_t h35), (eq_true h36), (eq_false h38), (eq_true h39)]
                            · cases h
                              simp -implicitDefEqProofs -dsimp only [go_sem, (eq_false h2), (eq_false h4), (eq_true h12), (condZ_t h12), (eq_true h13), (eq_true h16), (condZ_t h16), (eq_true h19), (condZ_t h19), (eq_false h22), (eq_true h24), (condZ_t h24), (eq_true h26), (eq_true h27), (eq_false h29), (eq_true h30), (eq_true h35), (condZ_t h35), (eq_true h36), (eq_false h38), (eq_false h39)]
                        · cases h
                          simp -implicitDefEqProofs -dsimp only [go_sem, (eq_false h2), (eq_false h4), (eq_true h12), (condZ_t h12), (eq_true h13), (eq_true h16), (condZ_t h16), (eq_true h19), (condZ_t h19), (eq_false h22), (eq_true h24), (condZ_t h24), (eq_true h26), (eq_true h27), (eq_false h29), (eq_true h30), (eq_true h35), (condZ_t h35), (eq_false h36)]
                      · cases h
                        simp -implicitDefEqProofs -dsimp only [go_sem, (eq_false h2), (eq_false h4), (eq_true h12), (condZ_t h12), (eq_true h13), (eq_true h16), (condZ_t h16), (eq_true h19), (condZ_t h19), (eq_false h22), (eq_true h24), (condZ_t h24), (eq_true h26), (eq_true h27), (eq_false h29), (eq_true h30), (eq_false h35), (condZ_f h35)]
                    · cases h
                      simp -implicitDefEqProofs -dsimp only [go_sem, (eq_false h2), (eq_false h4), (eq_true h12), (condZ_t h12), (eq_true h13), (eq_true h16), (condZ_t h16), (eq_true h19), (condZ_t h19), (eq_false h22), (eq_true h24), (condZ_t h24), (eq_true h26), (eq_true h27), (eq_false h29), (eq_false h30)]
                · cases h
                  simp -implicitDefEqProofs -dsimp only [go_sem, (eq_false h2), (eq_false h4), (eq_true h12), (condZ_t h12), (eq_true h13), (eq_true h16), (condZ_t h16), (eq_true h19), (condZ_t h19), (eq_false h22), (eq_false h24), (condZ_f h24)]
            · cases h
              simp -implicitDefEqProofs -dsimp only [go_sem, (eq_false h2), (eq_false h4), (eq_true h12), (condZ_t h12), (eq_true h13), (eq_true h16), (condZ_t h16), (eq_false h19), (condZ_f h19)]
          · cases h
            simp -implicitDefEqProofs -dsimp only [go_sem, (eq_false h2), (eq_false h4), (eq_true h12), (condZ_t h12), (eq_true h13), (eq_false h16), (condZ_f h16)]
        · cases h
          simp -implicitDefEqProofs -dsimp only [go_sem, (eq_false h2), (eq_false h4), (eq_true h12), (condZ_t h12), (eq_false h13)]
      · cases h
        simp -implicitDefEqProofs -dsimp only [go_sem, (eq_false h2), (eq_false h4), (eq_false h12), (condZ_f h12)]
end Go.Proofs.YteijmljgodikiaaGreatZ
