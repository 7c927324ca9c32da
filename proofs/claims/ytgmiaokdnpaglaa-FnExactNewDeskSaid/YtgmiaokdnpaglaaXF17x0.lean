/- Functions. -/
import Derived.Test.YtgmiaokdnpaglaaXFK0
set_option linter.all false
set_option linter.unusedVariables false
set_option linter.unusedSimpArgs false
set_option maxRecDepth 100000
set_option maxHeartbeats 400000
namespace Go.Proofs.YtgmiaokdnpaglaaX
open Go
/- 132 loop.example/g00827/spec.l08Copy -/
def m_spec_l08Copy_L1_St (v14 : List GNode) (v15 : Int) (out_2 : Int) (h384 : List GTie) : (Int × (List GNode)) → St
  | (v16, h100012288) => ⟨[(2, .ptr 128 1 0 0), (3, .ptr 192 1 0 0), (14, .sl (rowsOf GNode.encS v14)), (15, .lit (.int .i64 v15)), (16, .lit (.int .i64 v16))], [(128, 1, .var [.lit (.slice none 0 0), .lit (.slice none 0 0), .lit (.int .i64 0)]), (192, 1, .var [.ref 100012288 1 0 h100012288.length, .ref 384 1 0 h384.length, .lit (.int .i64 out_2)]), (100012288, 1, .row true (rowsOf GNode.encO h100012288)), (384, 1, .row true (rowsOf GTie.enc h384))], 2⟩
attribute [go_sem] m_spec_l08Copy_L1_St
def hi132 : Hint where
  acts := fun _ => []
  draws := fun
    | 1 => ⟨.cons ⟨1, true, []⟩ (.cons ⟨2, true, []⟩ (.cons ⟨4, true, []⟩ (.cons ⟨5, true, []⟩ (.fork (.cons ⟨0, false, [1, 2, 4, 5]⟩ (.fork (.cons ⟨3, false, [4, 5]⟩ (.cons ⟨6, false, []⟩ (.cons ⟨7, false, [1, 2, 4, 5]⟩ (.cons ⟨8, false, []⟩ .nil)))) (.cons ⟨7, false, [1, 2, 4, 5]⟩ (.cons ⟨3, false, [4, 5]⟩ (.cons ⟨6, false, []⟩ (.cons ⟨8, false, []⟩ .nil)))))) (.cons ⟨7, false, [1, 2, 4, 5]⟩ (.cons ⟨0, false, [1, 2, 4, 5]⟩ (.cons ⟨3, false, [4, 5]⟩ (.cons ⟨6, false, []⟩ (.cons ⟨8, false, []⟩ .nil))))))))), [[], [], [1], [0, 1, 2], [], [4], [0, 1, 2, 3, 4, 5], [], [0, 1, 2, 3, 4, 5, 6, 7]], [0, 1, 2, 3, 4, 5, 6, 7, 8]⟩
    | 5 => ⟨.cons ⟨0, true, []⟩ (.cons ⟨1, true, []⟩ (.cons ⟨2, true, []⟩ (.cons ⟨3, true, []⟩ (.cons ⟨5, true, []⟩ (.cons ⟨6, true, []⟩ (.cons ⟨8, true, []⟩ (.cons ⟨9, true, []⟩ (.cons ⟨4, false, [0, 1, 2, 3, 5, 6, 8, 9]⟩ (.cons ⟨7, false, [0, 1, 2, 3, 8, 9]⟩ (.cons ⟨10, false, []⟩ (.cons ⟨11, false, [0, 1]⟩ (.cons ⟨12, false, []⟩ (.cons ⟨13, false, []⟩ (.cons ⟨14, false, []⟩ .nil)))))))))))))), [[], [0], [], [2], [], [], [5], [4, 5, 6], [], [8], [2, 3, 4, 5, 6, 7, 8, 9], [2, 3, 4, 5, 6, 7, 8, 9, 10], [0, 1, 2, 3, 4, 5, 6, 7, 8, 9, 10, 11], [0, 1, 2, 3, 4, 5, 6, 7, 8, 9, 10, 11, 12], [0, 1, 2, 3, 4, 5, 6, 7, 8, 9, 10, 11, 12, 13]], [0, 1, 2, 3, 4, 5, 6, 7, 8, 9, 10, 11, 12, 13, 14]⟩
    | _ => ⟨.nil, [], []⟩
theorem hi132a (i : Nat) : hi132.acts i = [] := rfl
theorem hi132v (i : Nat) : hi132.views i = none := rfl
attribute [go_sem] hi132a hi132v Go.Proofs.Try.ntmps132 Go.Proofs.Try.results132
@[go_sem] theorem hi132d1 : (hi132.draws 1).order = .cons ⟨1, true, []⟩ (.cons ⟨2, true, []⟩ (.cons ⟨4, true, []⟩ (.cons ⟨5, true, []⟩ (.fork (.cons ⟨0, false, [1, 2, 4, 5]⟩ (.fork (.cons ⟨3, false, [4, 5]⟩ (.cons ⟨6, false, []⟩ (.cons ⟨7, false, [1, 2, 4, 5]⟩ (.cons ⟨8, false, []⟩ .nil)))) (.cons ⟨7, false, [1, 2, 4, 5]⟩ (.cons ⟨3, false, [4, 5]⟩ (.cons ⟨6, false, []⟩ (.cons ⟨8, false, []⟩ .nil)))))) (.cons ⟨7, false, [1, 2, 4, 5]⟩ (.cons ⟨0, false, [1, 2, 4, 5]⟩ (.cons ⟨3, false, [4, 5]⟩ (.cons ⟨6, false, []⟩ (.cons ⟨8, false, []⟩ .nil))))))))) := rfl
@[go_sem] theorem hi132d5 : (hi132.draws 5).order = .cons ⟨0, true, []⟩ (.cons ⟨1, true, []⟩ (.cons ⟨2, true, []⟩ (.cons ⟨3, true, []⟩ (.cons ⟨5, true, []⟩ (.cons ⟨6, true, []⟩ (.cons ⟨8, true, []⟩ (.cons ⟨9, true, []⟩ (.cons ⟨4, false, [0, 1, 2, 3, 5, 6, 8, 9]⟩ (.cons ⟨7, false, [0, 1, 2, 3, 8, 9]⟩ (.cons ⟨10, false, []⟩ (.cons ⟨11, false, [0, 1]⟩ (.cons ⟨12, false, []⟩ (.cons ⟨13, false, []⟩ (.cons ⟨14, false, []⟩ .nil)))))))))))))) := rfl
theorem c_spec_l08Copy {s : GShow} {res : GShow} (h : m_spec_l08Copy s = some res) : CallOk Go.Proofs.Try.prog 132 [.agg [.sl (rowsOf GNode.encS s.nodes), .sl (rowsOf GTie.enc s.ties), .lit (.int .i64 s.horizon)]] [] (.agg [.ref 20000 1 0 res.nodes.length, .ref 20001 1 0 res.ties.length, .lit (.int .i64 res.horizon)]) [(20000, 1, .row true (rowsOf GNode.encO res.nodes)), (20001, 1, .row true (rowsOf GTie.enc res.ties))] := by
  refine callOk_of (ra := [.homeCell 128 0, .homeCell 128 1]) (md := mdT) hT (hi := hi132) Go.Proofs.Try.func132 rfl rfl (by decide +kernel) (by simp) ?_
  unfold m_spec_l08Copy at h
  try simp -implicitDefEqProofs -dsimp only [go_sem]
  refine zforkI ?_ ?_
  · try simp -implicitDefEqProofs -dsimp only [go_sem]
    refine zforkI ?_ ?_
    · obtain ⟨h1, h⟩ := chk_some h
      obtain ⟨h2, h⟩ := chk_some h
      obtain ⟨q1002, l3, h⟩ := obnd_some h
      simp -implicitDefEqProofs -dsimp only [go_sem, (eq_true h1), (eq_true h2)]
      refine loopW_loopO (m1 := .mk) (m2 := .mk) [.homeCell 192 0, .nf [2, 3, 14, 15, 16] [128, 192, 100012288, 384]] (m_spec_l08Copy_L1_St s.nodes ((s.nodes.length : Nat) : Int) s.horizon s.ties) l3 ?_ ?_
      · simp -implicitDefEqProofs -dsimp only [go_sem, (eq_true h1), (eq_true h2)]
      · intro nb4 sb4 bb4 b4 gb4
        obtain ⟨v16_1, h100012288_1⟩ := sb4
        unfold m_spec_l08Copy_L1 at b4
        try dsimp only at b4
        rcases ite_some b4 with ⟨h5, b4⟩ | ⟨h5, b4⟩
        · obtain ⟨x1001, g6, b4⟩ := obnd_some b4
          obtain ⟨h7, h8, h9⟩ := getI_some g6
          obtain ⟨h10, b4⟩ := chk_some b4
          obtain ⟨h11, b4⟩ := chk_some b4
          obtain ⟨h12, b4⟩ := chk_some b4
          obtain ⟨h13, b4⟩ := chk_some b4
          cases b4
          simp -implicitDefEqProofs -dsimp only [go_sem, (eq_true h1), (eq_true h2), (eq_true h5), h7, h8, h9, (eq_true h10), (eq_true h11), (eq_true h12), (eq_true h13)]
          refine next_of gb4 ?_
          simp -implicitDefEqProofs -dsimp only [go_sem, (eq_true h1), (eq_true h2), (eq_true h5), h7, h8, h9, (eq_true h10), (eq_true h11), (eq_true h12), (eq_true h13)]
        · cases b4
          have e14 := done_of gb4
          subst e14
          try dsimp only at h
          cases h
          simp -implicitDefEqProofs -dsimp only [go_sem, (eq_true h1), (eq_true h2), (eq_false h5)]
    · obtain ⟨h15, h⟩ := chk_some h
      obtain ⟨h16, h⟩ := chk_some h
      obtain ⟨q1004, l17, h⟩ := obnd_some h
      simp -implicitDefEqProofs -dsimp only [go_sem, (eq_true h15), (eq_true h16)]
      refine loopW_loopO (m1 := .mk) (m2 := .mk) [.homeCell 192 0, .nf [2, 3, 14, 15, 16] [128, 192, 100012288, 384]] (m_spec_l08Copy_L1_St s.nodes ((s.nodes.length : Nat) : Int) s.horizon s.ties) l17 ?_ ?_
      · simp -implicitDefEqProofs -dsimp only [go_sem, (eq_true h15), (eq_true h16)]
      · intro nb18 sb18 bb18 b18 gb18
        obtain ⟨v16_2, h100012288_2⟩ := sb18
        unfold m_spec_l08Copy_L1 at b18
        try dsimp only at b18
        rcases ite_some b18 with ⟨h19, b18⟩ | ⟨h19, b18⟩
        · obtain ⟨x1003, g20, b18⟩ := obnd_some b18
          obtain ⟨h21, h22, h23⟩ := getI_some g20
          obtain ⟨h24, b18⟩ := chk_some b18
          obtain ⟨h25, b18⟩ := chk_some b18
          obtain ⟨h26, b18⟩ := chk_some b18
          obtain ⟨h27, b18⟩ := chk_some b18
          cases b18
          simp -implicitDefEqProofs -dsimp only [go_sem, (eq_true h15), (eq_true h16), (eq_true h19), h21, h22, h23, (eq_true h24), (eq_true h25), (eq_true h26), (eq_true h27)]
          refine next_of gb18 ?_
          simp -implicitDefEqProofs -dsimp only [go_sem, (eq_true h15), (eq_true h16), (eq_true h19), h21, h22, h23, (eq_true h24), (eq_true h25), (eq_true h26), (eq_true h27)]
        · cases b18
          have e28 := done_of gb18
          subst e28
          try dsimp only at h
          cases h
          simp -implicitDefEqProofs -dsimp only [go_sem, (eq_true h15), (eq_true h16), (eq_false h19)]
  · obtain ⟨h29, h⟩ := chk_some h
    obtain ⟨h30, h⟩ := chk_some h
    obtain ⟨q1006, l31, h⟩ := obnd_some h
    simp -implicitDefEqProofs -dsimp only [go_sem, (eq_true h29), (eq_true h30)]
    refine loopW_loopO (m1 := .mk) (m2 := .mk) [.homeCell 192 0, .nf [2, 3, 14, 15, 16] [128, 192, 100012288, 384]] (m_spec_l08Copy_L1_St s.nodes ((s.nodes.length : Nat) : Int) s.horizon s.ties) l31 ?_ ?_
    · simp -implicitDefEqProofs -dsimp only [go_sem, (eq_true h29), (eq_true h30)]
    · intro nb32 sb32 bb32 b32 gb32
      obtain ⟨v16_3, h100012288_3⟩ := sb32
      unfold m_spec_l08Copy_L1 at b32
      try dsimp only at b32
      rcases ite_some b32 with ⟨h33, b32⟩ | ⟨h33, b32⟩
      · obtain ⟨x1005, g34, b32⟩ := obnd_some b32
        obtain ⟨h35, h36, h37⟩ := getI_some g34
        obtain ⟨h38, b32⟩ := chk_some b32
        obtain ⟨h39, b32⟩ := chk_some b32
        obtain ⟨h40, b32⟩ := chk_some b32
        obtain ⟨h41, b32⟩ := chk_some b32
        cases b32
        simp -implicitDefEqProofs -dsimp only [go_sem, (eq_true h29), (eq_true h30), (eq_true h33), h35, h36, h37, (eq_true h38), (eq_true h39), (eq_true h40), (eq_true h41)]
        refine next_of gb32 ?_
        simp -implicitDefEqProofs -dsimp only [go_sem, (eq_true h29), (eq_true h30), (eq_true h33), h35, h36, h37, (eq_true h38), (eq_true h39), (eq_true h40), (eq_true h41)]
      · cases b32
        have e42 := done_of gb32
        subst e42
        try dsimp only at h
        cases h
        simp -implicitDefEqProofs -dsimp only [go_sem, (eq_true h29), (eq_true h30), (eq_false h33)]
/- 147 loop.example/g00827/spec.StartState -/
def m_spec_StartState_L1_St (v14 : Int) (h640 : List Int) : (Int × (List Int)) → St
  | (v15, h100012289) => ⟨[(2, .ptr 128 1 0 0), (3, .ptr 192 1 0 0), (14, .lit (.int .i64 v14)), (15, .lit (.int .i64 v15))], [(128, 1, .var [.lit (.int .i64 0), .lit (.slice none 0 0), .lit (.slice none 0 0)]), (192, 1, .var [.lit (.int .i64 0), .ref 100012289 1 0 h100012289.length, .ref 640 1 0 h640.length]), (100012289, 1, .row true (rowsOf eI h100012289)), (640, 1, .row true (rowsOf eI h640))], 2⟩
attribute [go_sem] m_spec_StartState_L1_St
def hi147 : Hint where
  acts := fun _ => []
  draws := fun
    | _ => ⟨.nil, [], []⟩
theorem hi147a (i : Nat) : hi147.acts i = [] := rfl
theorem hi147v (i : Nat) : hi147.views i = none := rfl
attribute [go_sem] hi147a hi147v Go.Proofs.Try.ntmps147 Go.Proofs.Try.results147
theorem c_spec_StartState {s : GShow} {res : GState} (h : m_spec_StartState s = some res) : CallOk Go.Proofs.Try.prog 147 [.agg [.sl (rowsOf GNode.encS s.nodes), .sl (rowsOf GTie.enc s.ties), .lit (.int .i64 s.horizon)]] [] (.agg [.lit (.int .i64 res.now), .ref 20000 1 0 res.times.length, .ref 20001 1 0 res.values.length]) [(20000, 1, .row true (rowsOf eI res.times)), (20001, 1, .row true (rowsOf eI res.values))] := by
  refine callOk_of (ra := [.homeCell 128 1, .homeCell 128 2]) (md := mdT) hT (hi := hi147) Go.Proofs.Try.func147 rfl rfl (by decide +kernel) (by simp) ?_
  unfold m_spec_StartState at h
  obtain ⟨r1001, g1, h⟩ := obnd_some h
  simp -implicitDefEqProofs -dsimp only [go_sem]
  refine callW_of (c_spec_ShowOk g1) ?_
  rcases ite_some h with ⟨h2, h⟩ | ⟨h2, h⟩
  · obtain ⟨q1002, l3, h⟩ := obnd_some h
    simp -implicitDefEqProofs -dsimp only [go_sem, (eq_true h2), (condZ_t h2)]
    refine loopW_loopO (m1 := .mk) (m2 := .mk) [.homeCell 192 1, .nf [2, 3, 14, 15] [128, 192, 100012289, 640]] (m_spec_StartState_L1_St ((s.nodes.length : Nat) : Int) (List.replicate 3 0)) l3 ?_ ?_
    · simp -implicitDefEqProofs -dsimp only [go_sem, (eq_true h2), (condZ_t h2)]
    · intro nb4 sb4 bb4 b4 gb4
      obtain ⟨v15_1, h100012289_1⟩ := sb4
      unfold m_spec_StartState_L1 at b4
      try dsimp only at b4
      rcases ite_some b4 with ⟨h5, b4⟩ | ⟨h5, b4⟩
      · rcases ite_some b4 with ⟨h6, b4⟩ | ⟨h6, b4⟩
        · obtain ⟨h7, b4⟩ := chk_some b4
          obtain ⟨h8, b4⟩ := chk_some b4
          cases b4
          simp -implicitDefEqProofs -dsimp only [go_sem, (eq_true h2), (condZ_t h2), (eq_true h5), (eq_true h6), (eq_true h7), (eq_true h8)]
          refine next_of gb4 ?_
          simp -implicitDefEqProofs -dsimp only [go_sem, (eq_true h2), (condZ_t h2), (eq_true h5), (eq_true h6), (eq_true h7), (eq_true h8)]
        · obtain ⟨h9, b4⟩ := chk_some b4
          obtain ⟨h10, b4⟩ := chk_some b4
          cases b4
          simp -implicitDefEqProofs -dsimp only [go_sem, (eq_true h2), (condZ_t h2), (eq_true h5), (eq_false h6), (eq_true h9), (eq_true h10)]
          refine next_of gb4 ?_
          simp -implicitDefEqProofs -dsimp only [go_sem, (eq_true h2), (condZ_t h2), (eq_true h5), (eq_false h6), (eq_true h9), (eq_true h10)]
      · cases b4
        have e11 := done_of gb4
        subst e11
        try dsimp only at h
        cases h
        simp -implicitDefEqProofs -dsimp only [go_sem, (eq_true h2), (condZ_t h2), (eq_false h5)]
  · cases h
    simp -implicitDefEqProofs -dsimp only [go_sem, (eq_false h2), (condZ_f h2)]
/- 79 loop.example/g00827/spec.NewDesk -/
def hi79 : Hint where
  acts := fun _ => []
  draws := fun
    | 3 => ⟨.cons ⟨0, false, []⟩ (.cons ⟨2, true, []⟩ (.cons ⟨4, false, []⟩ (.cons ⟨1, false, [2]⟩ (.cons ⟨3, false, []⟩ (.cons ⟨5, false, []⟩ (.cons ⟨6, false, []⟩ (.cons ⟨7, false, []⟩ .nil))))))), [[], [0], [], [0, 1, 2], [], [0, 1, 2, 3, 4], [0, 1, 2, 3, 4, 5], [0, 1, 2, 3, 4, 5, 6]], [0, 1, 2, 3, 4, 5, 6, 7]⟩
    | _ => ⟨.nil, [], []⟩
theorem hi79a (i : Nat) : hi79.acts i = [] := rfl
theorem hi79v (i : Nat) : hi79.views i = none := rfl
attribute [go_sem] hi79a hi79v Go.Proofs.Try.ntmps79 Go.Proofs.Try.results79
@[go_sem] theorem hi79d3 : (hi79.draws 3).order = .cons ⟨0, false, []⟩ (.cons ⟨2, true, []⟩ (.cons ⟨4, false, []⟩ (.cons ⟨1, false, [2]⟩ (.cons ⟨3, false, []⟩ (.cons ⟨5, false, []⟩ (.cons ⟨6, false, []⟩ (.cons ⟨7, false, []⟩ .nil))))))) := rfl
theorem c_spec_NewDesk {s : GShow} {lazy : Bool} {res : GDesk × Bool} (h : m_spec_NewDesk s lazy = some res) : CallOk Go.Proofs.Try.prog 79 [.agg [.sl (rowsOf GNode.encS s.nodes), .sl (rowsOf GTie.enc s.ties), .lit (.int .i64 s.horizon)], .lit (.bool lazy)] [] (.tup [.agg [.ref 20000 1 0 res.1.show_.nodes.length, .ref 20001 1 0 res.1.show_.ties.length, .lit (.int .i64 res.1.show_.horizon), .lit (.int .i64 res.1.state.now), .ref 20002 1 0 res.1.state.times.length, .ref 20003 1 0 res.1.state.values.length, .lit (.bool res.1.lazy), .ref 20004 1 0 res.1.log.length], .lit (.bool res.2)]) [(20000, 1, .row true (rowsOf GNode.encO res.1.show_.nodes)), (20001, 1, .row true (rowsOf GTie.enc res.1.show_.ties)), (20002, 1, .row true (rowsOf eI res.1.state.times)), (20003, 1, .row true (rowsOf eI res.1.state.values)), (20004, 1, .row true (rowsOf GEntry.encO res.1.log))] := by
  refine callOk_of (ra := [.homeCell 256 0, .homeCell 256 1, .homeCell 256 4, .homeCell 256 5, .homeCell 256 7]) (md := mdT) hT (hi := hi79) Go.Proofs.Try.func79 rfl rfl (by decide +kernel) (by simp) ?_
  unfold m_spec_NewDesk at h
  obtain ⟨r1001, g1, h⟩ := obnd_some h
  simp -implicitDefEqProofs -dsimp only [go_sem]
  refine callW_of (c_spec_ShowOk g1) ?_
  rcases ite_some h with ⟨h2, h⟩ | ⟨h2, h⟩
  · obtain ⟨r1002, g3, h⟩ := obnd_some h
    simp -implicitDefEqProofs -dsimp only [go_sem, (eq_true h2), (condZ_t h2)]
    refine callW_of (c_spec_l08Copy g3) ?_
    obtain ⟨r1003, g4, h⟩ := obnd_some h
    simp -implicitDefEqProofs -dsimp only [go_sem, (eq_true h2), (condZ_t h2)]
    refine callW_of (c_spec_StartState g4) ?_
    cases h
    simp -implicitDefEqProofs -dsimp only [go_sem, (eq_true h2), (condZ_t h2)]
  · cases h
    simp -implicitDefEqProofs -dsimp only [go_sem, (eq_false h2), (condZ_f h2)]
/- 163 slices.Clone[[]loop.example/g00827/impl.Tie,loop.example/g00827/impl.Tie] -/
def hi163 : Hint where
  acts := fun _ => []
  draws := fun
    | _ => ⟨.nil, [], []⟩
theorem hi163a (i : Nat) : hi163.acts i = [] := rfl
theorem hi163v (i : Nat) : hi163.views i = none := rfl
attribute [go_sem] hi163a hi163v Go.Proofs.Try.ntmps163 Go.Proofs.Try.results163
theorem c_slices_Clone_Tie {v0 : List GTie} {res : List GTie} (h : m_slices_Clone_Tie v0 = some res) : CallOk Go.Proofs.Try.prog 163 [.sl (rowsOf GTie.enc v0)] [] (.ref 20000 1 0 res.length) [(20000, 1, .row true (rowsOf GTie.enc res))] := by
  refine callOk_of (ra := [.home 2]) (md := mdT) hT (hi := hi163) Go.Proofs.Try.func163 rfl rfl (by decide +kernel) (by simp) ?_
  unfold m_slices_Clone_Tie at h
  rcases nilQ_some h with ⟨h1, h3, h2⟩ | ⟨h1, h3⟩
  · cases h3
    simp -implicitDefEqProofs -dsimp only [go_sem, h1]
  · obtain ⟨h4, h3⟩ := chk_some h3
    obtain ⟨h5, h3⟩ := chk_some h3
    cases h3
    simp -implicitDefEqProofs -dsimp only [go_sem, evIsNil_ne h1, (eq_true h4), (eq_true h5)]
/- 88 slices.Clone[[]int,int] -/
def hi88 : Hint where
  acts := fun _ => []
  draws := fun
    | _ => ⟨.nil, [], []⟩
theorem hi88a (i : Nat) : hi88.acts i = [] := rfl
theorem hi88v (i : Nat) : hi88.views i = none := rfl
attribute [go_sem] hi88a hi88v Go.Proofs.Try.ntmps88 Go.Proofs.Try.results88
theorem c_slices_Clone_int {v0 : List Int} {res : List Int} (h : m_slices_Clone_int v0 = some res) : CallOk Go.Proofs.Try.prog 88 [.sl (rowsOf eI v0)] [] (.ref 20000 1 0 res.length) [(20000, 1, .row true (rowsOf eI res))] := by
  refine callOk_of (ra := [.home 2]) (md := mdT) hT (hi := hi88) Go.Proofs.Try.func88 rfl rfl (by decide +kernel) (by simp) ?_
  unfold m_slices_Clone_int at h
  rcases nilQ_some h with ⟨h1, h3, h2⟩ | ⟨h1, h3⟩
  · cases h3
    simp -implicitDefEqProofs -dsimp only [go_sem, h1]
  · obtain ⟨h4, h3⟩ := chk_some h3
    obtain ⟨h5, h3⟩ := chk_some h3
    cases h3
    simp -implicitDefEqProofs -dsimp only [go_sem, evIsNil_ne h1, (eq_true h4), (eq_true h5)]
/- 101 loop.example/g00827/impl.copyShow -/
def m_impl_copyShow_L1_St (v13 : List GNode) (v14 : Int) (out_2 : Int) (h512 : List GTie) : (Int × (List GNode)) → St
  | (v15, h100012288) => ⟨[(2, .ptr 128 1 0 0), (3, .ptr 192 1 0 0), (13, .sl (rowsOf GNode.encS v13)), (14, .lit (.int .i64 v14)), (15, .lit (.int .i64 v15))], [(128, 1, .var [.lit (.slice none 0 0), .lit (.slice none 0 0), .lit (.int .i64 0)]), (192, 1, .var [.ref 100012288 1 0 h100012288.length, .ref 512 1 0 h512.length, .lit (.int .i64 out_2)]), (100012288, 1, .row true (rowsOf GNode.encO h100012288)), (512, 1, .row true (rowsOf GTie.enc h512))], 2⟩
attribute [go_sem] m_impl_copyShow_L1_St
def hi101 : Hint where
  acts := fun _ => []
  draws := fun
    | 1 => ⟨.cons ⟨0, true, []⟩ (.cons ⟨1, true, []⟩ (.cons ⟨3, true, []⟩ (.cons ⟨4, true, []⟩ (.fork (.cons ⟨2, false, [3, 4]⟩ (.cons ⟨5, false, []⟩ (.cons ⟨6, false, [0, 1, 3, 4]⟩ (.cons ⟨7, false, []⟩ .nil)))) (.cons ⟨6, false, [0, 1, 3, 4]⟩ (.cons ⟨2, false, [3, 4]⟩ (.cons ⟨5, false, []⟩ (.cons ⟨7, false, []⟩ .nil)))))))), [[], [0], [0, 1], [], [3], [0, 1, 2, 3, 4], [], [0, 1, 2, 3, 4, 5, 6]], [0, 1, 2, 3, 4, 5, 6, 7]⟩
    | _ => ⟨.nil, [], []⟩
theorem hi101a (i : Nat) : hi101.acts i = [] := rfl
theorem hi101v (i : Nat) : hi101.views i = none := rfl
attribute [go_sem] hi101a hi101v Go.Proofs.Try.ntmps101 Go.Proofs.Try.results101
@[go_sem] theorem hi101d1 : (hi101.draws 1).order = .cons ⟨0, true, []⟩ (.cons ⟨1, true, []⟩ (.cons ⟨3, true, []⟩ (.cons ⟨4, true, []⟩ (.fork (.cons ⟨2, false, [3, 4]⟩ (.cons ⟨5, false, []⟩ (.cons ⟨6, false, [0, 1, 3, 4]⟩ (.cons ⟨7, false, []⟩ .nil)))) (.cons ⟨6, false, [0, 1, 3, 4]⟩ (.cons ⟨2, false, [3, 4]⟩ (.cons ⟨5, false, []⟩ (.cons ⟨7, false, []⟩ .nil)))))))) := rfl
theorem c_impl_copyShow {s : GShow} {res : GShow} (h : m_impl_copyShow s = some res) : CallOk Go.Proofs.Try.prog 101 [.agg [.sl (rowsOf GNode.encS s.nodes), .sl (rowsOf GTie.enc s.ties), .lit (.int .i64 s.horizon)]] [] (.agg [.ref 20000 1 0 res.nodes.length, .ref 20001 1 0 res.ties.length, .lit (.int .i64 res.horizon)]) [(20000, 1, .row true (rowsOf GNode.encO res.nodes)), (20001, 1, .row true (rowsOf GTie.enc res.ties))] := by
  refine callOk_of (ra := [.homeCell 128 0, .homeCell 128 1]) (md := mdT) hT (hi := hi101) Go.Proofs.Try.func101 rfl rfl (by decide +kernel) (by simp) ?_
  unfold m_impl_copyShow at h
  try simp -implicitDefEqProofs -dsimp only [go_sem]
  refine zforkI ?_ ?_
  · obtain ⟨r1001, g1, h⟩ := obnd_some h
    simp -implicitDefEqProofs -dsimp only [go_sem]
    refine callW_of (c_slices_Clone_Tie g1) ?_
    obtain ⟨q1004, l2, h⟩ := obnd_some h
    simp -implicitDefEqProofs -dsimp only [go_sem]
    refine loopW_loopO (m1 := .mk) (m2 := .mk) [.homeCell 192 0, .nf [2, 3, 13, 14, 15] [128, 192, 100012288, 512]] (m_impl_copyShow_L1_St s.nodes ((s.nodes.length : Nat) : Int) s.horizon r1001) l2 ?_ ?_
    · simp -implicitDefEqProofs -dsimp only [go_sem]
    · intro nb3 sb3 bb3 b3 gb3
      obtain ⟨v15_1, h100012288_1⟩ := sb3
      unfold m_impl_copyShow_L1 at b3
      try dsimp only at b3
      rcases ite_some b3 with ⟨h4, b3⟩ | ⟨h4, b3⟩
      · obtain ⟨x1002, g5, b3⟩ := obnd_some b3
        obtain ⟨h6, h7, h8⟩ := getI_some g5
        obtain ⟨r1003, g9, b3⟩ := obnd_some b3
        simp -implicitDefEqProofs -dsimp only [go_sem, (eq_true h4), h6, h7, h8]
        refine callW_of (c_slices_Clone_int g9) ?_
        obtain ⟨h10, b3⟩ := chk_some b3
        obtain ⟨h11, b3⟩ := chk_some b3
        cases b3
        simp -implicitDefEqProofs -dsimp only [go_sem, (eq_true h4), h6, h7, h8, (eq_true h10), (eq_true h11)]
        refine next_of gb3 ?_
        simp -implicitDefEqProofs -dsimp only [go_sem, (eq_true h4), h6, h7, h8, (eq_true h10), (eq_true h11)]
      · cases b3
        have e12 := done_of gb3
        subst e12
        try dsimp only at h
        cases h
        simp -implicitDefEqProofs -dsimp only [go_sem, (eq_false h4)]
  · obtain ⟨r1005, g13, h⟩ := obnd_some h
    simp -implicitDefEqProofs -dsimp only [go_sem]
    refine callW_of (c_slices_Clone_Tie g13) ?_
    obtain ⟨q1008, l14, h⟩ := obnd_some h
    simp -implicitDefEqProofs -dsimp only [go_sem]
    refine loopW_loopO (m1 := .mk) (m2 := .mk) [.homeCell 192 0, .nf [2, 3, 13, 14, 15] [128, 192, 100012288, 512]] (m_impl_copyShow_L1_St s.nodes ((s.nodes.length : Nat) : Int) s.horizon r1005) l14 ?_ ?_
    · simp -implicitDefEqProofs -dsimp only [go_sem]
    · intro nb15 sb15 bb15 b15 gb15
      obtain ⟨v15_2, h100012288_2⟩ := sb15
      unfold m_impl_copyShow_L1 at b15
      try dsimp only at b15
      rcases ite_some b15 with ⟨h16, b15⟩ | ⟨h16, b15⟩
      · obtain ⟨x1006, g17, b15⟩ := obnd_some b15
        obtain ⟨h18, h19, h20⟩ := getI_some g17
        obtain ⟨r1007, g21, b15⟩ := obnd_some b15
        simp -implicitDefEqProofs -dsimp only [go_sem, (eq_true h16), h18, h19, h20]
        refine callW_of (c_slices_Clone_int g21) ?_
        obtain ⟨h22, b15⟩ := chk_some b15
        obtain ⟨h23, b15⟩ := chk_some b15
        cases b15
        simp -implicitDefEqProofs -dsimp only [go_sem, (eq_true h16), h18, h19, h20, (eq_true h22), (eq_true h23)]
        refine next_of gb15 ?_
        simp -implicitDefEqProofs -dsimp only [go_sem, (eq_true h16), h18, h19, h20, (eq_true h22), (eq_true h23)]
      · cases b15
        have e24 := done_of gb15
        subst e24
        try dsimp only at h
        cases h
        simp -implicitDefEqProofs -dsimp only [go_sem, (eq_false h16)]
/- 210 math/bits.Mul64 -/
def hi210 : Hint where
  acts := fun _ => []
  draws := fun
    | _ => ⟨.nil, [], []⟩
theorem hi210a (i : Nat) : hi210.acts i = [] := rfl
theorem hi210v (i : Nat) : hi210.views i = none := rfl
attribute [go_sem] hi210a hi210v Go.Proofs.Try.ntmps210 Go.Proofs.Try.results210
theorem c_bits_Mul64 {v0 : Int} {y : Int} {res : Int × Int} (h : m_bits_Mul64 v0 y = some res) : CallOk Go.Proofs.Try.prog 210 [.lit (.int .u64 v0), .lit (.int .u64 y)] [] (.tup [.lit (.int .u64 res.1), .lit (.int .u64 res.2)]) [] := by
  refine callOk_of (ra := []) (md := mdT) hT (hi := hi210) Go.Proofs.Try.func210 rfl rfl (by decide +kernel) (by simp) ?_
  unfold m_bits_Mul64 at h
  cases h
  simp -implicitDefEqProofs -dsimp only [go_sem]
/- 205 math/bits.Mul -/
def hi205 : Hint where
  acts := fun _ => []
  draws := fun
    | _ => ⟨.nil, [], []⟩
theorem hi205a (i : Nat) : hi205.acts i = [] := rfl
theorem hi205v (i : Nat) : hi205.views i = none := rfl
attribute [go_sem] hi205a hi205v Go.Proofs.Try.ntmps205 Go.Proofs.Try.results205
theorem c_bits_Mul {v0 : Int} {y : Int} {res : Int × Int} (h : m_bits_Mul v0 y = some res) : CallOk Go.Proofs.Try.prog 205 [.lit (.int .u64 v0), .lit (.int .u64 y)] [] (.tup [.lit (.int .u64 res.1), .lit (.int .u64 res.2)]) [] := by
  refine callOk_of (ra := []) (md := mdT) hT (hi := hi205) Go.Proofs.Try.func205 rfl rfl (by decide +kernel) (by simp) ?_
  unfold m_bits_Mul at h
  obtain ⟨r1001, g1, h⟩ := obnd_some h
  simp -implicitDefEqProofs -dsimp only [go_sem]
  refine callW_of (c_bits_Mul64 g1) ?_
  cases h
  simp -implicitDefEqProofs -dsimp only [go_sem]
/- 192 slices.Repeat[[]int,int] -/
def m_slices_Repeat_int_L1_St  : (Int × (List Int)) → St
  | (v8, v7) => ⟨[(7, .ref 1920 1 0 v7.length), (8, .lit (.int .i64 v8))], [(1920, 1, .row true (rowsOf eI v7))], 2⟩
attribute [go_sem] m_slices_Repeat_int_L1_St
def hi192 : Hint where
  acts := fun _ => []
  draws := fun
    | 9 => ⟨.cons ⟨0, false, []⟩ (.cons ⟨1, false, []⟩ (.cons ⟨2, false, []⟩ (.cons ⟨3, false, []⟩ (.cons ⟨4, false, []⟩ (.cons ⟨5, false, []⟩ (.cons ⟨6, false, []⟩ (.cons ⟨7, false, []⟩ (.cons ⟨8, false, []⟩ (.cons ⟨9, false, []⟩ .nil))))))))), [[], [], [], [1, 2], [], [], [4, 5], [1, 2, 3, 4, 5, 6], [0, 1, 2, 3, 4, 5, 6, 7], [0, 1, 2, 3, 4, 5, 6, 7, 8]], [0, 1, 2, 3, 4, 5, 6, 7, 8, 9]⟩
    | _ => ⟨.nil, [], []⟩
theorem hi192a (i : Nat) : hi192.acts i = [] := rfl
theorem hi192v (i : Nat) : hi192.views i = none := rfl
attribute [go_sem] hi192a hi192v Go.Proofs.Try.ntmps192 Go.Proofs.Try.results192
@[go_sem] theorem hi192d9 : (hi192.draws 9).order = .cons ⟨0, false, []⟩ (.cons ⟨1, false, []⟩ (.cons ⟨2, false, []⟩ (.cons ⟨3, false, []⟩ (.cons ⟨4, false, []⟩ (.cons ⟨5, false, []⟩ (.cons ⟨6, false, []⟩ (.cons ⟨7, false, []⟩ (.cons ⟨8, false, []⟩ (.cons ⟨9, false, []⟩ .nil))))))))) := rfl
theorem c_slices_Repeat_int {v0 : List Int} {v1 : Int} {res : List Int} (h : m_slices_Repeat_int v0 v1 = some res) : CallOk Go.Proofs.Try.prog 192 [.sl (rowsOf eI v0), .lit (.int .i64 v1)] [] (.ref 20000 1 0 res.length) [(20000, 1, .row true (rowsOf eI res))] := by
  refine callOk_of (ra := [.home 4]) (md := mdT) hT (hi := hi192) Go.Proofs.Try.func192 rfl rfl (by decide +kernel) (by simp) ?_
  unfold m_slices_Repeat_int at h
  rcases ite_some h with ⟨h1, h⟩ | ⟨h1, h⟩
  · cases h
  · obtain ⟨r1001, g2, h⟩ := obnd_some h
    simp -implicitDefEqProofs -dsimp only [go_sem, (eq_false h1)]
    refine callW_of (c_bits_Mul g2) ?_
    rcases ite_some h with ⟨h3, h⟩ | ⟨h3, h⟩
    · cases h
    · rcases ite_some h with ⟨h4, h⟩ | ⟨h4, h⟩
      · cases h
      · obtain ⟨h5, h⟩ := chk_some h
        obtain ⟨h6, h⟩ := chk_some h
        obtain ⟨h7, h⟩ := chk_some h
        obtain ⟨q1002, l8, h⟩ := obnd_some h
        simp -implicitDefEqProofs -dsimp only [go_sem, (eq_false h1), (eq_false h3), (eq_false h4), (eq_true h5), (eq_true h6), (eq_true h7)]
        refine loopW_loopO (m1 := .mk) (m2 := .mk) [.nf [7, 8] [1920]] (m_slices_Repeat_int_L1_St) l8 ?_ ?_
        · simp -implicitDefEqProofs -dsimp only [go_sem, (eq_false h1), (eq_false h3), (eq_false h4), (eq_true h5), (eq_true h6), (eq_true h7)]
        · intro nb9 sb9 bb9 b9 gb9
          obtain ⟨v8_1, v7_1⟩ := sb9
          unfold m_slices_Repeat_int_L1 at b9
          try dsimp only at b9
          rcases ite_some b9 with ⟨h10, b9⟩ | ⟨h10, b9⟩
          · obtain ⟨h11, b9⟩ := chk_some b9
            obtain ⟨h12, b9⟩ := chk_some b9
            obtain ⟨h13, b9⟩ := chk_some b9
            cases b9
            simp -implicitDefEqProofs -dsimp only [go_sem, (eq_false h1), (eq_false h3), (eq_false h4), (eq_true h5), (eq_true h6), (eq_true h7), (eq_true h10), (eq_true h11), (eq_true h12), (eq_true h13)]
            refine next_of gb9 ?_
            simp -implicitDefEqProofs -dsimp only [go_sem, (eq_false h1), (eq_false h3), (eq_false h4), (eq_true h5), (eq_true h6), (eq_true h7), (eq_true h10), (eq_true h11), (eq_true h12), (eq_true h13)]
          · cases b9
            have e14 := done_of gb9
            subst e14
            try dsimp only at h
            cases h
            simp -implicitDefEqProofs -dsimp only [go_sem, (eq_false h1), (eq_false h3), (eq_false h4), (eq_true h5), (eq_true h6), (eq_true h7), (eq_false h10)]
/- 148 loop.example/g00827/impl.StartState -/
def hi148 : Hint where
  acts := fun _ => []
  draws := fun
    | 3 => ⟨.cons ⟨1, true, []⟩ (.cons ⟨2, true, []⟩ (.cons ⟨3, true, []⟩ (.fork (.cons ⟨0, false, [1, 2, 3]⟩ (.fork (.cons ⟨4, false, []⟩ (.fork (.cons ⟨5, false, [1, 2, 3]⟩ (.cons ⟨6, false, []⟩ (.cons ⟨7, false, [1, 2, 3]⟩ (.cons ⟨8, false, []⟩ .nil)))) (.cons ⟨7, false, [1, 2, 3]⟩ (.cons ⟨5, false, [1, 2, 3]⟩ (.cons ⟨6, false, []⟩ (.cons ⟨8, false, []⟩ .nil)))))) (.fork (.cons ⟨5, false, [1, 2, 3]⟩ (.fork (.cons ⟨4, false, []⟩ (.cons ⟨6, false, []⟩ (.cons ⟨7, false, [1, 2, 3]⟩ (.cons ⟨8, false, []⟩ .nil)))) (.cons ⟨7, false, [1, 2, 3]⟩ (.cons ⟨4, false, []⟩ (.cons ⟨6, false, []⟩ (.cons ⟨8, false, []⟩ .nil)))))) (.cons ⟨7, false, [1, 2, 3]⟩ (.fork (.cons ⟨4, false, []⟩ (.cons ⟨5, false, [1, 2, 3]⟩ (.cons ⟨6, false, []⟩ (.cons ⟨8, false, []⟩ .nil)))) (.cons ⟨5, false, [1, 2, 3]⟩ (.cons ⟨4, false, []⟩ (.cons ⟨6, false, []⟩ (.cons ⟨8, false, []⟩ .nil))))))))) (.fork (.cons ⟨5, false, [1, 2, 3]⟩ (.fork (.cons ⟨0, false, [1, 2, 3]⟩ (.fork (.cons ⟨4, false, []⟩ (.cons ⟨6, false, []⟩ (.cons ⟨7, false, [1, 2, 3]⟩ (.cons ⟨8, false, []⟩ .nil)))) (.cons ⟨7, false, [1, 2, 3]⟩ (.cons ⟨4, false, []⟩ (.cons ⟨6, false, []⟩ (.cons ⟨8, false, []⟩ .nil)))))) (.cons ⟨7, false, [1, 2, 3]⟩ (.cons ⟨0, false, [1, 2, 3]⟩ (.cons ⟨4, false, []⟩ (.cons ⟨6, false, []⟩ (.cons ⟨8, false, []⟩ .nil))))))) (.cons ⟨7, false, [1, 2, 3]⟩ (.fork (.cons ⟨0, false, [1, 2, 3]⟩ (.fork (.cons ⟨4, false, []⟩ (.cons ⟨5, false, [1, 2, 3]⟩ (.cons ⟨6, false, []⟩ (.cons ⟨8, false, []⟩ .nil)))) (.cons ⟨5, false, [1, 2, 3]⟩ (.cons ⟨4, false, []⟩ (.cons ⟨6, false, []⟩ (.cons ⟨8, false, []⟩ .nil)))))) (.cons ⟨5, false, [1, 2, 3]⟩ (.cons ⟨0, false, [1, 2, 3]⟩ (.cons ⟨4, false, []⟩ (.cons ⟨6, false, []⟩ (.cons ⟨8, false, []⟩ .nil))))))))))), [[], [], [1], [1, 2], [0, 1, 2, 3], [], [0, 1, 2, 3, 4, 5], [], [0, 1, 2, 3, 4, 5, 6, 7]], [0, 1, 2, 3, 4, 5, 6, 7, 8]⟩
    | _ => ⟨.nil, [], []⟩
theorem hi148a (i : Nat) : hi148.acts i = [] := rfl
theorem hi148v (i : Nat) : hi148.views i = none := rfl
attribute [go_sem] hi148a hi148v Go.Proofs.Try.ntmps148 Go.Proofs.Try.results148
@[go_sem] theorem hi148d3 : (hi148.draws 3).order = .cons ⟨1, true, []⟩ (.cons ⟨2, true, []⟩ (.cons ⟨3, true, []⟩ (.fork (.cons ⟨0, false, [1, 2, 3]⟩ (.fork (.cons ⟨4, false, []⟩ (.fork (.cons ⟨5, false, [1, 2, 3]⟩ (.cons ⟨6, false, []⟩ (.cons ⟨7, false, [1, 2, 3]⟩ (.cons ⟨8, false, []⟩ .nil)))) (.cons ⟨7, false, [1, 2, 3]⟩ (.cons ⟨5, false, [1, 2, 3]⟩ (.cons ⟨6, false, []⟩ (.cons ⟨8, false, []⟩ .nil)))))) (.fork (.cons ⟨5, false, [1, 2, 3]⟩ (.fork (.cons ⟨4, false, []⟩ (.cons ⟨6, false, []⟩ (.cons ⟨7, false, [1, 2, 3]⟩ (.cons ⟨8, false, []⟩ .nil)))) (.cons ⟨7, false, [1, 2, 3]⟩ (.cons ⟨4, false, []⟩ (.cons ⟨6, false, []⟩ (.cons ⟨8, false, []⟩ .nil)))))) (.cons ⟨7, false, [1, 2, 3]⟩ (.fork (.cons ⟨4, false, []⟩ (.cons ⟨5, false, [1, 2, 3]⟩ (.cons ⟨6, false, []⟩ (.cons ⟨8, false, []⟩ .nil)))) (.cons ⟨5, false, [1, 2, 3]⟩ (.cons ⟨4, false, []⟩ (.cons ⟨6, false, []⟩ (.cons ⟨8, false, []⟩ .nil))))))))) (.fork (.cons ⟨5, false, [1, 2, 3]⟩ (.fork (.cons ⟨0, false, [1, 2, 3]⟩ (.fork (.cons ⟨4, false, []⟩ (.cons ⟨6, false, []⟩ (.cons ⟨7, false, [1, 2, 3]⟩ (.cons ⟨8, false, []⟩ .nil)))) (.cons ⟨7, false, [1, 2, 3]⟩ (.cons ⟨4, false, []⟩ (.cons ⟨6, false, []⟩ (.cons ⟨8, false, []⟩ .nil)))))) (.cons ⟨7, false, [1, 2, 3]⟩ (.cons ⟨0, false, [1, 2, 3]⟩ (.cons ⟨4, false, []⟩ (.cons ⟨6, false, []⟩ (.cons ⟨8, false, []⟩ .nil))))))) (.cons ⟨7, false, [1, 2, 3]⟩ (.fork (.cons ⟨0, false, [1, 2, 3]⟩ (.fork (.cons ⟨4, false, []⟩ (.cons ⟨5, false, [1, 2, 3]⟩ (.cons ⟨6, false, []⟩ (.cons ⟨8, false, []⟩ .nil)))) (.cons ⟨5, false, [1, 2, 3]⟩ (.cons ⟨4, false, []⟩ (.cons ⟨6, false, []⟩ (.cons ⟨8, false, []⟩ .nil)))))) (.cons ⟨5, false, [1, 2, 3]⟩ (.cons ⟨0, false, [1, 2, 3]⟩ (.cons ⟨4, false, []⟩ (.cons ⟨6, false, []⟩ (.cons ⟨8, false, []⟩ .nil))))))))))) := rfl
theorem c_impl_StartState {s : GShow} {res : GState} (h : m_impl_StartState s = some res) : CallOk Go.Proofs.Try.prog 148 [.agg [.sl (rowsOf GNode.encS s.nodes), .sl (rowsOf GTie.enc s.ties), .lit (.int .i64 s.horizon)]] [] (.agg [.lit (.int .i64 res.now), .ref 20000 1 0 res.times.length, .ref 20001 1 0 res.values.length]) [(20000, 1, .row true (rowsOf eI res.times)), (20001, 1, .row true (rowsOf eI res.values))] := by
  refine callOk_of (ra := [.homeCell 128 1, .homeCell 128 2]) (md := mdT) hT (hi := hi148) Go.Proofs.Try.func148 rfl rfl (by decide +kernel) (by simp) ?_
  unfold m_impl_StartState at h
  obtain ⟨r1001, g1, h⟩ := obnd_some h
  simp -implicitDefEqProofs -dsimp only [go_sem]
  refine callW_of (c_impl_ShowOk g1) ?_
  rcases ite_some h with ⟨h2, h⟩ | ⟨h2, h⟩
  · try simp -implicitDefEqProofs -dsimp only [go_sem, (eq_true h2), (condZ_t h2)]
    refine zforkI ?_ ?_
    · try simp -implicitDefEqProofs -dsimp only [go_sem, (eq_true h2), (condZ_t h2)]
      refine zforkI ?_ ?_
      · obtain ⟨r1002, g3, h⟩ := obnd_some h
        simp -implicitDefEqProofs -dsimp only [go_sem, (eq_true h2), (condZ_t h2)]
        refine callW_of (c_slices_Repeat_int g3) ?_
        try simp -implicitDefEqProofs -dsimp only [go_sem, (eq_true h2), (condZ_t h2)]
        refine zforkI ?_ ?_
        · obtain ⟨x1003, g4, h⟩ := obnd_some h
          obtain ⟨h6, h7⟩ := getI_nat (k := 0) g4
          cases h
          simp -implicitDefEqProofs -dsimp only [go_sem, (eq_true h2), (condZ_t h2), h6, h7]
        · obtain ⟨x1004, g8, h⟩ := obnd_some h
          obtain ⟨h10, h11⟩ := getI_nat (k := 0) g8
          cases h
          simp -implicitDefEqProofs -dsimp only [go_sem, (eq_true h2), (condZ_t h2), h10, h11]
      · try simp -implicitDefEqProofs -dsimp only [go_sem, (eq_true h2), (condZ_t h2)]
        refine zforkI ?_ ?_
        · try simp -implicitDefEqProofs -dsimp only [go_sem, (eq_true h2), (condZ_t h2)]
          refine zforkI ?_ ?_
          · obtain ⟨r1005, g12, h⟩ := obnd_some h
            simp -implicitDefEqProofs -dsimp only [go_sem, (eq_true h2), (condZ_t h2)]
            refine callW_of (c_slices_Repeat_int g12) ?_
            obtain ⟨x1006, g13, h⟩ := obnd_some h
            obtain ⟨h15, h16⟩ := getI_nat (k := 0) g13
            cases h
            simp -implicitDefEqProofs -dsimp only [go_sem, (eq_true h2), (condZ_t h2), h15, h16]
          · obtain ⟨r1007, g17, h⟩ := obnd_some h
            simp -implicitDefEqProofs -dsimp only [go_sem, (eq_true h2), (condZ_t h2)]
            refine callW_of (c_slices_Repeat_int g17) ?_
            obtain ⟨x1008, g18, h⟩ := obnd_some h
            obtain ⟨h20, h21⟩ := getI_nat (k := 0) g18
            cases h
            simp -implicitDefEqProofs -dsimp only [go_sem, (eq_true h2), (condZ_t h2), h20, h21]
        · try simp -implicitDefEqProofs -dsimp only [go_sem, (eq_true h2), (condZ_t h2)]
          refine zforkI ?_ ?_
          · obtain ⟨r1009, g22, h⟩ := obnd_some h
            simp -implicitDefEqProofs -dsimp only [go_sem, (eq_true h2), (condZ_t h2)]
            refine callW_of (c_slices_Repeat_int g22) ?_
            obtain ⟨x1010, g23, h⟩ := obnd_some h
            obtain ⟨h25, h26⟩ := getI_nat (k := 0) g23
            cases h
            simp -implicitDefEqProofs -dsimp only [go_sem, (eq_true h2), (condZ_t h2), h25, h26]
          · obtain ⟨r1011, g27, h⟩ := obnd_some h
            simp -implicitDefEqProofs -dsimp only [go_sem, (eq_true h2), (condZ_t h2)]
            refine callW_of (c_slices_Repeat_int g27) ?_
            obtain ⟨x1012, g28, h⟩ := obnd_some h
            obtain ⟨h30, h31⟩ := getI_nat (k := 0) g28
            cases h
            simp -implicitDefEqProofs -dsimp only [go_sem, (eq_true h2), (condZ_t h2), h30, h31]
    · try simp -implicitDefEqProofs -dsimp only [go_sem, (eq_true h2), (condZ_t h2)]
      refine zforkI ?_ ?_
      · try simp -implicitDefEqProofs -dsimp only [go_sem, (eq_true h2), (condZ_t h2)]
        refine zforkI ?_ ?_
        · try simp -implicitDefEqProofs -dsimp only [go_sem, (eq_true h2), (condZ_t h2)]
          refine zforkI ?_ ?_
          · obtain ⟨r1013, g32, h⟩ := obnd_some h
            simp -implicitDefEqProofs -dsimp only [go_sem, (eq_true h2), (condZ_t h2)]
            refine callW_of (c_slices_Repeat_int g32) ?_
            obtain ⟨x1014, g33, h⟩ := obnd_some h
            obtain ⟨h35, h36⟩ := getI_nat (k := 0) g33
            cases h
            simp -implicitDefEqProofs -dsimp only [go_sem, (eq_true h2), (condZ_t h2), h35, h36]
          · obtain ⟨r1015, g37, h⟩ := obnd_some h
            simp -implicitDefEqProofs -dsimp only [go_sem, (eq_true h2), (condZ_t h2)]
            refine callW_of (c_slices_Repeat_int g37) ?_
            obtain ⟨x1016, g38, h⟩ := obnd_some h
            obtain ⟨h40, h41⟩ := getI_nat (k := 0) g38
            cases h
            simp -implicitDefEqProofs -dsimp only [go_sem, (eq_true h2), (condZ_t h2), h40, h41]
        · obtain ⟨r1017, g42, h⟩ := obnd_some h
          simp -implicitDefEqProofs -dsimp only [go_sem, (eq_true h2), (condZ_t h2)]
          refine callW_of (c_slices_Repeat_int g42) ?_
          obtain ⟨x1018, g43, h⟩ := obnd_some h
          obtain ⟨h45, h46⟩ := getI_nat (k := 0) g43
          cases h
          simp -implicitDefEqProofs -dsimp only [go_sem, (eq_true h2), (condZ_t h2), h45, h46]
      · try simp -implicitDefEqProofs -dsimp only [go_sem, (eq_true h2), (condZ_t h2)]
        refine zforkI ?_ ?_
        · try simp -implicitDefEqProofs -dsimp only [go_sem, (eq_true h2), (condZ_t h2)]
          refine zforkI ?_ ?_
          · obtain ⟨r1019, g47, h⟩ := obnd_some h
            simp -implicitDefEqProofs -dsimp only [go_sem, (eq_true h2), (condZ_t h2)]
            refine callW_of (c_slices_Repeat_int g47) ?_
            obtain ⟨x1020, g48, h⟩ := obnd_some h
            obtain ⟨h50, h51⟩ := getI_nat (k := 0) g48
            cases h
            simp -implicitDefEqProofs -dsimp only [go_sem, (eq_true h2), (condZ_t h2), h50, h51]
          · obtain ⟨r1021, g52, h⟩ := obnd_some h
            simp -implicitDefEqProofs -dsimp only [go_sem, (eq_true h2), (condZ_t h2)]
            refine callW_of (c_slices_Repeat_int g52) ?_
            obtain ⟨x1022, g53, h⟩ := obnd_some h
            obtain ⟨h55, h56⟩ := getI_nat (k := 0) g53
            cases h
            simp -implicitDefEqProofs -dsimp only [go_sem, (eq_true h2), (condZ_t h2), h55, h56]
        · obtain ⟨r1023, g57, h⟩ := obnd_some h
          simp -implicitDefEqProofs -dsimp only [go_sem, (eq_true h2), (condZ_t h2)]
          refine callW_of (c_slices_Repeat_int g57) ?_
          obtain ⟨x1024, g58, h⟩ := obnd_some h
          obtain ⟨h60, h61⟩ := getI_nat (k := 0) g58
          cases h
          simp -implicitDefEqProofs -dsimp only [go_sem, (eq_true h2), (condZ_t h2), h60, h61]
  · cases h
    simp -implicitDefEqProofs -dsimp only [go_sem, (eq_false h2), (condZ_f h2)]
/- 80 loop.example/g00827/impl.NewDesk -/
def hi80 : Hint where
  acts := fun _ => []
  draws := fun
    | 3 => ⟨.cons ⟨0, false, []⟩ (.cons ⟨2, true, []⟩ (.cons ⟨4, false, []⟩ (.cons ⟨1, false, [2]⟩ (.cons ⟨3, false, []⟩ (.cons ⟨5, false, []⟩ (.cons ⟨6, false, []⟩ (.cons ⟨7, false, []⟩ .nil))))))), [[], [0], [], [0, 1, 2], [], [0, 1, 2, 3, 4], [0, 1, 2, 3, 4, 5], [0, 1, 2, 3, 4, 5, 6]], [0, 1, 2, 3, 4, 5, 6, 7]⟩
    | _ => ⟨.nil, [], []⟩
theorem hi80a (i : Nat) : hi80.acts i = [] := rfl
theorem hi80v (i : Nat) : hi80.views i = none := rfl
attribute [go_sem] hi80a hi80v Go.Proofs.Try.ntmps80 Go.Proofs.Try.results80
@[go_sem] theorem hi80d3 : (hi80.draws 3).order = .cons ⟨0, false, []⟩ (.cons ⟨2, true, []⟩ (.cons ⟨4, false, []⟩ (.cons ⟨1, false, [2]⟩ (.cons ⟨3, false, []⟩ (.cons ⟨5, false, []⟩ (.cons ⟨6, false, []⟩ (.cons ⟨7, false, []⟩ .nil))))))) := rfl
theorem c_impl_NewDesk {s : GShow} {lazy : Bool} {res : GDesk × Bool} (h : m_impl_NewDesk s lazy = some res) : CallOk Go.Proofs.Try.prog 80 [.agg [.sl (rowsOf GNode.encS s.nodes), .sl (rowsOf GTie.enc s.ties), .lit (.int .i64 s.horizon)], .lit (.bool lazy)] [] (.tup [.agg [.ref 20000 1 0 res.1.show_.nodes.length, .ref 20001 1 0 res.1.show_.ties.length, .lit (.int .i64 res.1.show_.horizon), .lit (.int .i64 res.1.state.now), .ref 20002 1 0 res.1.state.times.length, .ref 20003 1 0 res.1.state.values.length, .lit (.bool res.1.lazy), .ref 20004 1 0 res.1.log.length], .lit (.bool res.2)]) [(20000, 1, .row true (rowsOf GNode.encO res.1.show_.nodes)), (20001, 1, .row true (rowsOf GTie.enc res.1.show_.ties)), (20002, 1, .row true (rowsOf eI res.1.state.times)), (20003, 1, .row true (rowsOf eI res.1.state.values)), (20004, 1, .row true (rowsOf GEntry.encO res.1.log))] := by
  refine callOk_of (ra := [.homeCell 256 0, .homeCell 256 1, .homeCell 256 4, .homeCell 256 5, .homeCell 256 7]) (md := mdT) hT (hi := hi80) Go.Proofs.Try.func80 rfl rfl (by decide +kernel) (by simp) ?_
  unfold m_impl_NewDesk at h
  obtain ⟨r1001, g1, h⟩ := obnd_some h
  simp -implicitDefEqProofs -dsimp only [go_sem]
  refine callW_of (c_impl_ShowOk g1) ?_
  rcases ite_some h with ⟨h2, h⟩ | ⟨h2, h⟩
  · obtain ⟨r1002, g3, h⟩ := obnd_some h
    simp -implicitDefEqProofs -dsimp only [go_sem, (eq_true h2), (condZ_t h2)]
    refine callW_of (c_impl_copyShow g3) ?_
    obtain ⟨r1003, g4, h⟩ := obnd_some h
    simp -implicitDefEqProofs -dsimp only [go_sem, (eq_true h2), (condZ_t h2)]
    refine callW_of (c_impl_StartState g4) ?_
    cases h
    simp -implicitDefEqProofs -dsimp only [go_sem, (eq_true h2), (condZ_t h2)]
  · cases h
    simp -implicitDefEqProofs -dsimp only [go_sem, (eq_false h2), (condZ_f h2)]
/- 67 loop.example/g00827/laws.eqState -/
def hi67 : Hint where
  acts := fun _ => []
  draws := fun
    | _ => ⟨.nil, [], []⟩
theorem hi67a (i : Nat) : hi67.acts i = [] := rfl
theorem hi67v (i : Nat) : hi67.views i = none := rfl
attribute [go_sem] hi67a hi67v Go.Proofs.Try.ntmps67 Go.Proofs.Try.results67
theorem c_laws_eqState {a : GState} {b : GState} {res : Bool} (h : m_laws_eqState a b = some res) : CallOk Go.Proofs.Try.prog 67 [.agg [.lit (.int .i64 a.now), .sl (rowsOf eI a.times), .sl (rowsOf eI a.values)], .agg [.lit (.int .i64 b.now), .sl (rowsOf eI b.times), .sl (rowsOf eI b.values)]] [] (.lit (.bool res)) [] := by
  refine callOk_of (ra := []) (md := mdT) hT (hi := hi67) Go.Proofs.Try.func67 rfl rfl (by decide +kernel) (by simp) ?_
  unfold m_laws_eqState at h
  rcases ite_some h with ⟨h1, h⟩ | ⟨h1, h⟩
  · obtain ⟨r1001, g2, h⟩ := obnd_some h
    simp -implicitDefEqProofs -dsimp only [go_sem, (eq_true h1)]
    refine callW_of (c_laws_eqIntS g2) ?_
    rcases ite_some h with ⟨h3, h⟩ | ⟨h3, h⟩
    · obtain ⟨r1002, g4, h⟩ := obnd_some h
      simp -implicitDefEqProofs -dsimp only [go_sem, (eq_true h1), (eq_true h3), (condZ_t h3)]
      refine callW_of (c_laws_eqIntS g4) ?_
      rcases ite_some h with ⟨h5, h⟩ | ⟨h5, h⟩
      · cases h
        simp -implicitDefEqProofs -dsimp only [go_sem, (eq_true h1), (eq_true h3), (condZ_t h3), (eq_true h5), (condZ_t h5)]
      · cases h
        simp -implicitDefEqProofs -dsimp only [go_sem, (eq_true h1), (eq_true h3), (condZ_t h3), (eq_false h5), (condZ_f h5)]
    · cases h
      simp -implicitDefEqProofs -dsimp only [go_sem, (eq_true h1), (eq_false h3), (condZ_f h3)]
  · cases h
    simp -implicitDefEqProofs -dsimp only [go_sem, (eq_false h1)]
/- 180 loop.example/g00827/laws.eqEntry -/
def hi180 : Hint where
  acts := fun _ => []
  draws := fun
    | _ => ⟨.nil, [], []⟩
theorem hi180a (i : Nat) : hi180.acts i = [] := rfl
theorem hi180v (i : Nat) : hi180.views i = none := rfl
attribute [go_sem] hi180a hi180v Go.Proofs.Try.ntmps180 Go.Proofs.Try.results180
theorem c_laws_eqEntry {a : GEntry} {b : GEntry} {res : Bool} (h : m_laws_eqEntry a b = some res) : CallOk Go.Proofs.Try.prog 180 [.agg [.lit (.int .i64 a.now), .sl (rowsOf eI a.ties), .sl (rowsOf eI a.nodes), .sl (rowsOf eI a.values)], .agg [.lit (.int .i64 b.now), .sl (rowsOf eI b.ties), .sl (rowsOf eI b.nodes), .sl (rowsOf eI b.values)]] [] (.lit (.bool res)) [] := by
  refine callOk_of (ra := []) (md := mdT) hT (hi := hi180) Go.Proofs.Try.func180 rfl rfl (by decide +kernel) (by simp) ?_
  unfold m_laws_eqEntry at h
  rcases ite_some h with ⟨h1, h⟩ | ⟨h1, h⟩
  · obtain ⟨r1001, g2, h⟩ := obnd_some h
    simp -implicitDefEqProofs -dsimp only [go_sem, (eq_true h1)]
    refine callW_of (c_laws_eqIntS g2) ?_
    rcases ite_some h with ⟨h3, h⟩ | ⟨h3, h⟩
    · obtain ⟨r1002, g4, h⟩ := obnd_some h
      simp -implicitDefEqProofs -dsimp only [go_sem, (eq_true h1), (eq_true h3), (condZ_t h3)]
      refine callW_of (c_laws_eqIntS g4) ?_
      rcases ite_some h with ⟨h5, h⟩ | ⟨h5, h⟩
      · obtain ⟨r1003, g6, h⟩ := obnd_some h
        simp -implicitDefEqProofs -dsimp only [go_sem, (eq_true h1), (eq_true h3), (condZ_t h3), (eq_true h5), (condZ_t h5)]
        refine callW_of (c_laws_eqIntS g6) ?_
        rcases ite_some h with ⟨h7, h⟩ | ⟨h7, h⟩
        · cases h
          simp -implicitDefEqProofs -dsimp only [go_sem, (eq_true h1), (eq_true h3), (condZ_t h3), (eq_true h5), (condZ_t h5), (eq_true h7), (condZ_t h7)]
        · cases h
          simp -implicitDefEqProofs -dsimp only [go_sem, (eq_true h1), (eq_true h3), (condZ_t h3), (eq_true h5), (condZ_t h5), (eq_false h7), (condZ_f h7)]
      · cases h
        simp -implicitDefEqProofs -dsimp only [go_sem, (eq_true h1), (eq_true h3), (condZ_t h3), (eq_false h5), (condZ_f h5)]
    · cases h
      simp -implicitDefEqProofs -dsimp only [go_sem, (eq_true h1), (eq_false h3), (condZ_f h3)]
  · cases h
    simp -implicitDefEqProofs -dsimp only [go_sem, (eq_false h1)]
/- 118 loop.example/g00827/laws.eqEntryS -/
def m_laws_eqEntryS_L1_St (a : List GEntry) (b : List GEntry) (i : Int) : St := ⟨[(0, .sl (rowsOf GEntry.encS a)), (1, .sl (rowsOf GEntry.encS b)), (5, .lit (.int .i64 i))], [], 2⟩
attribute [go_sem] m_laws_eqEntryS_L1_St
def hi118 : Hint where
  acts := fun _ => []
  draws := fun
    | 6 => ⟨.cons ⟨0, false, []⟩ (.cons ⟨1, false, []⟩ (.cons ⟨2, false, []⟩ (.cons ⟨3, false, []⟩ (.cons ⟨4, false, []⟩ (.cons ⟨5, false, []⟩ (.cons ⟨6, false, []⟩ (.cons ⟨7, false, []⟩ (.cons ⟨8, false, []⟩ (.cons ⟨9, false, []⟩ .nil))))))))), [[], [], [0, 1], [0, 1, 2], [], [], [4, 5], [4, 5, 6], [0, 1, 2, 3, 4, 5, 6, 7], [0, 1, 2, 3, 4, 5, 6, 7, 8]], [0, 1, 2, 3, 4, 5, 6, 7, 8, 9]⟩
    | _ => ⟨.nil, [], []⟩
theorem hi118a (i : Nat) : hi118.acts i = [] := rfl
theorem hi118v (i : Nat) : hi118.views i = none := rfl
attribute [go_sem] hi118a hi118v Go.Proofs.Try.ntmps118 Go.Proofs.Try.results118
@[go_sem] theorem hi118d6 : (hi118.draws 6).order = .cons ⟨0, false, []⟩ (.cons ⟨1, false, []⟩ (.cons ⟨2, false, []⟩ (.cons ⟨3, false, []⟩ (.cons ⟨4, false, []⟩ (.cons ⟨5, false, []⟩ (.cons ⟨6, false, []⟩ (.cons ⟨7, false, []⟩ (.cons ⟨8, false, []⟩ (.cons ⟨9, false, []⟩ .nil))))))))) := rfl
theorem c_laws_eqEntryS {a : List GEntry} {b : List GEntry} {res : Bool} (h : m_laws_eqEntryS a b = some res) : CallOk Go.Proofs.Try.prog 118 [.sl (rowsOf GEntry.encS a), .sl (rowsOf GEntry.encS b)] [] (.lit (.bool res)) [] := by
  refine callOk_of (ra := []) (md := mdT) hT (hi := hi118) Go.Proofs.Try.func118 rfl rfl (by decide +kernel) (by simp) ?_
  unfold m_laws_eqEntryS at h
  rcases ite_some h with ⟨h1, h⟩ | ⟨h1, h⟩
  · obtain ⟨q1004, l2, h⟩ := obnd_some h
    simp -implicitDefEqProofs -dsimp only [go_sem, (eq_true h1)]
    refine loopW_loopO (m1 := .mk) (m2 := .mk) [.nf [0, 1, 5] []] (m_laws_eqEntryS_L1_St a b) l2 ?_ ?_
    · simp -implicitDefEqProofs -dsimp only [go_sem, (eq_true h1)]
    · intro nb3 sb3 bb3 b3 gb3
      obtain ⟨i_1, eb3⟩ : ∃ v, v = sb3 := ⟨_, rfl⟩; subst eb3
      unfold m_laws_eqEntryS_L1 at b3
      try dsimp only at b3
      rcases ite_some b3 with ⟨h4, b3⟩ | ⟨h4, b3⟩
      · obtain ⟨x1001, g5, b3⟩ := obnd_some b3
        obtain ⟨h6, h7, h8⟩ := getI_some g5
        obtain ⟨x1002, g9, b3⟩ := obnd_some b3
        obtain ⟨h10, h11, h12⟩ := getI_some g9
        obtain ⟨r1003, g13, b3⟩ := obnd_some b3
        simp -implicitDefEqProofs -dsimp only [go_sem, (eq_true h1), (eq_true h4), h6, h7, h8, h10, h11, h12]
        refine callW_of (c_laws_eqEntry g13) ?_
        rcases ite_some b3 with ⟨h14, b3⟩ | ⟨h14, b3⟩
        · cases b3
          simp -implicitDefEqProofs -dsimp only [go_sem, (eq_true h1), (eq_true h4), h6, h7, h8, h10, h11, h12, (eq_true h14), (condZ_t h14)]
          refine next_of gb3 ?_
          simp -implicitDefEqProofs -dsimp only [go_sem, (eq_true h1), (eq_true h4), h6, h7, h8, h10, h11, h12, (eq_true h14), (condZ_t h14)]
        · cases b3
          have e15 := done_of gb3
          subst e15
          try dsimp only at h
          cases h
          simp -implicitDefEqProofs -dsimp only [go_sem, (eq_true h1), (eq_true h4), h6, h7, h8, h10, h11, h12, (eq_false h14), (condZ_f h14)]
      · cases b3
        have e16 := done_of gb3
        subst e16
        try dsimp only at h
        cases h
        simp -implicitDefEqProofs -dsimp only [go_sem, (eq_true h1), (eq_false h4)]
  · cases h
    simp -implicitDefEqProofs -dsimp only [go_sem, (eq_false h1)]
/- 41 loop.example/g00827/laws.eqDesk -/
def hi41 : Hint where
  acts := fun _ => []
  draws := fun
    | _ => ⟨.nil, [], []⟩
theorem hi41a (i : Nat) : hi41.acts i = [] := rfl
theorem hi41v (i : Nat) : hi41.views i = none := rfl
attribute [go_sem] hi41a hi41v Go.Proofs.Try.ntmps41 Go.Proofs.Try.results41
theorem c_laws_eqDesk {a : GDesk} {b : GDesk} {res : Bool} (h : m_laws_eqDesk a b = some res) : CallOk Go.Proofs.Try.prog 41 [.agg [.sl (rowsOf GNode.encS a.show_.nodes), .sl (rowsOf GTie.enc a.show_.ties), .lit (.int .i64 a.show_.horizon), .lit (.int .i64 a.state.now), .sl (rowsOf eI a.state.times), .sl (rowsOf eI a.state.values), .lit (.bool a.lazy), .sl (rowsOf GEntry.encS a.log)], .agg [.sl (rowsOf GNode.encS b.show_.nodes), .sl (rowsOf GTie.enc b.show_.ties), .lit (.int .i64 b.show_.horizon), .lit (.int .i64 b.state.now), .sl (rowsOf eI b.state.times), .sl (rowsOf eI b.state.values), .lit (.bool b.lazy), .sl (rowsOf GEntry.encS b.log)]] [] (.lit (.bool res)) [] := by
  refine callOk_of (ra := []) (md := mdT) hT (hi := hi41) Go.Proofs.Try.func41 rfl rfl (by decide +kernel) (by simp) ?_
  unfold m_laws_eqDesk at h
  obtain ⟨r1001, g1, h⟩ := obnd_some h
  simp -implicitDefEqProofs -dsimp only [go_sem]
  refine callW_of (c_laws_eqShow g1) ?_
  rcases ite_some h with ⟨h2, h⟩ | ⟨h2, h⟩
  · obtain ⟨r1002, g3, h⟩ := obnd_some h
    simp -implicitDefEqProofs -dsimp only [go_sem, (eq_true h2), (condZ_t h2)]
    refine callW_of (c_laws_eqState g3) ?_
    rcases ite_some h with ⟨h4, h⟩ | ⟨h4, h⟩
    · rcases ite_some h with ⟨h5, h⟩ | ⟨h5, h⟩
      · obtain ⟨r1003, g6, h⟩ := obnd_some h
        simp -implicitDefEqProofs -dsimp only [go_sem, (eq_true h2), (condZ_t h2), (eq_true h4), (condZ_t h4), (eq_true h5)]
        refine callW_of (c_laws_eqEntryS g6) ?_
        rcases ite_some h with ⟨h7, h⟩ | ⟨h7, h⟩
        · cases h
          simp -implicitDefEqProofs -dsimp only [go_sem, (eq_true h2), (condZ_t h2), (eq_true h4), (condZ_t h4), (eq_true h5), (eq_true h7), (condZ_t h7)]
        · cases h
          simp -implicitDefEqProofs -dsimp only [go_sem, (eq_true h2), (condZ_t h2), (eq_true h4), (condZ_t h4), (eq_true h5), (eq_false h7), (condZ_f h7)]
      · cases h
        simp -implicitDefEqProofs -dsimp only [go_sem, (eq_true h2), (condZ_t h2), (eq_true h4), (condZ_t h4), (eq_false h5)]
    · cases h
      simp -implicitDefEqProofs -dsimp only [go_sem, (eq_true h2), (condZ_t h2), (eq_false h4), (condZ_f h4)]
  · cases h
    simp -implicitDefEqProofs -dsimp only [go_sem, (eq_false h2), (condZ_f h2)]
/- 68 loop.example/g00827/laws.markState -/
def hi68 : Hint where
  acts := fun _ => []
  draws := fun
    | _ => ⟨.nil, [], []⟩
theorem hi68a (i : Nat) : hi68.acts i = [] := rfl
theorem hi68v (i : Nat) : hi68.views i = none := rfl
attribute [go_sem] hi68a hi68v Go.Proofs.Try.ntmps68 Go.Proofs.Try.results68
theorem c_laws_markState {a : GState} {k : Int} {zb0 : Bool} {zb1 : Bool} {res : Int × (List Int) × (List Int)} (h : m_laws_markState a k = some res) : CallOk Go.Proofs.Try.prog 68 [.agg [.lit (.int .i64 a.now), .ref 10000 0 0 a.times.length, .ref 10001 0 0 a.values.length], .lit (.int .i64 k)] [(10000, 0, .row zb0 (rowsOf eI a.times)), (10001, 0, .row zb1 (rowsOf eI a.values))] (.lit (.int .i64 res.1)) [(10000, 0, .row zb0 (rowsOf eI res.2.1)), (10001, 0, .row zb1 (rowsOf eI res.2.2))] := by
  refine callOk_of (ra := []) (md := mdT) hT (hi := hi68) Go.Proofs.Try.func68 rfl rfl (by decide +kernel) (by simp) ?_
  unfold m_laws_markState at h
  obtain ⟨r1001, g1, h⟩ := obnd_some h
  simp -implicitDefEqProofs -dsimp only [go_sem]
  refine callW_of (c_laws_markIntS g1) ?_
  obtain ⟨r1002, g2, h⟩ := obnd_some h
  simp -implicitDefEqProofs -dsimp only [go_sem]
  refine callW_of (c_laws_markIntS g2) ?_
  cases h
  simp -implicitDefEqProofs -dsimp only [go_sem]
/- 149 loop.example/g00827/laws.markEntryS -/
def m_laws_markEntryS_L1_St (zb0 : Bool)  : (Int × Int × (List GEntry)) → St
  | (k, i, a) => ⟨[(0, .ref 10000 0 0 a.length), (1, .lit (.int .i64 k)), (5, .lit (.int .i64 i))], [(10000, 0, .row zb0 (rowsOf GEntry.encO a))], 2⟩
attribute [go_sem] m_laws_markEntryS_L1_St
def hi149 : Hint where
  acts := fun _ => []
  views := fun
    | 6 => some (4, 1)
    | 7 => some (4, 1)
    | 8 => some (4, 1)
    | _ => none
  draws := fun
    | _ => ⟨.nil, [], []⟩
theorem hi149a (i : Nat) : hi149.acts i = [] := rfl
@[go_sem] theorem hi149v0 : hi149.views 0 = none := rfl
@[go_sem] theorem hi149v1 : hi149.views 1 = none := rfl
@[go_sem] theorem hi149v2 : hi149.views 2 = none := rfl
@[go_sem] theorem hi149v4 : hi149.views 4 = none := rfl
@[go_sem] theorem hi149v5 : hi149.views 5 = none := rfl
@[go_sem] theorem hi149v6 : hi149.views 6 = some (4, 1) := rfl
@[go_sem] theorem hi149v7 : hi149.views 7 = some (4, 1) := rfl
@[go_sem] theorem hi149v8 : hi149.views 8 = some (4, 1) := rfl
@[go_sem] theorem hi149v3 : hi149.views 3 = none := rfl
@[go_sem] theorem hi149v9 : hi149.views 9 = none := rfl
attribute [go_sem] hi149a Go.Proofs.Try.ntmps149 Go.Proofs.Try.results149
theorem c_laws_markEntryS {a : List GEntry} {k : Int} {zb0 : Bool} {res : Int × (List GEntry)} (h : m_laws_markEntryS a k = some res) : CallOk Go.Proofs.Try.prog 149 [.ref 10000 0 0 a.length, .lit (.int .i64 k)] [(10000, 0, .row zb0 (rowsOf GEntry.encO a))] (.lit (.int .i64 res.1)) [(10000, 0, .row zb0 (rowsOf GEntry.encO res.2))] := by
  refine callOk_of (ra := []) (md := mdT) hT (hi := hi149) Go.Proofs.Try.func149 rfl rfl (by decide +kernel) (by simp) ?_
  unfold m_laws_markEntryS at h
  obtain ⟨q1008, l1, h⟩ := obnd_some h
  simp -implicitDefEqProofs -dsimp only [go_sem]
  refine loopW_loopO (m1 := .mk) (m2 := .mk) [.nf [0, 1, 5] [10000]] (m_laws_markEntryS_L1_St zb0) l1 ?_ ?_
  · simp -implicitDefEqProofs -dsimp only [go_sem]
  · intro nb2 sb2 bb2 b2 gb2
    obtain ⟨k_1, i_1, a_1⟩ := sb2
    unfold m_laws_markEntryS_L1 at b2
    try dsimp only at b2
    rcases ite_some b2 with ⟨h3, b2⟩ | ⟨h3, b2⟩
    · obtain ⟨x1001, g4, b2⟩ := obnd_some b2
      obtain ⟨h5, h6, h7⟩ := getI_some g4
      obtain ⟨x1002, g8, b2⟩ := obnd_some b2
      obtain ⟨h9, h10, h11⟩ := getI_some g8
      obtain ⟨r1003, g12, b2⟩ := obnd_some b2
      obtain ⟨h13, b2⟩ := chk_some b2
      simp -implicitDefEqProofs -dsimp only [go_sem, (eq_true h3), h5, h6, h7, h9, h10, h11]
      refine viewW_of h13 (by simp only [go_sem]) (c_laws_markIntS g12) ?_
      obtain ⟨x1004, g14, b2⟩ := obnd_some b2
      obtain ⟨h15, h16, h17⟩ := getI_some g14
      obtain ⟨r1005, g18, b2⟩ := obnd_some b2
      obtain ⟨h19, b2⟩ := chk_some b2
      simp -implicitDefEqProofs -dsimp only [go_sem, (eq_true h3), h5, h6, h7, h9, h10, h11, h15, h16, h17]
      refine viewW_of h19 (by simp only [go_sem]) (c_laws_markIntS g18) ?_
      obtain ⟨x1006, g20, b2⟩ := obnd_some b2
      obtain ⟨h21, h22, h23⟩ := getI_some g20
      obtain ⟨r1007, g24, b2⟩ := obnd_some b2
      obtain ⟨h25, b2⟩ := chk_some b2
      simp -implicitDefEqProofs -dsimp only [go_sem, (eq_true h3), h5, h6, h7, h9, h10, h11, h15, h16, h17, h21, h22, h23]
      refine viewW_of h25 (by simp only [go_sem]) (c_laws_markIntS g24) ?_
      cases b2
      simp -implicitDefEqProofs -dsimp only [go_sem, (eq_true h3), h5, h6, h7, h9, h10, h11, h15, h16, h17, h21, h22, h23]
      refine next_of gb2 ?_
      simp -implicitDefEqProofs -dsimp only [go_sem, (eq_true h3), h5, h6, h7, h9, h10, h11, h15, h16, h17, h21, h22, h23]
    · cases b2
      have e26 := done_of gb2
      subst e26
      try dsimp only at h
      cases h
      simp -implicitDefEqProofs -dsimp only [go_sem, (eq_false h3)]
/- 81 loop.example/g00827/laws.markDesk -/
def hi81 : Hint where
  acts := fun _ => []
  draws := fun
    | _ => ⟨.nil, [], []⟩
theorem hi81a (i : Nat) : hi81.acts i = [] := rfl
theorem hi81v (i : Nat) : hi81.views i = none := rfl
attribute [go_sem] hi81a hi81v Go.Proofs.Try.ntmps81 Go.Proofs.Try.results81
theorem c_laws_markDesk {a : GDesk} {k : Int} {zb0 : Bool} {zb1 : Bool} {zb2 : Bool} {zb3 : Bool} {zb4 : Bool} {res : Int × (List GNode) × (List GTie) × (List Int) × (List Int) × (List GEntry)} (h : m_laws_markDesk a k = some res) : CallOk Go.Proofs.Try.prog 81 [.agg [.ref 10000 0 0 a.show_.nodes.length, .ref 10001 0 0 a.show_.ties.length, .lit (.int .i64 a.show_.horizon), .lit (.int .i64 a.state.now), .ref 10002 0 0 a.state.times.length, .ref 10003 0 0 a.state.values.length, .lit (.bool a.lazy), .ref 10004 0 0 a.log.length], .lit (.int .i64 k)] [(10000, 0, .row zb0 (rowsOf GNode.encO a.show_.nodes)), (10001, 0, .row zb1 (rowsOf GTie.enc a.show_.ties)), (10002, 0, .row zb2 (rowsOf eI a.state.times)), (10003, 0, .row zb3 (rowsOf eI a.state.values)), (10004, 0, .row zb4 (rowsOf GEntry.encO a.log))] (.lit (.int .i64 res.1)) [(10000, 0, .row zb0 (rowsOf GNode.encO res.2.1)), (10001, 0, .row zb1 (rowsOf GTie.enc res.2.2.1)), (10002, 0, .row zb2 (rowsOf eI res.2.2.2.1)), (10003, 0, .row zb3 (rowsOf eI res.2.2.2.2.1)), (10004, 0, .row zb4 (rowsOf GEntry.encO res.2.2.2.2.2))] := by
  refine callOk_of (ra := []) (md := mdT) hT (hi := hi81) Go.Proofs.Try.func81 rfl rfl (by decide +kernel) (by simp) ?_
  unfold m_laws_markDesk at h
  obtain ⟨r1001, g1, h⟩ := obnd_some h
  simp -implicitDefEqProofs -dsimp only [go_sem]
  refine callW_of (c_laws_markShow g1) ?_
  obtain ⟨r1002, g2, h⟩ := obnd_some h
  simp -implicitDefEqProofs -dsimp only [go_sem]
  refine callW_of (c_laws_markState g2) ?_
  obtain ⟨r1003, g3, h⟩ := obnd_some h
  simp -implicitDefEqProofs -dsimp only [go_sem]
  refine callW_of (c_laws_markEntryS g3) ?_
  cases h
  simp -implicitDefEqProofs -dsimp only [go_sem]
/- 133 loop.example/g00827/laws.heldNodeS -/
def m_laws_heldNodeS_L1_St (a : List GNode) : (Int × Int) → St
  | (k, i) => ⟨[(0, .sl (rowsOf GNode.encS a)), (1, .lit (.int .i64 k)), (5, .lit (.int .i64 i))], [], 2⟩
attribute [go_sem] m_laws_heldNodeS_L1_St
def hi133 : Hint where
  acts := fun _ => []
  draws := fun
    | 4 => ⟨.cons ⟨0, false, []⟩ (.cons ⟨1, false, []⟩ (.cons ⟨2, true, []⟩ (.cons ⟨3, true, []⟩ (.cons ⟨4, true, []⟩ (.cons ⟨5, false, []⟩ (.cons ⟨6, false, [2, 3, 4]⟩ (.cons ⟨7, false, []⟩ .nil))))))), [[], [], [0, 1], [0, 1, 2], [0, 1, 2, 3], [], [5], [0, 1, 2, 3, 4, 5, 6]], [0, 1, 2, 3, 4, 5, 6, 7]⟩
    | _ => ⟨.nil, [], []⟩
theorem hi133a (i : Nat) : hi133.acts i = [] := rfl
theorem hi133v (i : Nat) : hi133.views i = none := rfl
attribute [go_sem] hi133a hi133v Go.Proofs.Try.ntmps133 Go.Proofs.Try.results133
@[go_sem] theorem hi133d4 : (hi133.draws 4).order = .cons ⟨0, false, []⟩ (.cons ⟨1, false, []⟩ (.cons ⟨2, true, []⟩ (.cons ⟨3, true, []⟩ (.cons ⟨4, true, []⟩ (.cons ⟨5, false, []⟩ (.cons ⟨6, false, [2, 3, 4]⟩ (.cons ⟨7, false, []⟩ .nil))))))) := rfl
theorem c_laws_heldNodeS {a : List GNode} {k : Int} {res : Int} (h : m_laws_heldNodeS a k = some res) : CallOk Go.Proofs.Try.prog 133 [.sl (rowsOf GNode.encS a), .lit (.int .i64 k)] [] (.lit (.int .i64 res)) [] := by
  refine callOk_of (ra := []) (md := mdT) hT (hi := hi133) Go.Proofs.Try.func133 rfl rfl (by decide +kernel) (by simp) ?_
  unfold m_laws_heldNodeS at h
  obtain ⟨q1004, l1, h⟩ := obnd_some h
  simp -implicitDefEqProofs -dsimp only [go_sem]
  refine loopW_loopO (m1 := .mk) (m2 := .mk) [.nf [0, 1, 5] []] (m_laws_heldNodeS_L1_St a) l1 ?_ ?_
  · simp -implicitDefEqProofs -dsimp only [go_sem]
  · intro nb2 sb2 bb2 b2 gb2
    obtain ⟨k_1, i_1⟩ := sb2
    unfold m_laws_heldNodeS_L1 at b2
    try dsimp only at b2
    rcases ite_some b2 with ⟨h3, b2⟩ | ⟨h3, b2⟩
    · obtain ⟨x1001, g4, b2⟩ := obnd_some b2
      obtain ⟨h5, h6, h7⟩ := getI_some g4
      obtain ⟨r1002, g8, b2⟩ := obnd_some b2
      simp -implicitDefEqProofs -dsimp only [go_sem, (eq_true h3), h5, h6, h7]
      refine callW_of (c_laws_markText g8) ?_
      rcases ite_some b2 with ⟨h9, b2⟩ | ⟨h9, b2⟩
      · obtain ⟨r1003, g10, b2⟩ := obnd_some b2
        simp -implicitDefEqProofs -dsimp only [go_sem, (eq_true h3), h5, h6, h7, (eq_true h9)]
        refine callW_of (c_laws_heldIntS g10) ?_
        rcases ite_some b2 with ⟨h11, b2⟩ | ⟨h11, b2⟩
        · cases b2
          have e12 := done_of gb2
          subst e12
          try dsimp only at h
          cases h
          simp -implicitDefEqProofs -dsimp only [go_sem, (eq_true h3), h5, h6, h7, (eq_true h9), (eq_true h11)]
        · rcases ite_some b2 with ⟨h13, b2⟩ | ⟨h13, b2⟩
          · cases b2
            simp -implicitDefEqProofs -dsimp only [go_sem, (eq_true h3), h5, h6, h7, (eq_true h9), (eq_false h11), (eq_true h13)]
            refine next_of gb2 ?_
            simp -implicitDefEqProofs -dsimp only [go_sem, (eq_true h3), h5, h6, h7, (eq_true h9), (eq_false h11), (eq_true h13)]
          · cases b2
            have e14 := done_of gb2
            subst e14
            try dsimp only at h
            cases h
            simp -implicitDefEqProofs -dsimp only [go_sem, (eq_true h3), h5, h6, h7, (eq_true h9), (eq_false h11), (eq_false h13)]
      · cases b2
        have e15 := done_of gb2
        subst e15
        try dsimp only at h
        cases h
        simp -implicitDefEqProofs -dsimp only [go_sem, (eq_true h3), h5, h6, h7, (eq_false h9)]
    · cases b2
      have e16 := done_of gb2
      subst e16
      try dsimp only at h
      cases h
      simp -implicitDefEqProofs -dsimp only [go_sem, (eq_false h3)]
/- 134 loop.example/g00827/laws.heldTieS -/
def m_laws_heldTieS_L1_St (a : List GTie) : (Int × Int) → St
  | (k, i) => ⟨[(0, .sl (rowsOf GTie.enc a)), (1, .lit (.int .i64 k)), (5, .lit (.int .i64 i))], [], 2⟩
attribute [go_sem] m_laws_heldTieS_L1_St
def hi134 : Hint where
  acts := fun _ => []
  draws := fun
    | _ => ⟨.nil, [], []⟩
theorem hi134a (i : Nat) : hi134.acts i = [] := rfl
theorem hi134v (i : Nat) : hi134.views i = none := rfl
attribute [go_sem] hi134a hi134v Go.Proofs.Try.ntmps134 Go.Proofs.Try.results134
theorem c_laws_heldTieS {a : List GTie} {k : Int} {res : Int} (h : m_laws_heldTieS a k = some res) : CallOk Go.Proofs.Try.prog 134 [.sl (rowsOf GTie.enc a), .lit (.int .i64 k)] [] (.lit (.int .i64 res)) [] := by
  refine callOk_of (ra := []) (md := mdT) hT (hi := hi134) Go.Proofs.Try.func134 rfl rfl (by decide +kernel) (by simp) ?_
  unfold m_laws_heldTieS at h
  obtain ⟨q1002, l1, h⟩ := obnd_some h
  simp -implicitDefEqProofs -dsimp only [go_sem]
  refine loopW_loopO (m1 := .mk) (m2 := .mk) [.nf [0, 1, 5] []] (m_laws_heldTieS_L1_St a) l1 ?_ ?_
  · simp -implicitDefEqProofs -dsimp only [go_sem]
  · intro nb2 sb2 bb2 b2 gb2
    obtain ⟨k_1, i_1⟩ := sb2
    unfold m_laws_heldTieS_L1 at b2
    try dsimp only at b2
    rcases ite_some b2 with ⟨h3, b2⟩ | ⟨h3, b2⟩
    · obtain ⟨x1001, g4, b2⟩ := obnd_some b2
      obtain ⟨h5, h6, h7⟩ := getI_some g4
      rcases ite_some b2 with ⟨h8, b2⟩ | ⟨h8, b2⟩
      · rcases ite_some b2 with ⟨h9, b2⟩ | ⟨h9, b2⟩
        · rcases ite_some b2 with ⟨h10, b2⟩ | ⟨h10, b2⟩
          · rcases ite_some b2 with ⟨h11, b2⟩ | ⟨h11, b2⟩
            · rcases ite_some b2 with ⟨h12, b2⟩ | ⟨h12, b2⟩
              · cases b2
                simp -implicitDefEqProofs -dsimp only [go_sem, (eq_true h3), h5, h6, h7, (eq_true h8), (eq_true h9), (eq_true h10), (eq_true h11), (eq_true h12)]
                refine next_of gb2 ?_
                simp -implicitDefEqProofs -dsimp only [go_sem, (eq_true h3), h5, h6, h7, (eq_true h8), (eq_true h9), (eq_true h10), (eq_true h11), (eq_true h12)]
              · cases b2
                have e13 := done_of gb2
                subst e13
                try dsimp only at h
                cases h
                simp -implicitDefEqProofs -dsimp only [go_sem, (eq_true h3), h5, h6, h7, (eq_true h8), (eq_true h9), (eq_true h10), (eq_true h11), (eq_false h12)]
            · cases b2
              have e14 := done_of gb2
              subst e14
              try dsimp only at h
              cases h
              simp -implicitDefEqProofs -dsimp only [go_sem, (eq_true h3), h5, h6, h7, (eq_true h8), (eq_true h9), (eq_true h10), (eq_false h11)]
          · cases b2
            have e15 := done_of gb2
            subst e15
            try dsimp only at h
            cases h
            simp -implicitDefEqProofs -dsimp only [go_sem, (eq_true h3), h5, h6, h7, (eq_true h8), (eq_true h9), (eq_false h10)]
        · cases b2
          have e16 := done_of gb2
          subst e16
          try dsimp only at h
          cases h
          simp -implicitDefEqProofs -dsimp only [go_sem, (eq_true h3), h5, h6, h7, (eq_true h8), (eq_false h9)]
      · cases b2
        have e17 := done_of gb2
        subst e17
        try dsimp only at h
        cases h
        simp -implicitDefEqProofs -dsimp only [go_sem, (eq_true h3), h5, h6, h7, (eq_false h8)]
    · cases b2
      have e18 := done_of gb2
      subst e18
      try dsimp only at h
      cases h
      simp -implicitDefEqProofs -dsimp only [go_sem, (eq_false h3)]
/- 62 loop.example/g00827/laws.heldShow -/
def hi62 : Hint where
  acts := fun _ => []
  draws := fun
    | _ => ⟨.nil, [], []⟩
theorem hi62a (i : Nat) : hi62.acts i = [] := rfl
theorem hi62v (i : Nat) : hi62.views i = none := rfl
attribute [go_sem] hi62a hi62v Go.Proofs.Try.ntmps62 Go.Proofs.Try.results62
theorem c_laws_heldShow {a : GShow} {k : Int} {res : Int} (h : m_laws_heldShow a k = some res) : CallOk Go.Proofs.Try.prog 62 [.agg [.sl (rowsOf GNode.encS a.nodes), .sl (rowsOf GTie.enc a.ties), .lit (.int .i64 a.horizon)], .lit (.int .i64 k)] [] (.lit (.int .i64 res)) [] := by
  refine callOk_of (ra := []) (md := mdT) hT (hi := hi62) Go.Proofs.Try.func62 rfl rfl (by decide +kernel) (by simp) ?_
  unfold m_laws_heldShow at h
  obtain ⟨r1001, g1, h⟩ := obnd_some h
  simp -implicitDefEqProofs -dsimp only [go_sem]
  refine callW_of (c_laws_heldNodeS g1) ?_
  rcases ite_some h with ⟨h2, h⟩ | ⟨h2, h⟩
  · cases h
    simp -implicitDefEqProofs -dsimp only [go_sem, (eq_true h2)]
  · obtain ⟨r1002, g3, h⟩ := obnd_some h
    simp -implicitDefEqProofs -dsimp only [go_sem, (eq_false h2)]
    refine callW_of (c_laws_heldTieS g3) ?_
    rcases ite_some h with ⟨h4, h⟩ | ⟨h4, h⟩
    · cases h
      simp -implicitDefEqProofs -dsimp only [go_sem, (eq_false h2), (eq_true h4)]
    · cases h
      simp -implicitDefEqProofs -dsimp only [go_sem, (eq_false h2), (eq_false h4)]
/- 150 loop.example/g00827/laws.heldState -/
def hi150 : Hint where
  acts := fun _ => []
  draws := fun
    | _ => ⟨.nil, [], []⟩
theorem hi150a (i : Nat) : hi150.acts i = [] := rfl
theorem hi150v (i : Nat) : hi150.views i = none := rfl
attribute [go_sem] hi150a hi150v Go.Proofs.Try.ntmps150 Go.Proofs.Try.results150
theorem c_laws_heldState {a : GState} {k : Int} {res : Int} (h : m_laws_heldState a k = some res) : CallOk Go.Proofs.Try.prog 150 [.agg [.lit (.int .i64 a.now), .sl (rowsOf eI a.times), .sl (rowsOf eI a.values)], .lit (.int .i64 k)] [] (.lit (.int .i64 res)) [] := by
  refine callOk_of (ra := []) (md := mdT) hT (hi := hi150) Go.Proofs.Try.func150 rfl rfl (by decide +kernel) (by simp) ?_
  unfold m_laws_heldState at h
  obtain ⟨r1001, g1, h⟩ := obnd_some h
  simp -implicitDefEqProofs -dsimp only [go_sem]
  refine callW_of (c_laws_heldIntS g1) ?_
  rcases ite_some h with ⟨h2, h⟩ | ⟨h2, h⟩
  · cases h
    simp -implicitDefEqProofs -dsimp only [go_sem, (eq_true h2)]
  · obtain ⟨r1002, g3, h⟩ := obnd_some h
    simp -implicitDefEqProofs -dsimp only [go_sem, (eq_false h2)]
    refine callW_of (c_laws_heldIntS g3) ?_
    rcases ite_some h with ⟨h4, h⟩ | ⟨h4, h⟩
    · cases h
      simp -implicitDefEqProofs -dsimp only [go_sem, (eq_false h2), (eq_true h4)]
    · cases h
      simp -implicitDefEqProofs -dsimp only [go_sem, (eq_false h2), (eq_false h4)]
/- 151 loop.example/g00827/laws.heldEntryS -/
def m_laws_heldEntryS_L1_St (a : List GEntry) : (Int × Int) → St
  | (k, i) => ⟨[(0, .sl (rowsOf GEntry.encS a)), (1, .lit (.int .i64 k)), (5, .lit (.int .i64 i))], [], 2⟩
attribute [go_sem] m_laws_heldEntryS_L1_St
def hi151 : Hint where
  acts := fun _ => []
  draws := fun
    | _ => ⟨.nil, [], []⟩
theorem hi151a (i : Nat) : hi151.acts i = [] := rfl
theorem hi151v (i : Nat) : hi151.views i = none := rfl
attribute [go_sem] hi151a hi151v Go.Proofs.Try.ntmps151 Go.Proofs.Try.results151
theorem c_laws_heldEntryS {a : List GEntry} {k : Int} {res : Int} (h : m_laws_heldEntryS a k = some res) : CallOk Go.Proofs.Try.prog 151 [.sl (rowsOf GEntry.encS a), .lit (.int .i64 k)] [] (.lit (.int .i64 res)) [] := by
  refine callOk_of (ra := []) (md := mdT) hT (hi := hi151) Go.Proofs.Try.func151 rfl rfl (by decide +kernel) (by simp) ?_
  unfold m_laws_heldEntryS at h
  obtain ⟨q1005, l1, h⟩ := obnd_some h
  simp -implicitDefEqProofs -dsimp only [go_sem]
  refine loopW_loopO (m1 := .mk) (m2 := .mk) [.nf [0, 1, 5] []] (m_laws_heldEntryS_L1_St a) l1 ?_ ?_
  · simp -implicitDefEqProofs -dsimp only [go_sem]
  · intro nb2 sb2 bb2 b2 gb2
    obtain ⟨k_1, i_1⟩ := sb2
    unfold m_laws_heldEntryS_L1 at b2
    try dsimp only at b2
    rcases ite_some b2 with ⟨h3, b2⟩ | ⟨h3, b2⟩
    · obtain ⟨x1001, g4, b2⟩ := obnd_some b2
      obtain ⟨h5, h6, h7⟩ := getI_some g4
      rcases ite_some b2 with ⟨h8, b2⟩ | ⟨h8, b2⟩
      · obtain ⟨r1002, g9, b2⟩ := obnd_some b2
        simp -implicitDefEqProofs -dsimp only [go_sem, (eq_true h3), h5, h6, h7, (eq_true h8)]
        refine callW_of (c_laws_heldIntS g9) ?_
        rcases ite_some b2 with ⟨h10, b2⟩ | ⟨h10, b2⟩
        · cases b2
          have e11 := done_of gb2
          subst e11
          try dsimp only at h
          cases h
          simp -implicitDefEqProofs -dsimp only [go_sem, (eq_true h3), h5, h6, h7, (eq_true h8), (eq_true h10)]
        · obtain ⟨r1003, g12, b2⟩ := obnd_some b2
          simp -implicitDefEqProofs -dsimp only [go_sem, (eq_true h3), h5, h6, h7, (eq_true h8), (eq_false h10)]
          refine callW_of (c_laws_heldIntS g12) ?_
          rcases ite_some b2 with ⟨h13, b2⟩ | ⟨h13, b2⟩
          · cases b2
            have e14 := done_of gb2
            subst e14
            try dsimp only at h
            cases h
            simp -implicitDefEqProofs -dsimp only [go_sem, (eq_true h3), h5, h6, h7, (eq_true h8), (eq_false h10), (eq_true h13)]
          · obtain ⟨r1004, g15, b2⟩ := obnd_some b2
            simp -implicitDefEqProofs -dsimp only [go_sem, (eq_true h3), h5, h6, h7, (eq_true h8), (eq_false h10), (eq_false h13)]
            refine callW_of (c_laws_heldIntS g15) ?_
            rcases ite_some b2 with ⟨h16, b2⟩ | ⟨h16, b2⟩
            · cases b2
              have e17 := done_of gb2
              subst e17
              try dsimp only at h
              cases h
              simp -implicitDefEqProofs -dsimp only [go_sem, (eq_true h3), h5, h6, h7, (eq_true h8), (eq_false h10), (eq_false h13), (eq_true h16)]
            · cases b2
              simp -implicitDefEqProofs -dsimp only [go_sem, (eq_true h3), h5, h6, h7, (eq_true h8), (eq_false h10), (eq_false h13), (eq_false h16)]
              refine next_of gb2 ?_
              simp -implicitDefEqProofs -dsimp only [go_sem, (eq_true h3), h5, h6, h7, (eq_true h8), (eq_false h10), (eq_false h13), (eq_false h16)]
      · cases b2
        have e18 := done_of gb2
        subst e18
        try dsimp only at h
        cases h
        simp -implicitDefEqProofs -dsimp only [go_sem, (eq_true h3), h5, h6, h7, (eq_false h8)]
    · cases b2
      have e19 := done_of gb2
      subst e19
      try dsimp only at h
      cases h
      simp -implicitDefEqProofs -dsimp only [go_sem, (eq_false h3)]
/- 82 loop.example/g00827/laws.heldDesk -/
def hi82 : Hint where
  acts := fun _ => []
  draws := fun
    | _ => ⟨.nil, [], []⟩
theorem hi82a (i : Nat) : hi82.acts i = [] := rfl
theorem hi82v (i : Nat) : hi82.views i = none := rfl
attribute [go_sem] hi82a hi82v Go.Proofs.Try.ntmps82 Go.Proofs.Try.results82
theorem c_laws_heldDesk {a : GDesk} {k : Int} {res : Int} (h : m_laws_heldDesk a k = some res) : CallOk Go.Proofs.Try.prog 82 [.agg [.sl (rowsOf GNode.encS a.show_.nodes), .sl (rowsOf GTie.enc a.show_.ties), .lit (.int .i64 a.show_.horizon), .lit (.int .i64 a.state.now), .sl (rowsOf eI a.state.times), .sl (rowsOf eI a.state.values), .lit (.bool a.lazy), .sl (rowsOf GEntry.encS a.log)], .lit (.int .i64 k)] [] (.lit (.int .i64 res)) [] := by
  refine callOk_of (ra := []) (md := mdT) hT (hi := hi82) Go.Proofs.Try.func82 rfl rfl (by decide +kernel) (by simp) ?_
  unfold m_laws_heldDesk at h
  obtain ⟨r1001, g1, h⟩ := obnd_some h
  simp -implicitDefEqProofs -dsimp only [go_sem]
  refine callW_of (c_laws_heldShow g1) ?_
  rcases ite_some h with ⟨h2, h⟩ | ⟨h2, h⟩
  · cases h
    simp -implicitDefEqProofs -dsimp only [go_sem, (eq_true h2)]
  · obtain ⟨r1002, g3, h⟩ := obnd_some h
    simp -implicitDefEqProofs -dsimp only [go_sem, (eq_false h2)]
    refine callW_of (c_laws_heldState g3) ?_
    rcases ite_some h with ⟨h4, h⟩ | ⟨h4, h⟩
    · cases h
      simp -implicitDefEqProofs -dsimp only [go_sem, (eq_false h2), (eq_true h4)]
    · obtain ⟨r1003, g5, h⟩ := obnd_some h
      simp -implicitDefEqProofs -dsimp only [go_sem, (eq_false h2), (eq_false h4)]
      refine callW_of (c_laws_heldEntryS g5) ?_
      rcases ite_some h with ⟨h6, h⟩ | ⟨h6, h⟩
      · cases h
        simp -implicitDefEqProofs -dsimp only [go_sem, (eq_false h2), (eq_false h4), (eq_true h6)]
      · cases h
        simp -implicitDefEqProofs -dsimp only [go_sem, (eq_false h2), (eq_false h4), (eq_false h6)]
/- 17 loop.example/g00827/laws.FnExactNewDesk -/
def hi17 : Hint where
  acts := fun _ => []
  draws := fun
    | 10 => ⟨.cons ⟨0, true, []⟩ (.cons ⟨1, false, []⟩ (.cons ⟨2, false, [0]⟩ (.cons ⟨3, false, []⟩ (.cons ⟨4, false, []⟩ .nil)))), [[], [], [1], [0, 1, 2], [0, 1, 2, 3]], [0, 1, 2, 3, 4]⟩
    | _ => ⟨.nil, [], []⟩
theorem hi17a (i : Nat) : hi17.acts i = [] := rfl
theorem hi17v (i : Nat) : hi17.views i = none := rfl
attribute [go_sem] hi17a hi17v Go.Proofs.Try.ntmps17 Go.Proofs.Try.results17
@[go_sem] theorem hi17d10 : (hi17.draws 10).order = .cons ⟨0, true, []⟩ (.cons ⟨1, false, []⟩ (.cons ⟨2, false, [0]⟩ (.cons ⟨3, false, []⟩ (.cons ⟨4, false, []⟩ .nil)))) := rfl
theorem c_laws_FnExactNewDesk {aS : GShow} {aLazy : Bool} {res : Bool} (h : m_laws_FnExactNewDesk aS aLazy = some res) : CallOk Go.Proofs.Try.prog 17 [.agg [.sl (rowsOf GNode.encS aS.nodes), .sl (rowsOf GTie.enc aS.ties), .lit (.int .i64 aS.horizon)], .lit (.bool aLazy)] [] (.lit (.bool res)) [] := by
  refine callOk_of (ra := []) (md := mdT) hT (hi := hi17) Go.Proofs.Try.func17 rfl rfl (by decide +kernel) (by simp) ?_
  unfold m_laws_FnExactNewDesk at h
  obtain ⟨r1001, g1, h⟩ := obnd_some h
  simp -implicitDefEqProofs -dsimp only [go_sem]
  refine callW_of (c_laws_szShow g1) ?_
  rcases ite_some h with ⟨h2, h⟩ | ⟨h2, h⟩
  · cases h
    simp -implicitDefEqProofs -dsimp only [go_sem, (eq_true h2)]
  · obtain ⟨r1002, g3, h⟩ := obnd_some h
    simp -implicitDefEqProofs -dsimp only [go_sem, (eq_false h2)]
    refine callW_of (c_laws_toShow g3) ?_
    obtain ⟨r1003, g4, h⟩ := obnd_some h
    simp -implicitDefEqProofs -dsimp only [go_sem, (eq_false h2)]
    refine callW_of (c_spec_NewDesk g4) ?_
    obtain ⟨r1004, g5, h⟩ := obnd_some h
    simp -implicitDefEqProofs -dsimp only [go_sem, (eq_false h2)]
    refine callW_of (c_laws_toShow g5) ?_
    obtain ⟨r1005, g6, h⟩ := obnd_some h
    simp -implicitDefEqProofs -dsimp only [go_sem, (eq_false h2)]
    refine callW_of (c_impl_NewDesk g6) ?_
    obtain ⟨r1006, g7, h⟩ := obnd_some h
    simp -implicitDefEqProofs -dsimp only [go_sem, (eq_false h2)]
    refine callW_of (c_laws_eqDesk g7) ?_
    rcases ite_some h with ⟨h8, h⟩ | ⟨h8, h⟩
    · rcases ite_some h with ⟨h9, h⟩ | ⟨h9, h⟩
      · obtain ⟨r1007, g10, h⟩ := obnd_some h
        simp -implicitDefEqProofs -dsimp only [go_sem, (eq_false h2), (eq_true h8), (condZ_t h8), (eq_true h9)]
        refine callW_of (c_laws_toShow g10) ?_
        obtain ⟨r1008, g11, h⟩ := obnd_some h
        simp -implicitDefEqProofs -dsimp only [go_sem, (eq_false h2), (eq_true h8), (condZ_t h8), (eq_true h9)]
        refine callW_of (c_laws_eqShow g11) ?_
        rcases ite_some h with ⟨h12, h⟩ | ⟨h12, h⟩
        · obtain ⟨r1009, g13, h⟩ := obnd_some h
          simp -implicitDefEqProofs -dsimp only [go_sem, (eq_false h2), (eq_true h8), (condZ_t h8), (eq_true h9), (eq_true h12), (condZ_t h12)]
          refine callW_of (c_laws_markShow g13) ?_
          rcases ite_some h with ⟨h14, h⟩ | ⟨h14, h⟩
          · cases h
            simp -implicitDefEqProofs -dsimp only [go_sem, (eq_false h2), (eq_true h8), (condZ_t h8), (eq_true h9), (eq_true h12), (condZ_t h12), (eq_true h14)]
          · obtain ⟨r1010, g15, h⟩ := obnd_some h
            simp -implicitDefEqProofs -dsimp only [go_sem, (eq_false h2), (eq_true h8), (condZ_t h8), (eq_true h9), (eq_true h12), (condZ_t h12), (eq_false h14)]
            refine callW_of (c_laws_eqDesk g15) ?_
            rcases ite_some h with ⟨h16, h⟩ | ⟨h16, h⟩
            · obtain ⟨r1011, g17, h⟩ := obnd_some h
              simp -implicitDefEqProofs -dsimp only [go_sem, (eq_false h2), (eq_true h8), (condZ_t h8), (eq_true h9), (eq_true h12), (condZ_t h12), (eq_false h14), (eq_true h16), (condZ_t h16)]
              refine callW_of (c_laws_markDesk g17) ?_
              obtain ⟨h18, h⟩ := chk_some h
              obtain ⟨h19, h⟩ := chk_some h
              obtain ⟨h20, h⟩ := chk_some h
              obtain ⟨h21, h⟩ := chk_some h
              obtain ⟨h22, h⟩ := chk_some h
              obtain ⟨r1012, g23, h⟩ := obnd_some h
              simp -implicitDefEqProofs -dsimp only [go_sem, (eq_false h2), (eq_true h8), (condZ_t h8), (eq_true h9), (eq_true h12), (condZ_t h12), (eq_false h14), (eq_true h16), (condZ_t h16), (eq_true h18), (eq_true h19), (eq_true h20), (eq_true h21), (eq_true h22)]
              refine callW_of (c_laws_heldDesk g23) ?_
              rcases ite_some h with ⟨h24, h⟩ | ⟨h24, h⟩
              · cases h
                simp -implicitDefEqProofs -dsimp only [go_sem, (eq_false h2), (eq_true h8), (condZ_t h8), (eq_true h9), (eq_true h12), (condZ_t h12), (eq_false h14), (eq_true h16), (condZ_t h16), (eq_true h18), (eq_true h19), (eq_true h20), (eq_true h21), (eq_true h22), (eq_true h24)]
              · rcases ite_some h with ⟨h25, h⟩ | ⟨h25, h⟩
                · obtain ⟨r1013, g26, h⟩ := obnd_some h
                  simp -implicitDefEqProofs -dsimp only [go_sem, (eq_false h2), (eq_true h8), (condZ_t h8), (eq_true h9), (eq_true h12), (condZ_t h12), (eq_false h14), (eq_true h16), (condZ_t h16), (eq_true h18), (eq_true h19), (eq_true h20), (eq_true h21), (eq_true h22), (eq_false h24), (eq_true h25)]
                  refine callW_of (c_laws_toShow g26) ?_
                  obtain ⟨r1014, g27, h⟩ := obnd_some h
                  simp -implicitDefEqProofs -dsimp only [go_sem, (eq_false h2), (eq_true h8), (condZ_t h8), (eq_true h9), (eq_true h12), (condZ_t h12), (eq_false h14), (eq_true h16), (condZ_t h16), (eq_true h18), (eq_true h19), (eq_true h20), (eq_true h21), (eq_true h22), (eq_false h24), (eq_true h25)]
                  refine callW_of (c_impl_NewDesk g27) ?_
                  obtain ⟨r1015, g28, h⟩ := obnd_some h
                  simp -implicitDefEqProofs -dsimp only [go_sem, (eq_false h2), (eq_true h8), (condZ_t h8), (eq_true h9), (eq_true h12), (condZ_t h12), (eq_false h14), (eq_true h16), (condZ_t h16), (eq_true h18), (eq_true h19), (eq_true h20), (eq_true h21), (eq_true h22), (eq_false h24), (eq_true h25)]
                  refine callW_of (c_laws_eqDesk g28) ?_
                  rcases ite_some h with ⟨h29, h⟩ | ⟨h29, h⟩
                  · rcases ite_some h with ⟨h30, h⟩ | ⟨h30, h⟩
                    · obtain ⟨r1016, g31, h⟩ := obnd_some h
                      simp -implicitDefEqProofs -dsimp only [go_sem, (eq_false h2), (eq_true h8), (condZ_t h8), (eq_true h9), (eq_true h12), (condZ_t h12), (eq_false h14), (eq_true h16), (condZ_t h16), (eq_true h18), (eq_true h19), (eq_true h20), (eq_true h21), (eq_true h22), (eq_false h24), (eq_true h25), (eq_true h29), (condZ_t h29), (eq_true h30)]
                      refine callW_of (c_laws_heldDesk g31) ?_
                      rcases ite_some h with ⟨h32, h⟩ | ⟨h32, h⟩
                      · cases h
                        simp -implicitDefEqProofs -dsimp only [go_sem, (eq_false h2), (eq_true h8), (condZ_t h8), (eq_true h9), (eq_true h12), (condZ_t h12), (eq_false h14), (eq_true h16), (condZ_t h16), (eq_true h18), (eq_true h19), (eq_true h20), (eq_true h21), (eq_true h22), (eq_false h24), (eq_true h25), (eq_true h29), (condZ_t h29), (eq_true h30), (eq_true h32)]
                      · rcases ite_some h with ⟨h33, h⟩ | ⟨h33, h⟩
                        · cases h
                          simp -implicitDefEqProofs -dsimp only [go_sem, (eq_false h2), (eq_true h8), (condZ_t h8), (eq_true h9), (eq_true h12), (condZ_t h12), (eq_false h14), (eq_true h16), (condZ_t h16), (eq_true h18), (eq_true h19), (eq_true h20), (eq_true h21), (eq_true h22), (eq_false h24), (eq_true h25), (eq_true h29), (condZ_t h29), (eq_true h30), (eq_false h32), (eq_true h33)]
                        · cases h
                          simp -implicitDefEqProofs -dsimp only [go_sem, (eq_false h2), (eq_true h8), (condZ_t h8), (eq_true h9), (eq_true h12), (condZ_t h12), (eq_false h14), (eq_true h16), (condZ_t h16), (eq_true h18), (eq_true h19), (eq_true h20), (eq_true h21), (eq_true h22), (eq_false h24), (eq_true h25), (eq_true h29), (condZ_t h29), (eq_true h30), (eq_false h32), (eq_false h33)]
                    · cases h
                      simp -implicitDefEqProofs -dsimp only [go_sem, (eq_false h2), (eq_true h8), (condZ_t h8), (eq_true h9), (eq_true h12), (condZ_t h12), (eq_false h14), (eq_true h16), (condZ_t h16), (eq_true h18), (eq_true h19), (eq_true h20), (eq_true h21), (eq_true h22), (eq_false h24), (eq_true h25), (eq_true h29), (condZ_t h29), (eq_false h30)]
                  · cases h
                    simp -implicitDefEqProofs -dsimp only [go_sem, (eq_false h2), (eq_true h8), (condZ_t h8), (eq_true h9), (eq_true h12), (condZ_t h12), (eq_false h14), (eq_true h16), (condZ_t h16), (eq_true h18), (eq_true h19), (eq_true h20), (eq_true h21), (eq_true h22), (eq_false h24), (eq_true h25), (eq_false h29), (condZ_f h29)]
                · cases h
                  simp -implicitDefEqProofs -dsimp only [go_sem, (eq_false h2), (eq_true h8), (condZ_t h8), (eq_true h9), (eq_true h12), (condZ_t h12), (eq_false h14), (eq_true h16), (condZ_t h16), (eq_true h18), (eq_true h19), (eq_true h20), (eq_true h21), (eq_true h22), (eq_false h24), (eq_false h25)]
            · cases h
              simp -implicitDefEqProofs -dsimp only [go_sem, (eq_false h2), (eq_true h8), (condZ_t h8), (eq_true h9), (eq_true h12), (condZ_t h12), (eq_false h14), (eq_false h16), (condZ_f h16)]
        · cases h
          simp -implicitDefEqProofs -dsimp only [go_sem, (eq_false h2), (eq_true h8), (condZ_t h8), (eq_true h9), (eq_false h12), (condZ_f h12)]
      · cases h
        simp -implicitDefEqProofs -dsimp only [go_sem, (eq_false h2), (eq_true h8), (condZ_t h8), (eq_false h9)]
    · cases h
      simp -implicitDefEqProofs -dsimp only [go_sem, (eq_false h2), (eq_false h8), (condZ_f h8)]
end Go.Proofs.YtgmiaokdnpaglaaX
