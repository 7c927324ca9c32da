/- Functions. -/
import Derived.Test.YtgmiaokdnpaglaaWFK0
set_option linter.all false
set_option linter.unusedVariables false
set_option linter.unusedSimpArgs false
set_option maxRecDepth 100000
set_option maxHeartbeats 400000
namespace Go.Proofs.YtgmiaokdnpaglaaW
open Go
/- 132 loop.example/g00827/spec.l08Copy -/
def m_spec_l08Copy_L1_St (v14 : List GNode) (v15 : Int) (out_2 : Int) (h384 : List GTie) : (Int × (List GNode)) → St
  | (v16, h100012288) => ⟨[(2, .ptr 128 1 0 0), (3, .ptr 192 1 0 0), (14, .sl (rowsOf GNode.encS v14)), (15, .lit (.int .i64 v15)), (16, .lit (.int .i64 v16))], [(128, 1, .var [.lit (.slice none 0 0), .lit (.slice none 0 0), .lit (.int .i64 0)]), (192, 1, .var [.ref 100012288 1 0 h100012288.length, .ref 384 1 0 h384.length, .lit (.int .i64 out_2)]), (100012288, 1, .row true (rowsOf GNode.encO h100012288)), (384, 1, .row true (rowsOf GTie.enc h384))], 2⟩
attribute [go_sem] m_spec_l08Copy_L1_St
def hi132 : Hint where
  acts := fun _ => []
  draws := fun
    | 1 => ⟨.cons ⟨1, true, []⟩ (.cons ⟨2, true, []⟩ (.cons ⟨4, true, []⟩ (.cons ⟨5, true, []⟩ (.fork (.cons ⟨0, false, [1, 2, 4, 5]⟩ (.fork (.cons ⟨3, false, [4, 5]⟩ (.cons ⟨6, false, []⟩ (.cons ⟨7, false, [1, 2, 4, 5]⟩ (.cons ⟨8, false, []⟩ .nil)))) (.cons ⟨7, false, [1, 2, 4, 5]⟩ (.cons ⟨3, false, [4, 5]⟩ (.cons ⟨6, false, []⟩ (.cons ⟨8, false, []⟩ .nil)))))) (.cons ⟨7, false, [1, 2, 4, 5]⟩ (.cons ⟨0, false, [1, 2, 4, 5]⟩ (.cons ⟨3, false, [4, 5]⟩ (.cons ⟨6, false, []⟩ (.cons ⟨8, false, []⟩ .nil))))))))), [[], [], [1], [0, 1, 2], [], [4], [0, 1, 2, 3, 4, 5], [], [0, 1, 2, 3, 4, 5, 6, 7]], [0, 1, 2, 3, 4, 5, 6, 7, 8]⟩
    | 5 => ⟨.cons ⟨0, true, []⟩ (.cons ⟨1, true, []⟩ (.cons ⟨2, true, []⟩ (.cons ⟨3, true, []⟩ (.cons ⟨5, true, []⟩ (.cons ⟨6, true, []⟩ (.cons ⟨8, true, []⟩ (.cons ⟨9, true, []⟩ (.cons ⟨4, false, [0, 1, 2, 3, 5, 6, 8, 9]⟩ (.cons ⟨7, false, [0, 1, 2, 3, 8, 9]⟩ (.cons ⟨10, false, []⟩ (.cons ⟨11, false, [0, 1]⟩ (.cons ⟨12, false, []⟩ (.cons ⟨13, false, []⟩ (.cons ⟨14, false, []⟩ .nil)))))))))))))), [[], [0], [], [2], [], [], [5], [4, 5, 6], [], [8], [2, 3, 4, 5, 6, 7, 8, 9], [2, 3, 4, 5, 6, 7, 8, 9, 10], [0, 1, 2, 3, 4, 5, 6, 7, 8, 9, 10, 11], [0, 1, 2, 3, 4, 5, 6, 7, 8, 9, 10, 11, 12], [0, 1, 2, 3, 4, 5, 6, 7, 8, 9, 10, 11, 12, 13]], [0, 1, 2, 3, 4, 5, 6, 7, 8, 9, 10, 11, 12, 13, 14]⟩
    | _ => ⟨.nil, [], []⟩
theorem hi132a (i : Nat) : hi132.acts i = [] := rfl
theorem hi132v (i : Nat) : hi132.views i = none := rfl
attribute [go_sem] hi132a hi132v Go.Proofs.Try.ntmps132 Go.Proofs.Try.results132
@[go_sem] theorem hi132d1 : (hi132.draws 1).order = .cons ⟨1, true, []⟩ (.cons ⟨2, true, []⟩ (.cons ⟨4, true, []⟩ (.cons ⟨5, true, []⟩ (.fork (.cons ⟨0, false, [1, 2, 4, 5]⟩ (.fork (.cons ⟨3, false, [4, 5]⟩ (.cons ⟨6, false, []⟩ (.cons ⟨7, false, [1, 2, 4, 5]⟩ (.cons ⟨8, false, []⟩ .nil)))) (.cons ⟨7, false, [1, 2, 4, 5]⟩ (.cons ⟨3, false, [4, 5]⟩ (.cons ⟨6, false, []⟩ (.cons ⟨8, false, []⟩ .nil)))))) (.cons ⟨7, false, [1, 2, 4, 5]⟩ (.cons ⟨0, false, [1, 2, 4, 5]⟩ (.cons ⟨3, false, [4, 5]⟩ (.cons ⟨6, false, []⟩ (.cons ⟨8, false, []⟩ .nil))))))))) := rfl
@[go_sem] theorem hi132d5 : (hi132.draws 5).order = .cons ⟨0, true, []⟩ (.cons ⟨1, true, []⟩ (.cons ⟨2, true, []⟩ (.cons ⟨3, true, []⟩ (.cons ⟨5, true, []⟩ (.cons ⟨6, true, []⟩ (.cons ⟨8, true, []⟩ (.cons ⟨9, true, []⟩ (.cons ⟨4, false, [0, 1, 2, 3, 5, 6, 8, 9]⟩ (.cons ⟨7, false, [0, 1, 2, 3, 8, 9]⟩ (.cons ⟨10, false, []⟩ (.cons ⟨11, false, [0, 1]⟩ (.cons ⟨12, false, []⟩ (.cons ⟨13, false, []⟩ (.cons ⟨14, false, []⟩ .nil)))))))))))))) := rfl
theorem c_spec_l08Copy {s : GShow} {res : GShow} (h : m_spec_l08Copy s = some res) : CallOk Go.Proofs.Try.prog 132 [.agg [.sl (rowsOf GNode.encS s.nodes), .sl (rowsOf GTie.enc s.ties), .lit (.int .i64 s.horizon)]] [] (.agg [.ref 20000 1 0 res.nodes.length, .ref 20001 1 0 res.ties.length, .lit (.int .i64 res.horizon)]) [(20000, 1, .row true (rowsOf GNode.encO res.nodes)), (20001, 1, .row true (rowsOf GTie.enc res.ties))] := by
  refine callOk_of (ra := [.homeCell 128 0, .homeCell 128 1]) (md := mdT) hT (hi := hi132) Go.Proofs.Try.func132 rfl rfl (by decide +kernel) (by simp) ?_
  unfold m_spec_l08Copy at h
  simp -implicitDefEqProofs -dsimp only [go_sem]
  refine zforkI ?_ ?_
  · simp -implicitDefEqProofs -dsimp only [go_sem]
    refine zforkI ?_ ?_
    · obtain ⟨h1, h⟩ := chk_some h
      obtain ⟨h2, h⟩ := chk_some h
      obtain ⟨q1002, l3, h⟩ := obnd_some h
      simp -implicitDefEqProofs -dsimp only [go_sem, (eq_true h1), (eq_true h2)]
      refine loopW_loopO (m1 := .mk) (m2 := .mk) [.homeCell 192 0, .nf [2, 3, 14, 15, 16] [128, 192, 100012288, 384]] (m_spec_l08Copy_L1_St s.nodes ((s.nodes.length : Nat) : Int) s.horizon s.ties) l3 ?_ ?_
      · simp -implicitDefEqProofs -dsimp only [go_sem, (eq_true h1), (eq_true h2)]
      · intro nb4 sb4 bb4 b4 gb4
        obtain ⟨v16_1, h100012288_1⟩ := sb4
        unfold m_spec_l08Copy_L1 at b4
        try dsimp only at b4
        rcases ite_some b4 with ⟨h5, b4⟩ | ⟨h5, b4⟩
        · obtain ⟨x1001, g6, b4⟩ := obnd_some b4
          obtain ⟨h7, h8, h9⟩ := getI_some g6
          obtain ⟨h10, b4⟩ := chk_some b4
          obtain ⟨h11, b4⟩ := chk_some b4
          obtain ⟨h12, b4⟩ := chk_some b4
          obtain ⟨h13, b4⟩ := chk_some b4
          cases b4
          simp -implicitDefEqProofs -dsimp only [go_sem, (eq_true h1), (eq_true h2), (eq_true h5), h7, h8, h9, (eq_true h10), (eq_true h11), (eq_true h12), (eq_true h13)]
          refine next_of gb4 ?_
          simp -implicitDefEqProofs -dsimp only [go_sem, (eq_true h1), (eq_true h2), (eq_true h5), h7, h8, h9, (eq_true h10), (eq_true h11), (eq_true h12), (eq_true h13)]
        · cases b4
          have e14 := done_of gb4
          subst e14
          try dsimp only at h
          cases h
          simp -implicitDefEqProofs -dsimp only [go_sem, (eq_true h1), (eq_true h2), (eq_false h5)]
    · obtain ⟨h15, h⟩ := chk_some h
      obtain ⟨h16, h⟩ := chk_some h
      obtain ⟨q1004, l17, h⟩ := obnd_some h
      simp -implicitDefEqProofs -dsimp only [go_sem, (eq_true h15), (eq_true h16)]
      refine loopW_loopO (m1 := .mk) (m2 := .mk) [.homeCell 192 0, .nf [2, 3, 14, 15, 16] [128, 192, 100012288, 384]] (m_spec_l08Copy_L1_St s.nodes ((s.nodes.length : Nat) : Int) s.horizon s.ties) l17 ?_ ?_
      · simp -implicitDefEqProofs -dsimp only [go_sem, (eq_true h15), (eq_true h16)]
      · intro nb18 sb18 bb18 b18 gb18
        obtain ⟨v16_2, h100012288_2⟩ := sb18
        unfold m_spec_l08Copy_L1 at b18
        try dsimp only at b18
        rcases ite_some b18 with ⟨h19, b18⟩ | ⟨h19, b18⟩
        · obtain ⟨x1003, g20, b18⟩ := obnd_some b18
          obtain ⟨h21, h22, h23⟩ := getI_some g20
          obtain ⟨h24, b18⟩ := chk_some b18
          obtain ⟨h25, b18⟩ := chk_some b18
          obtain ⟨h26, b18⟩ := chk_some b18
          obtain ⟨h27, b18⟩ := chk_some b18
          cases b18
          simp -implicitDefEqProofs -dsimp only [go_sem, (eq_true h15), (eq_true h16), (eq_true h19), h21, h22, h23, (eq_true h24), (eq_true h25), (eq_true h26), (eq_true h27)]
          refine next_of gb18 ?_
          simp -implicitDefEqProofs -dsimp only [go_sem, (eq_true h15), (eq_true h16), (eq_true h19), h21, h22, h23, (eq_true h24), (eq_true h25), (eq_true h26), (eq_true h27)]
        · cases b18
          have e28 := done_of gb18
          subst e28
          try dsimp only at h
          cases h
          simp -implicitDefEqProofs -dsimp only [go_sem, (eq_true h15), (eq_true h16), (eq_false h19)]
  · obtain ⟨h29, h⟩ := chk_some h
    obtain ⟨h30, h⟩ := chk_some h
    obtain ⟨q1006, l31, h⟩ := obnd_some h
    simp -implicitDefEqProofs -dsimp only [go_sem, (eq_true h29), (eq_true h30)]
    refine loopW_loopO (m1 := .mk) (m2 := .mk) [.homeCell 192 0, .nf [2, 3, 14, 15, 16] [128, 192, 100012288, 384]] (m_spec_l08Copy_L1_St s.nodes ((s.nodes.length : Nat) : Int) s.horizon s.ties) l31 ?_ ?_
    · simp -implicitDefEqProofs -dsimp only [go_sem, (eq_true h29), (eq_true h30)]
    · intro nb32 sb32 bb32 b32 gb32
      obtain ⟨v16_3, h100012288_3⟩ := sb32
      unfold m_spec_l08Copy_L1 at b32
      try dsimp only at b32
      rcases ite_some b32 with ⟨h33, b32⟩ | ⟨h33, b32⟩
      · obtain ⟨x1005, g34, b32⟩ := obnd_some b32
        obtain ⟨h35, h36, h37⟩ := getI_some g34
        obtain ⟨h38, b32⟩ := chk_some b32
        obtain ⟨h39, b32⟩ := chk_some b32
        obtain ⟨h40, b32⟩ := chk_some b32
        obtain ⟨h41, b32⟩ := chk_some b32
        cases b32
        simp -implicitDefEqProofs -dsimp only [go_sem, (eq_true h29), (eq_true h30), (eq_true h33), h35, h36, h37, (eq_true h38), (eq_true h39), (eq_true h40), (eq_true h41)]
        refine next_of gb32 ?_
        simp -implicitDefEqProofs -dsimp only [go_sem, (eq_true h29), (eq_true h30), (eq_true h33), h35, h36, h37, (eq_true h38), (eq_true h39), (eq_true h40), (eq_true h41)]
      · cases b32
        have e42 := done_of gb32
        subst e42
        try dsimp only at h
        cases h
        simp -implicitDefEqProofs -dsimp only [go_sem, (eq_true h29), (eq_true h30), (eq_false h33)]
/- 61 loop.example/g00827/spec.SkewShow -/
def m_spec_SkewShow_L1_St (second : List Int) (by_ : Int) (v23 : Int) (s_0 : List GNode) (s_1 : List GTie) (s_2 : Int) (v24 : Int) : St := ⟨[(1, .sl (rowsOf eI second)), (2, .lit (.int .i64 by_)), (3, .ptr 192 1 0 0), (6, .ptr 384 1 0 0), (22, .sl (rowsOf eI second)), (23, .lit (.int .i64 v23)), (24, .lit (.int .i64 v24))], [(192, 1, .var [.sl (rowsOf GNode.encS s_0), .sl (rowsOf GTie.enc s_1), .lit (.int .i64 s_2)]), (384, 1, .var [.lit (.slice none 0 0), .lit (.slice none 0 0), .lit (.int .i64 0)])], 2⟩
attribute [go_sem] m_spec_SkewShow_L1_St
def m_spec_SkewShow_L2_St (second : List Int) (by_ : Int) (v54 : List GTie) (v55 : Int) (out_2 : Int) (h3328 : List GNode) : (Int × (List GTie)) → St
  | (v56, h3329) => ⟨[(1, .sl (rowsOf eI second)), (2, .lit (.int .i64 by_)), (6, .ptr 384 1 0 0), (10, .ptr 640 1 0 0), (54, .sl (rowsOf GTie.enc v54)), (55, .lit (.int .i64 v55)), (56, .lit (.int .i64 v56))], [(384, 1, .var [.lit (.slice none 0 0), .lit (.slice none 0 0), .lit (.int .i64 0)]), (640, 1, .var [.ref 3328 1 0 h3328.length, .ref 3329 1 0 h3329.length, .lit (.int .i64 out_2)]), (3328, 1, .row true (rowsOf GNode.encO h3328)), (3329, 1, .row true (rowsOf GTie.enc h3329))], 2⟩
attribute [go_sem] m_spec_SkewShow_L2_St
def hi61 : Hint where
  acts := fun _ => []
  draws := fun
    | 13 => ⟨.cons ⟨0, false, []⟩ (.cons ⟨1, false, []⟩ (.cons ⟨2, false, []⟩ (.cons ⟨4, false, []⟩ (.cons ⟨5, true, []⟩ (.cons ⟨6, true, []⟩ (.cons ⟨3, false, [5, 6]⟩ (.cons ⟨7, false, []⟩ (.cons ⟨8, false, []⟩ .nil)))))))), [[], [], [1], [0, 1, 2], [], [], [5], [0, 1, 2, 3, 4, 5, 6], [0, 1, 2, 3, 4, 5, 6, 7]], [0, 1, 2, 3, 4, 5, 6, 7, 8]⟩
    | _ => ⟨.nil, [], []⟩
theorem hi61a (i : Nat) : hi61.acts i = [] := rfl
theorem hi61v (i : Nat) : hi61.views i = none := rfl
attribute [go_sem] hi61a hi61v Go.Proofs.Try.ntmps61 Go.Proofs.Try.results61
@[go_sem] theorem hi61d13 : (hi61.draws 13).order = .cons ⟨0, false, []⟩ (.cons ⟨1, false, []⟩ (.cons ⟨2, false, []⟩ (.cons ⟨4, false, []⟩ (.cons ⟨5, true, []⟩ (.cons ⟨6, true, []⟩ (.cons ⟨3, false, [5, 6]⟩ (.cons ⟨7, false, []⟩ (.cons ⟨8, false, []⟩ .nil)))))))) := rfl
theorem c_spec_SkewShow {s : GShow} {second : List Int} {by_ : Int} {res : GShow × Bool} (h : m_spec_SkewShow s second by_ = some res) : CallOk Go.Proofs.Try.prog 61 [.agg [.sl (rowsOf GNode.encS s.nodes), .sl (rowsOf GTie.enc s.ties), .lit (.int .i64 s.horizon)], .sl (rowsOf eI second), .lit (.int .i64 by_)] [] (.tup [.agg [.ref 20000 1 0 res.1.nodes.length, .ref 20001 1 0 res.1.ties.length, .lit (.int .i64 res.1.horizon)], .lit (.bool res.2)]) [(20000, 1, .row true (rowsOf GNode.encO res.1.nodes)), (20001, 1, .row true (rowsOf GTie.enc res.1.ties))] := by
  refine callOk_of (ra := [.homeCell 384 0, .homeCell 384 1]) (md := mdT) hT (hi := hi61) Go.Proofs.Try.func61 rfl rfl (by decide +kernel) (by simp) ?_
  unfold m_spec_SkewShow at h
  obtain ⟨r1001, g1, h⟩ := obnd_some h
  simp -implicitDefEqProofs -dsimp only [go_sem]
  refine callW_of (c_spec_ShowOk g1) ?_
  rcases ite_some h with ⟨h2, h⟩ | ⟨h2, h⟩
  · obtain ⟨r1002, g3, h⟩ := obnd_some h
    simp -implicitDefEqProofs -dsimp only [go_sem, (eq_true h2), (condZ_t h2)]
    refine callW_of (c_spec_l01In g3) ?_
    rcases ite_some h with ⟨h4, h⟩ | ⟨h4, h⟩
    · obtain ⟨q1014, l5, h⟩ := obnd_some h
      simp -implicitDefEqProofs -dsimp only [go_sem, (eq_true h2), (condZ_t h2), (eq_true h4), (condZ_t h4)]
      refine loopW_loopO (m1 := .mk) (m2 := .mk) [.nf [1, 2, 3, 6, 22, 23, 24] [192, 384]] (m_spec_SkewShow_L1_St second by_ ((second.length : Nat) : Int) s.nodes s.ties s.horizon) l5 ?_ ?_
      · simp -implicitDefEqProofs -dsimp only [go_sem, (eq_true h2), (condZ_t h2), (eq_true h4), (condZ_t h4)]
      · intro nb6 sb6 bb6 b6 gb6
        obtain ⟨v24_1, eb6⟩ : ∃ v, v = sb6 := ⟨_, rfl⟩; subst eb6
        unfold m_spec_SkewShow_L1 at b6
        try dsimp only at b6
        rcases ite_some b6 with ⟨h7, b6⟩ | ⟨h7, b6⟩
        · obtain ⟨x1003, g8, b6⟩ := obnd_some b6
          obtain ⟨h9, h10, h11⟩ := getI_some g8
          obtain ⟨r1004, g12, b6⟩ := obnd_some b6
          simp -implicitDefEqProofs -dsimp only [go_sem, (eq_true h2), (condZ_t h2), (eq_true h4), (condZ_t h4), (eq_true h7), h9, h10, h11]
          refine callW_of (c_spec_l01In g12) ?_
          rcases ite_some b6 with ⟨h13, b6⟩ | ⟨h13, b6⟩
          · rcases ite_some b6 with ⟨h14, b6⟩ | ⟨h14, b6⟩
            · obtain ⟨x1005, g15, b6⟩ := obnd_some b6
              obtain ⟨h16, h17, h18⟩ := getI_some g15
              rcases ite_some b6 with ⟨h19, b6⟩ | ⟨h19, b6⟩
              · cases b6
                have e20 := done_of gb6
                subst e20
                try dsimp only at h
                cases h
                simp -implicitDefEqProofs -dsimp only [go_sem, (eq_true h2), (condZ_t h2), (eq_true h4), (condZ_t h4), (eq_true h7), h9, h10, h11, (eq_true h13), (condZ_t h13), (eq_true h14), h16, h17, h18, (eq_true h19)]
              · cases b6
                simp -implicitDefEqProofs -dsimp only [go_sem, (eq_true h2), (condZ_t h2), (eq_true h4), (condZ_t h4), (eq_true h7), h9, h10, h11, (eq_true h13), (condZ_t h13), (eq_true h14), h16, h17, h18, (eq_false h19)]
                refine next_of gb6 ?_
                simp -implicitDefEqProofs -dsimp only [go_sem, (eq_true h2), (condZ_t h2), (eq_true h4), (condZ_t h4), (eq_true h7), h9, h10, h11, (eq_true h13), (condZ_t h13), (eq_true h14), h16, h17, h18, (eq_false h19)]
            · cases b6
              simp -implicitDefEqProofs -dsimp only [go_sem, (eq_true h2), (condZ_t h2), (eq_true h4), (condZ_t h4), (eq_true h7), h9, h10, h11, (eq_true h13), (condZ_t h13), (eq_false h14)]
              refine next_of gb6 ?_
              simp -implicitDefEqProofs -dsimp only [go_sem, (eq_true h2), (condZ_t h2), (eq_true h4), (condZ_t h4), (eq_true h7), h9, h10, h11, (eq_true h13), (condZ_t h13), (eq_false h14)]
          · cases b6
            have e21 := done_of gb6
            subst e21
            try dsimp only at h
            cases h
            simp -implicitDefEqProofs -dsimp only [go_sem, (eq_true h2), (condZ_t h2), (eq_true h4), (condZ_t h4), (eq_true h7), h9, h10, h11, (eq_false h13), (condZ_f h13)]
        · cases b6
          have e22 := done_of gb6
          subst e22
          try dsimp only at h
          obtain ⟨r1006, g23, h⟩ := obnd_some h
          simp -implicitDefEqProofs -dsimp only [go_sem, (eq_true h2), (condZ_t h2), (eq_true h4), (condZ_t h4), (eq_false h7)]
          refine callW_of (c_spec_l08Copy g23) ?_
          obtain ⟨q1013, l24, h⟩ := obnd_some h
          simp -implicitDefEqProofs -dsimp only [go_sem, (eq_true h2), (condZ_t h2), (eq_true h4), (condZ_t h4), (eq_false h7)]
          refine loopW_loopO (m1 := .mk) (m2 := .mk) [.nf [1, 2, 6, 10, 54, 55, 56] [384, 640, 3328, 3329]] (m_spec_SkewShow_L2_St second by_ s.ties ((s.ties.length : Nat) : Int) r1006.horizon r1006.nodes) l24 ?_ ?_
          · simp -implicitDefEqProofs -dsimp only [go_sem, (eq_true h2), (condZ_t h2), (eq_true h4), (condZ_t h4), (eq_false h7)]
          · intro nb25 sb25 bb25 b25 gb25
            obtain ⟨v56_2, h3329_2⟩ := sb25
            unfold m_spec_SkewShow_L2 at b25
            try dsimp only at b25
            rcases ite_some b25 with ⟨h26, b25⟩ | ⟨h26, b25⟩
            · obtain ⟨x1007, g27, b25⟩ := obnd_some b25
              obtain ⟨h28, h29, h30⟩ := getI_some g27
              obtain ⟨r1008, g31, b25⟩ := obnd_some b25
              simp -implicitDefEqProofs -dsimp only [go_sem, (eq_true h2), (condZ_t h2), (eq_true h4), (condZ_t h4), (eq_false h7), (eq_true h26), h28, h29, h30]
              refine callW_of (c_spec_l07Has g31) ?_
              obtain ⟨r1009, g32, b25⟩ := obnd_some b25
              simp -implicitDefEqProofs -dsimp only [go_sem, (eq_true h2), (condZ_t h2), (eq_true h4), (condZ_t h4), (eq_false h7), (eq_true h26), h28, h29, h30]
              refine callW_of (c_spec_l07Has g32) ?_
              rcases ite_some b25 with ⟨h33, b25⟩ | ⟨h33, b25⟩
              · cases b25
                simp -implicitDefEqProofs -dsimp only [go_sem, (eq_true h2), (condZ_t h2), (eq_true h4), (condZ_t h4), (eq_false h7), (eq_true h26), h28, h29, h30, (eq_true h33)]
                refine next_of gb25 ?_
                simp -implicitDefEqProofs -dsimp only [go_sem, (eq_true h2), (condZ_t h2), (eq_true h4), (condZ_t h4), (eq_false h7), (eq_true h26), h28, h29, h30, (eq_true h33)]
              · rcases ite_some b25 with ⟨h34, b25⟩ | ⟨h34, b25⟩
                · cases b25
                  have e35 := done_of gb25
                  subst e35
                  try dsimp only at h
                  cases h
                  simp -implicitDefEqProofs -dsimp only [go_sem, (eq_true h2), (condZ_t h2), (eq_true h4), (condZ_t h4), (eq_false h7), (eq_true h26), h28, h29, h30, (eq_false h33), (eq_true h34), (condZ_t h34)]
                · obtain ⟨x1010, g36, b25⟩ := obnd_some b25
                  obtain ⟨h37, h38, h39⟩ := getI_some g36
                  obtain ⟨x1011, g40, b25⟩ := obnd_some b25
                  obtain ⟨h41, h42, h43⟩ := getI_some g40
                  cases b25
                  simp -implicitDefEqProofs -dsimp only [go_sem, (eq_true h2), (condZ_t h2), (eq_true h4), (condZ_t h4), (eq_false h7), (eq_true h26), h28, h29, h30, (eq_false h33), (eq_false h34), (condZ_f h34), h37, h38, h39, h41, h42, h43]
                  refine next_of gb25 ?_
                  simp -implicitDefEqProofs -dsimp only [go_sem, (eq_true h2), (condZ_t h2), (eq_true h4), (condZ_t h4), (eq_false h7), (eq_true h26), h28, h29, h30, (eq_false h33), (eq_false h34), (condZ_f h34), h37, h38, h39, h41, h42, h43]
            · cases b25
              have e44 := done_of gb25
              subst e44
              try dsimp only at h
              obtain ⟨r1012, g45, h⟩ := obnd_some h
              simp -implicitDefEqProofs -dsimp only [go_sem, (eq_true h2), (condZ_t h2), (eq_true h4), (condZ_t h4), (eq_false h7), (eq_false h26)]
              refine callW_of (c_spec_ShowOk g45) ?_
              rcases ite_some h with ⟨h46, h⟩ | ⟨h46, h⟩
              · cases h
                simp -implicitDefEqProofs -dsimp only [go_sem, (eq_true h2), (condZ_t h2), (eq_true h4), (condZ_t h4), (eq_false h7), (eq_false h26), (eq_true h46), (condZ_t h46)]
              · cases h
                simp -implicitDefEqProofs -dsimp only [go_sem, (eq_true h2), (condZ_t h2), (eq_true h4), (condZ_t h4), (eq_false h7), (eq_false h26), (eq_false h46), (condZ_f h46)]
    · cases h
      simp -implicitDefEqProofs -dsimp only [go_sem, (eq_true h2), (condZ_t h2), (eq_false h4), (condZ_f h4)]
  · cases h
    simp -implicitDefEqProofs -dsimp only [go_sem, (eq_false h2), (condZ_f h2)]
/- 99 loop.example/g00827/impl.isUpTo -/
def hi99 : Hint where
  acts := fun _ => []
  draws := fun
    | _ => ⟨.nil, [], []⟩
theorem hi99a (i : Nat) : hi99.acts i = [] := rfl
theorem hi99v (i : Nat) : hi99.views i = none := rfl
attribute [go_sem] hi99a hi99v Go.Proofs.Try.ntmps99 Go.Proofs.Try.results99
theorem c_impl_isUpTo {n : Int} {most : Int} {res : Bool} (h : m_impl_isUpTo n most = some res) : CallOk Go.Proofs.Try.prog 99 [.lit (.int .i64 n), .lit (.int .i64 most)] [] (.lit (.bool res)) [] := by
  refine callOk_of (ra := []) (md := mdT) hT (hi := hi99) Go.Proofs.Try.func99 rfl rfl (by decide +kernel) (by simp) ?_
  unfold m_impl_isUpTo at h
  rcases ite_some h with ⟨h1, h⟩ | ⟨h1, h⟩
  · cases h
    simp -implicitDefEqProofs -dsimp only [go_sem, (eq_true h1)]
  · cases h
    simp -implicitDefEqProofs -dsimp only [go_sem, (eq_false h1)]
/- 163 slices.Clone[[]loop.example/g00827/impl.Tie,loop.example/g00827/impl.Tie] -/
def hi163 : Hint where
  acts := fun _ => []
  draws := fun
    | _ => ⟨.nil, [], []⟩
theorem hi163a (i : Nat) : hi163.acts i = [] := rfl
theorem hi163v (i : Nat) : hi163.views i = none := rfl
attribute [go_sem] hi163a hi163v Go.Proofs.Try.ntmps163 Go.Proofs.Try.results163
theorem c_slices_Clone_Tie {v0 : List GTie} {res : List GTie} (h : m_slices_Clone_Tie v0 = some res) : CallOk Go.Proofs.Try.prog 163 [.sl (rowsOf GTie.enc v0)] [] (.ref 20000 1 0 res.length) [(20000, 1, .row true (rowsOf GTie.enc res))] := by
  refine callOk_of (ra := [.home 2]) (md := mdT) hT (hi := hi163) Go.Proofs.Try.func163 rfl rfl (by decide +kernel) (by simp) ?_
  unfold m_slices_Clone_Tie at h
  rcases nilQ_some h with ⟨h1, h3, h2⟩ | ⟨h1, h3⟩
  · cases h3
    simp -implicitDefEqProofs -dsimp only [go_sem, h1]
  · obtain ⟨h4, h3⟩ := chk_some h3
    obtain ⟨h5, h3⟩ := chk_some h3
    cases h3
    simp -implicitDefEqProofs -dsimp only [go_sem, evIsNil_ne h1, (eq_true h4), (eq_true h5)]
/- 88 slices.Clone[[]int,int] -/
def hi88 : Hint where
  acts := fun _ => []
  draws := fun
    | _ => ⟨.nil, [], []⟩
theorem hi88a (i : Nat) : hi88.acts i = [] := rfl
theorem hi88v (i : Nat) : hi88.views i = none := rfl
attribute [go_sem] hi88a hi88v Go.Proofs.Try.ntmps88 Go.Proofs.Try.results88
theorem c_slices_Clone_int {v0 : List Int} {res : List Int} (h : m_slices_Clone_int v0 = some res) : CallOk Go.Proofs.Try.prog 88 [.sl (rowsOf eI v0)] [] (.ref 20000 1 0 res.length) [(20000, 1, .row true (rowsOf eI res))] := by
  refine callOk_of (ra := [.home 2]) (md := mdT) hT (hi := hi88) Go.Proofs.Try.func88 rfl rfl (by decide +kernel) (by simp) ?_
  unfold m_slices_Clone_int at h
  rcases nilQ_some h with ⟨h1, h3, h2⟩ | ⟨h1, h3⟩
  · cases h3
    simp -implicitDefEqProofs -dsimp only [go_sem, h1]
  · obtain ⟨h4, h3⟩ := chk_some h3
    obtain ⟨h5, h3⟩ := chk_some h3
    cases h3
    simp -implicitDefEqProofs -dsimp only [go_sem, evIsNil_ne h1, (eq_true h4), (eq_true h5)]
/- 101 loop.example/g00827/impl.copyShow -/
def m_impl_copyShow_L1_St (v13 : List GNode) (v14 : Int) (out_2 : Int) (h512 : List GTie) : (Int × (List GNode)) → St
  | (v15, h100012288) => ⟨[(2, .ptr 128 1 0 0), (3, .ptr 192 1 0 0), (13, .sl (rowsOf GNode.encS v13)), (14, .lit (.int .i64 v14)), (15, .lit (.int .i64 v15))], [(128, 1, .var [.lit (.slice none 0 0), .lit (.slice none 0 0), .lit (.int .i64 0)]), (192, 1, .var [.ref 100012288 1 0 h100012288.length, .ref 512 1 0 h512.length, .lit (.int .i64 out_2)]), (100012288, 1, .row true (rowsOf GNode.encO h100012288)), (512, 1, .row true (rowsOf GTie.enc h512))], 2⟩
attribute [go_sem] m_impl_copyShow_L1_St
def hi101 : Hint where
  acts := fun _ => []
  draws := fun
    | 1 => ⟨.cons ⟨0, true, []⟩ (.cons ⟨1, true, []⟩ (.cons ⟨3, true, []⟩ (.cons ⟨4, true, []⟩ (.fork (.cons ⟨2, false, [3, 4]⟩ (.cons ⟨5, false, []⟩ (.cons ⟨6, false, [0, 1, 3, 4]⟩ (.cons ⟨7, false, []⟩ .nil)))) (.cons ⟨6, false, [0, 1, 3, 4]⟩ (.cons ⟨2, false, [3, 4]⟩ (.cons ⟨5, false, []⟩ (.cons ⟨7, false, []⟩ .nil)))))))), [[], [0], [0, 1], [], [3], [0, 1, 2, 3, 4], [], [0, 1, 2, 3, 4, 5, 6]], [0, 1, 2, 3, 4, 5, 6, 7]⟩
    | _ => ⟨.nil, [], []⟩
theorem hi101a (i : Nat) : hi101.acts i = [] := rfl
theorem hi101v (i : Nat) : hi101.views i = none := rfl
attribute [go_sem] hi101a hi101v Go.Proofs.Try.ntmps101 Go.Proofs.Try.results101
@[go_sem] theorem hi101d1 : (hi101.draws 1).order = .cons ⟨0, true, []⟩ (.cons ⟨1, true, []⟩ (.cons ⟨3, true, []⟩ (.cons ⟨4, true, []⟩ (.fork (.cons ⟨2, false, [3, 4]⟩ (.cons ⟨5, false, []⟩ (.cons ⟨6, false, [0, 1, 3, 4]⟩ (.cons ⟨7, false, []⟩ .nil)))) (.cons ⟨6, false, [0, 1, 3, 4]⟩ (.cons ⟨2, false, [3, 4]⟩ (.cons ⟨5, false, []⟩ (.cons ⟨7, false, []⟩ .nil)))))))) := rfl
theorem c_impl_copyShow {s : GShow} {res : GShow} (h : m_impl_copyShow s = some res) : CallOk Go.Proofs.Try.prog 101 [.agg [.sl (rowsOf GNode.encS s.nodes), .sl (rowsOf GTie.enc s.ties), .lit (.int .i64 s.horizon)]] [] (.agg [.ref 20000 1 0 res.nodes.length, .ref 20001 1 0 res.ties.length, .lit (.int .i64 res.horizon)]) [(20000, 1, .row true (rowsOf GNode.encO res.nodes)), (20001, 1, .row true (rowsOf GTie.enc res.ties))] := by
  refine callOk_of (ra := [.homeCell 128 0, .homeCell 128 1]) (md := mdT) hT (hi := hi101) Go.Proofs.Try.func101 rfl rfl (by decide +kernel) (by simp) ?_
  unfold m_impl_copyShow at h
  simp -implicitDefEqProofs -dsimp only [go_sem]
  refine zforkI ?_ ?_
  · obtain ⟨r1001, g1, h⟩ := obnd_some h
    simp -implicitDefEqProofs -dsimp only [go_sem]
    refine callW_of (c_slices_Clone_Tie g1) ?_
    obtain ⟨q1004, l2, h⟩ := obnd_some h
    simp -implicitDefEqProofs -dsimp only [go_sem]
    refine loopW_loopO (m1 := .mk) (m2 := .mk) [.homeCell 192 0, .nf [2, 3, 13, 14, 15] [128, 192, 100012288, 512]] (m_impl_copyShow_L1_St s.nodes ((s.nodes.length : Nat) : Int) s.horizon r1001) l2 ?_ ?_
    · simp -implicitDefEqProofs -dsimp only [go_sem]
    · intro nb3 sb3 bb3 b3 gb3
      obtain ⟨v15_1, h100012288_1⟩ := sb3
      unfold m_impl_copyShow_L1 at b3
      try dsimp only at b3
      rcases ite_some b3 with ⟨h4, b3⟩ | ⟨h4, b3⟩
      · obtain ⟨x1002, g5, b3⟩ := obnd_some b3
        obtain ⟨h6, h7, h8⟩ := getI_some g5
        obtain ⟨r1003, g9, b3⟩ := obnd_some b3
        simp -implicitDefEqProofs -dsimp only [go_sem, (eq_true h4), h6, h7, h8]
        refine callW_of (c_slices_Clone_int g9) ?_
        obtain ⟨h10, b3⟩ := chk_some b3
        obtain ⟨h11, b3⟩ := chk_some b3
        cases b3
        simp -implicitDefEqProofs -dsimp only [go_sem, (eq_true h4), h6, h7, h8, (eq_true h10), (eq_true h11)]
        refine next_of gb3 ?_
        simp -implicitDefEqProofs -dsimp only [go_sem, (eq_true h4), h6, h7, h8, (eq_true h10), (eq_true h11)]
      · cases b3
        have e12 := done_of gb3
        subst e12
        try dsimp only at h
        cases h
        simp -implicitDefEqProofs -dsimp only [go_sem, (eq_false h4)]
  · obtain ⟨r1005, g13, h⟩ := obnd_some h
    simp -implicitDefEqProofs -dsimp only [go_sem]
    refine callW_of (c_slices_Clone_Tie g13) ?_
    obtain ⟨q1008, l14, h⟩ := obnd_some h
    simp -implicitDefEqProofs -dsimp only [go_sem]
    refine loopW_loopO (m1 := .mk) (m2 := .mk) [.homeCell 192 0, .nf [2, 3, 13, 14, 15] [128, 192, 100012288, 512]] (m_impl_copyShow_L1_St s.nodes ((s.nodes.length : Nat) : Int) s.horizon r1005) l14 ?_ ?_
    · simp -implicitDefEqProofs -dsimp only [go_sem]
    · intro nb15 sb15 bb15 b15 gb15
      obtain ⟨v15_2, h100012288_2⟩ := sb15
      unfold m_impl_copyShow_L1 at b15
      try dsimp only at b15
      rcases ite_some b15 with ⟨h16, b15⟩ | ⟨h16, b15⟩
      · obtain ⟨x1006, g17, b15⟩ := obnd_some b15
        obtain ⟨h18, h19, h20⟩ := getI_some g17
        obtain ⟨r1007, g21, b15⟩ := obnd_some b15
        simp -implicitDefEqProofs -dsimp only [go_sem, (eq_true h16), h18, h19, h20]
        refine callW_of (c_slices_Clone_int g21) ?_
        obtain ⟨h22, b15⟩ := chk_some b15
        obtain ⟨h23, b15⟩ := chk_some b15
        cases b15
        simp -implicitDefEqProofs -dsimp only [go_sem, (eq_true h16), h18, h19, h20, (eq_true h22), (eq_true h23)]
        refine next_of gb15 ?_
        simp -implicitDefEqProofs -dsimp only [go_sem, (eq_true h16), h18, h19, h20, (eq_true h22), (eq_true h23)]
      · cases b15
        have e24 := done_of gb15
        subst e24
        try dsimp only at h
        cases h
        simp -implicitDefEqProofs -dsimp only [go_sem, (eq_false h16)]
/- 32 loop.example/g00827/impl.SkewShow -/
def m_impl_SkewShow_L1_St (second : List Int) (by_ : Int) (v23 : Int) (s_0 : List GNode) (s_1 : List GTie) (s_2 : Int) (v24 : Int) : St := ⟨[(1, .sl (rowsOf eI second)), (2, .lit (.int .i64 by_)), (3, .ptr 192 1 0 0), (6, .ptr 384 1 0 0), (22, .sl (rowsOf eI second)), (23, .lit (.int .i64 v23)), (24, .lit (.int .i64 v24))], [(192, 1, .var [.sl (rowsOf GNode.encS s_0), .sl (rowsOf GTie.enc s_1), .lit (.int .i64 s_2)]), (384, 1, .var [.lit (.slice none 0 0), .lit (.slice none 0 0), .lit (.int .i64 0)])], 2⟩
attribute [go_sem] m_impl_SkewShow_L1_St
def m_impl_SkewShow_L2_St (second : List Int) (by_ : Int) (v54 : Int) (out_2 : Int) (h3264 : List GNode) : (Int × (List GTie)) → St
  | (v55, v53) => ⟨[(1, .sl (rowsOf eI second)), (2, .lit (.int .i64 by_)), (6, .ptr 384 1 0 0), (10, .ptr 640 1 0 0), (53, .ref 3265 1 0 v53.length), (54, .lit (.int .i64 v54)), (55, .lit (.int .i64 v55))], [(384, 1, .var [.lit (.slice none 0 0), .lit (.slice none 0 0), .lit (.int .i64 0)]), (640, 1, .var [.ref 3264 1 0 h3264.length, .ref 3265 1 0 v53.length, .lit (.int .i64 out_2)]), (3264, 1, .row true (rowsOf GNode.encO h3264)), (3265, 1, .row true (rowsOf GTie.enc v53))], 2⟩
attribute [go_sem] m_impl_SkewShow_L2_St
def hi32 : Hint where
  acts := fun _ => []
  draws := fun
    | 13 => ⟨.cons ⟨0, false, []⟩ (.cons ⟨1, false, []⟩ (.cons ⟨2, false, []⟩ (.cons ⟨4, false, []⟩ (.cons ⟨5, true, []⟩ (.cons ⟨6, true, []⟩ (.cons ⟨3, false, [5, 6]⟩ (.cons ⟨7, false, []⟩ (.cons ⟨8, false, []⟩ .nil)))))))), [[], [], [1], [0, 1, 2], [], [], [5], [0, 1, 2, 3, 4, 5, 6], [0, 1, 2, 3, 4, 5, 6, 7]], [0, 1, 2, 3, 4, 5, 6, 7, 8]⟩
    | 16 => ⟨.cons ⟨0, false, []⟩ (.cons ⟨1, false, []⟩ (.cons ⟨2, false, []⟩ (.cons ⟨3, true, []⟩ (.cons ⟨4, true, []⟩ (.cons ⟨5, false, []⟩ (.cons ⟨6, false, []⟩ (.cons ⟨7, false, []⟩ (.cons ⟨8, false, []⟩ (.cons ⟨9, false, []⟩ (.cons ⟨10, true, []⟩ (.cons ⟨11, true, []⟩ (.cons ⟨12, false, []⟩ (.cons ⟨13, false, []⟩ (.cons ⟨14, false, []⟩ (.cons ⟨15, false, []⟩ (.cons ⟨16, false, [3, 4, 10, 11]⟩ (.cons ⟨17, false, []⟩ (.cons ⟨18, false, []⟩ (.cons ⟨19, false, []⟩ .nil))))))))))))))))))), [[], [0], [], [], [3], [], [], [6], [], [6, 7, 8], [], [10], [], [10, 11, 12], [0, 1, 2, 6, 7, 8, 9], [0, 1, 2, 6, 7, 8, 9, 14], [0, 1, 2, 6, 7, 8, 9, 14, 15], [0, 1, 2, 3, 4, 5, 6, 7, 8, 9, 10, 11, 12, 13, 14, 15, 16], [0, 1, 2, 3, 4, 5, 6, 7, 8, 9, 10, 11, 12, 13, 14, 15, 16, 17], [0, 1, 2, 3, 4, 5, 6, 7, 8, 9, 10, 11, 12, 13, 14, 15, 16, 17, 18]], [0, 1, 2, 10, 11, 12, 3, 4, 5, 6, 13, 14, 15, 16, 7, 8, 9, 17, 18, 19]⟩
    | _ => ⟨.nil, [], []⟩
theorem hi32a (i : Nat) : hi32.acts i = [] := rfl
theorem hi32v (i : Nat) : hi32.views i = none := rfl
attribute [go_sem] hi32a hi32v Go.Proofs.Try.ntmps32 Go.Proofs.Try.results32
@[go_sem] theorem hi32d13 : (hi32.draws 13).order = .cons ⟨0, false, []⟩ (.cons ⟨1, false, []⟩ (.cons ⟨2, false, []⟩ (.cons ⟨4, false, []⟩ (.cons ⟨5, true, []⟩ (.cons ⟨6, true, []⟩ (.cons ⟨3, false, [5, 6]⟩ (.cons ⟨7, false, []⟩ (.cons ⟨8, false, []⟩ .nil)))))))) := rfl
@[go_sem] theorem hi32d16 : (hi32.draws 16).order = .cons ⟨0, false, []⟩ (.cons ⟨1, false, []⟩ (.cons ⟨2, false, []⟩ (.cons ⟨3, true, []⟩ (.cons ⟨4, true, []⟩ (.cons ⟨5, false, []⟩ (.cons ⟨6, false, []⟩ (.cons ⟨7, false, []⟩ (.cons ⟨8, false, []⟩ (.cons ⟨9, false, []⟩ (.cons ⟨10, true, []⟩ (.cons ⟨11, true, []⟩ (.cons ⟨12, false, []⟩ (.cons ⟨13, false, []⟩ (.cons ⟨14, false, []⟩ (.cons ⟨15, false, []⟩ (.cons ⟨16, false, [3, 4, 10, 11]⟩ (.cons ⟨17, false, []⟩ (.cons ⟨18, false, []⟩ (.cons ⟨19, false, []⟩ .nil))))))))))))))))))) := rfl
theorem c_impl_SkewShow {s : GShow} {second : List Int} {by_ : Int} {res : GShow × Bool} (h : m_impl_SkewShow s second by_ = some res) : CallOk Go.Proofs.Try.prog 32 [.agg [.sl (rowsOf GNode.encS s.nodes), .sl (rowsOf GTie.enc s.ties), .lit (.int .i64 s.horizon)], .sl (rowsOf eI second), .lit (.int .i64 by_)] [] (.tup [.agg [.ref 20000 1 0 res.1.nodes.length, .ref 20001 1 0 res.1.ties.length, .lit (.int .i64 res.1.horizon)], .lit (.bool res.2)]) [(20000, 1, .row true (rowsOf GNode.encO res.1.nodes)), (20001, 1, .row true (rowsOf GTie.enc res.1.ties))] := by
  refine callOk_of (ra := [.homeCell 384 0, .homeCell 384 1]) (md := mdT) hT (hi := hi32) Go.Proofs.Try.func32 rfl rfl (by decide +kernel) (by simp) ?_
  unfold m_impl_SkewShow at h
  obtain ⟨r1001, g1, h⟩ := obnd_some h
  simp -implicitDefEqProofs -dsimp only [go_sem]
  refine callW_of (c_impl_ShowOk g1) ?_
  rcases ite_some h with ⟨h2, h⟩ | ⟨h2, h⟩
  · obtain ⟨r1002, g3, h⟩ := obnd_some h
    simp -implicitDefEqProofs -dsimp only [go_sem, (eq_true h2), (condZ_t h2)]
    refine callW_of (c_impl_isUpTo g3) ?_
    rcases ite_some h with ⟨h4, h⟩ | ⟨h4, h⟩
    · obtain ⟨q1013, l5, h⟩ := obnd_some h
      simp -implicitDefEqProofs -dsimp only [go_sem, (eq_true h2), (condZ_t h2), (eq_true h4), (condZ_t h4)]
      refine loopW_loopO (m1 := .mk) (m2 := .mk) [.nf [1, 2, 3, 6, 22, 23, 24] [192, 384]] (m_impl_SkewShow_L1_St second by_ ((second.length : Nat) : Int) s.nodes s.ties s.horizon) l5 ?_ ?_
      · simp -implicitDefEqProofs -dsimp only [go_sem, (eq_true h2), (condZ_t h2), (eq_true h4), (condZ_t h4)]
      · intro nb6 sb6 bb6 b6 gb6
        obtain ⟨v24_1, eb6⟩ : ∃ v, v = sb6 := ⟨_, rfl⟩; subst eb6
        unfold m_impl_SkewShow_L1 at b6
        try dsimp only at b6
        rcases ite_some b6 with ⟨h7, b6⟩ | ⟨h7, b6⟩
        · obtain ⟨x1003, g8, b6⟩ := obnd_some b6
          obtain ⟨h9, h10, h11⟩ := getI_some g8
          obtain ⟨r1004, g12, b6⟩ := obnd_some b6
          simp -implicitDefEqProofs -dsimp only [go_sem, (eq_true h2), (condZ_t h2), (eq_true h4), (condZ_t h4), (eq_true h7), h9, h10, h11]
          refine callW_of (c_impl_isNode g12) ?_
          rcases ite_some b6 with ⟨h13, b6⟩ | ⟨h13, b6⟩
          · rcases ite_some b6 with ⟨h14, b6⟩ | ⟨h14, b6⟩
            · obtain ⟨x1005, g15, b6⟩ := obnd_some b6
              obtain ⟨h16, h17, h18⟩ := getI_some g15
              rcases ite_some b6 with ⟨h19, b6⟩ | ⟨h19, b6⟩
              · cases b6
                have e20 := done_of gb6
                subst e20
                try dsimp only at h
                cases h
                simp -implicitDefEqProofs -dsimp only [go_sem, (eq_true h2), (condZ_t h2), (eq_true h4), (condZ_t h4), (eq_true h7), h9, h10, h11, (eq_true h13), (condZ_t h13), (eq_true h14), h16, h17, h18, (eq_true h19)]
              · cases b6
                simp -implicitDefEqProofs -dsimp only [go_sem, (eq_true h2), (condZ_t h2), (eq_true h4), (condZ_t h4), (eq_true h7), h9, h10, h11, (eq_true h13), (condZ_t h13), (eq_true h14), h16, h17, h18, (eq_false h19)]
                refine next_of gb6 ?_
                simp -implicitDefEqProofs -dsimp only [go_sem, (eq_true h2), (condZ_t h2), (eq_true h4), (condZ_t h4), (eq_true h7), h9, h10, h11, (eq_true h13), (condZ_t h13), (eq_true h14), h16, h17, h18, (eq_false h19)]
            · cases b6
              simp -implicitDefEqProofs -dsimp only [go_sem, (eq_true h2), (condZ_t h2), (eq_true h4), (condZ_t h4), (eq_true h7), h9, h10, h11, (eq_true h13), (condZ_t h13), (eq_false h14)]
              refine next_of gb6 ?_
              simp -implicitDefEqProofs -dsimp only [go_sem, (eq_true h2), (condZ_t h2), (eq_true h4), (condZ_t h4), (eq_true h7), h9, h10, h11, (eq_true h13), (condZ_t h13), (eq_false h14)]
          · cases b6
            have e21 := done_of gb6
            subst e21
            try dsimp only at h
            cases h
            simp -implicitDefEqProofs -dsimp only [go_sem, (eq_true h2), (condZ_t h2), (eq_true h4), (condZ_t h4), (eq_true h7), h9, h10, h11, (eq_false h13), (condZ_f h13)]
        · cases b6
          have e22 := done_of gb6
          subst e22
          try dsimp only at h
          obtain ⟨r1006, g23, h⟩ := obnd_some h
          simp -implicitDefEqProofs -dsimp only [go_sem, (eq_true h2), (condZ_t h2), (eq_true h4), (condZ_t h4), (eq_false h7)]
          refine callW_of (c_impl_copyShow g23) ?_
          obtain ⟨q1012, l24, h⟩ := obnd_some h
          simp -implicitDefEqProofs -dsimp only [go_sem, (eq_true h2), (condZ_t h2), (eq_true h4), (condZ_t h4), (eq_false h7)]
          refine loopW_loopO (m1 := .mk) (m2 := .mk) [.nf [1, 2, 6, 10, 53, 54, 55] [384, 640, 3264, 3265]] (m_impl_SkewShow_L2_St second by_ ((r1006.ties.length : Nat) : Int) r1006.horizon r1006.nodes) l24 ?_ ?_
          · simp -implicitDefEqProofs -dsimp only [go_sem, (eq_true h2), (condZ_t h2), (eq_true h4), (condZ_t h4), (eq_false h7)]
          · intro nb25 sb25 bb25 b25 gb25
            obtain ⟨v55_2, v53_2⟩ := sb25
            unfold m_impl_SkewShow_L2 at b25
            try dsimp only at b25
            rcases ite_some b25 with ⟨h26, b25⟩ | ⟨h26, b25⟩
            · obtain ⟨x1007, g27, b25⟩ := obnd_some b25
              obtain ⟨h28, h29, h30⟩ := getI_some g27
              obtain ⟨r1008, g31, b25⟩ := obnd_some b25
              simp -implicitDefEqProofs -dsimp only [go_sem, (eq_true h2), (condZ_t h2), (eq_true h4), (condZ_t h4), (eq_false h7), (eq_true h26), h28, h29, h30]
              refine callW_of (c_slices_Contains_int g31) ?_
              obtain ⟨r1009, g32, b25⟩ := obnd_some b25
              simp -implicitDefEqProofs -dsimp only [go_sem, (eq_true h2), (condZ_t h2), (eq_true h4), (condZ_t h4), (eq_false h7), (eq_true h26), h28, h29, h30]
              refine callW_of (c_slices_Contains_int g32) ?_
              rcases ite_some b25 with ⟨h33, b25⟩ | ⟨h33, b25⟩
              · cases b25
                simp -implicitDefEqProofs -dsimp only [go_sem, (eq_true h2), (condZ_t h2), (eq_true h4), (condZ_t h4), (eq_false h7), (eq_true h26), h28, h29, h30, (eq_true h33)]
                refine next_of gb25 ?_
                simp -implicitDefEqProofs -dsimp only [go_sem, (eq_true h2), (condZ_t h2), (eq_true h4), (condZ_t h4), (eq_false h7), (eq_true h26), h28, h29, h30, (eq_true h33)]
              · rcases ite_some b25 with ⟨h34, b25⟩ | ⟨h34, b25⟩
                · cases b25
                  have e35 := done_of gb25
                  subst e35
                  try dsimp only at h
                  cases h
                  simp -implicitDefEqProofs -dsimp only [go_sem, (eq_true h2), (condZ_t h2), (eq_true h4), (condZ_t h4), (eq_false h7), (eq_true h26), h28, h29, h30, (eq_false h33), (eq_true h34), (condZ_t h34)]
                · obtain ⟨x1010, g36, b25⟩ := obnd_some b25
                  obtain ⟨h37, h38, h39⟩ := getI_some g36
                  cases b25
                  simp -implicitDefEqProofs -dsimp only [go_sem, (eq_true h2), (condZ_t h2), (eq_true h4), (condZ_t h4), (eq_false h7), (eq_true h26), h28, h29, h30, (eq_false h33), (eq_false h34), (condZ_f h34), h37, h38, h39]
                  refine next_of gb25 ?_
                  simp -implicitDefEqProofs -dsimp only [go_sem, (eq_true h2), (condZ_t h2), (eq_true h4), (condZ_t h4), (eq_false h7), (eq_true h26), h28, h29, h30, (eq_false h33), (eq_false h34), (condZ_f h34), h37, h38, h39]
            · cases b25
              have e40 := done_of gb25
              subst e40
              try dsimp only at h
              obtain ⟨r1011, g41, h⟩ := obnd_some h
              simp -implicitDefEqProofs -dsimp only [go_sem, (eq_true h2), (condZ_t h2), (eq_true h4), (condZ_t h4), (eq_false h7), (eq_false h26)]
              refine callW_of (c_impl_ShowOk g41) ?_
              rcases ite_some h with ⟨h42, h⟩ | ⟨h42, h⟩
              · cases h
                simp -implicitDefEqProofs -dsimp only [go_sem, (eq_true h2), (condZ_t h2), (eq_true h4), (condZ_t h4), (eq_false h7), (eq_false h26), (eq_true h42), (condZ_t h42)]
              · cases h
                simp -implicitDefEqProofs -dsimp only [go_sem, (eq_true h2), (condZ_t h2), (eq_true h4), (condZ_t h4), (eq_false h7), (eq_false h26), (eq_false h42), (condZ_f h42)]
    · cases h
      simp -implicitDefEqProofs -dsimp only [go_sem, (eq_true h2), (condZ_t h2), (eq_false h4), (condZ_f h4)]
  · cases h
    simp -implicitDefEqProofs -dsimp only [go_sem, (eq_false h2), (condZ_f h2)]
/- 133 loop.example/g00827/laws.heldNodeS -/
def m_laws_heldNodeS_L1_St (a : List GNode) : (Int × Int) → St
  | (k, i) => ⟨[(0, .sl (rowsOf GNode.encS a)), (1, .lit (.int .i64 k)), (5, .lit (.int .i64 i))], [], 2⟩
attribute [go_sem] m_laws_heldNodeS_L1_St
def hi133 : Hint where
  acts := fun _ => []
  draws := fun
    | 4 => ⟨.cons ⟨0, false, []⟩ (.cons ⟨1, false, []⟩ (.cons ⟨2, true, []⟩ (.cons ⟨3, true, []⟩ (.cons ⟨4, true, []⟩ (.cons ⟨5, false, []⟩ (.cons ⟨6, false, [2, 3, 4]⟩ (.cons ⟨7, false, []⟩ .nil))))))), [[], [], [0, 1], [0, 1, 2], [0, 1, 2, 3], [], [5], [0, 1, 2, 3, 4, 5, 6]], [0, 1, 2, 3, 4, 5, 6, 7]⟩
    | _ => ⟨.nil, [], []⟩
theorem hi133a (i : Nat) : hi133.acts i = [] := rfl
theorem hi133v (i : Nat) : hi133.views i = none := rfl
attribute [go_sem] hi133a hi133v Go.Proofs.Try.ntmps133 Go.Proofs.Try.results133
@[go_sem] theorem hi133d4 : (hi133.draws 4).order = .cons ⟨0, false, []⟩ (.cons ⟨1, false, []⟩ (.cons ⟨2, true, []⟩ (.cons ⟨3, true, []⟩ (.cons ⟨4, true, []⟩ (.cons ⟨5, false, []⟩ (.cons ⟨6, false, [2, 3, 4]⟩ (.cons ⟨7, false, []⟩ .nil))))))) := rfl
theorem c_laws_heldNodeS {a : List GNode} {k : Int} {res : Int} (h : m_laws_heldNodeS a k = some res) : CallOk Go.Proofs.Try.prog 133 [.sl (rowsOf GNode.encS a), .lit (.int .i64 k)] [] (.lit (.int .i64 res)) [] := by
  refine callOk_of (ra := []) (md := mdT) hT (hi := hi133) Go.Proofs.Try.func133 rfl rfl (by decide +kernel) (by simp) ?_
  unfold m_laws_heldNodeS at h
  obtain ⟨q1004, l1, h⟩ := obnd_some h
  simp -implicitDefEqProofs -dsimp only [go_sem]
  refine loopW_loopO (m1 := .mk) (m2 := .mk) [.nf [0, 1, 5] []] (m_laws_heldNodeS_L1_St a) l1 ?_ ?_
  · simp -implicitDefEqProofs -dsimp only [go_sem]
  · intro nb2 sb2 bb2 b2 gb2
    obtain ⟨k_1, i_1⟩ := sb2
    unfold m_laws_heldNodeS_L1 at b2
    try dsimp only at b2
    rcases ite_some b2 with ⟨h3, b2⟩ | ⟨h3, b2⟩
    · obtain ⟨x1001, g4, b2⟩ := obnd_some b2
      obtain ⟨h5, h6, h7⟩ := getI_some g4
      obtain ⟨r1002, g8, b2⟩ := obnd_some b2
      simp -implicitDefEqProofs -dsimp only [go_sem, (eq_true h3), h5, h6, h7]
      refine callW_of (c_laws_markText g8) ?_
      rcases ite_some b2 with ⟨h9, b2⟩ | ⟨h9, b2⟩
      · obtain ⟨r1003, g10, b2⟩ := obnd_some b2
        simp -implicitDefEqProofs -dsimp only [go_sem, (eq_true h3), h5, h6, h7, (eq_true h9)]
        refine callW_of (c_laws_heldIntS g10) ?_
        rcases ite_some b2 with ⟨h11, b2⟩ | ⟨h11, b2⟩
        · cases b2
          have e12 := done_of gb2
          subst e12
          try dsimp only at h
          cases h
          simp -implicitDefEqProofs -dsimp only [go_sem, (eq_true h3), h5, h6, h7, (eq_true h9), (eq_true h11)]
        · rcases ite_some b2 with ⟨h13, b2⟩ | ⟨h13, b2⟩
          · cases b2
            simp -implicitDefEqProofs -dsimp only [go_sem, (eq_true h3), h5, h6, h7, (eq_true h9), (eq_false h11), (eq_true h13)]
            refine next_of gb2 ?_
            simp -implicitDefEqProofs -dsimp only [go_sem, (eq_true h3), h5, h6, h7, (eq_true h9), (eq_false h11), (eq_true h13)]
          · cases b2
            have e14 := done_of gb2
            subst e14
            try dsimp only at h
            cases h
            simp -implicitDefEqProofs -dsimp only [go_sem, (eq_true h3), h5, h6, h7, (eq_true h9), (eq_false h11), (eq_false h13)]
      · cases b2
        have e15 := done_of gb2
        subst e15
        try dsimp only at h
        cases h
        simp -implicitDefEqProofs -dsimp only [go_sem, (eq_true h3), h5, h6, h7, (eq_false h9)]
    · cases b2
      have e16 := done_of gb2
      subst e16
      try dsimp only at h
      cases h
      simp -implicitDefEqProofs -dsimp only [go_sem, (eq_false h3)]
/- 134 loop.example/g00827/laws.heldTieS -/
def m_laws_heldTieS_L1_St (a : List GTie) : (Int × Int) → St
  | (k, i) => ⟨[(0, .sl (rowsOf GTie.enc a)), (1, .lit (.int .i64 k)), (5, .lit (.int .i64 i))], [], 2⟩
attribute [go_sem] m_laws_heldTieS_L1_St
def hi134 : Hint where
  acts := fun _ => []
  draws := fun
    | _ => ⟨.nil, [], []⟩
theorem hi134a (i : Nat) : hi134.acts i = [] := rfl
theorem hi134v (i : Nat) : hi134.views i = none := rfl
attribute [go_sem] hi134a hi134v Go.Proofs.Try.ntmps134 Go.Proofs.Try.results134
theorem c_laws_heldTieS {a : List GTie} {k : Int} {res : Int} (h : m_laws_heldTieS a k = some res) : CallOk Go.Proofs.Try.prog 134 [.sl (rowsOf GTie.enc a), .lit (.int .i64 k)] [] (.lit (.int .i64 res)) [] := by
  refine callOk_of (ra := []) (md := mdT) hT (hi := hi134) Go.Proofs.Try.func134 rfl rfl (by decide +kernel) (by simp) ?_
  unfold m_laws_heldTieS at h
  obtain ⟨q1002, l1, h⟩ := obnd_some h
  simp -implicitDefEqProofs -dsimp only [go_sem]
  refine loopW_loopO (m1 := .mk) (m2 := .mk) [.nf [0, 1, 5] []] (m_laws_heldTieS_L1_St a) l1 ?_ ?_
  · simp -implicitDefEqProofs -dsimp only [go_sem]
  · intro nb2 sb2 bb2 b2 gb2
    obtain ⟨k_1, i_1⟩ := sb2
    unfold m_laws_heldTieS_L1 at b2
    try dsimp only at b2
    rcases ite_some b2 with ⟨h3, b2⟩ | ⟨h3, b2⟩
    · obtain ⟨x1001, g4, b2⟩ := obnd_some b2
      obtain ⟨h5, h6, h7⟩ := getI_some g4
      rcases ite_some b2 with ⟨h8, b2⟩ | ⟨h8, b2⟩
      · rcases ite_some b2 with ⟨h9, b2⟩ | ⟨h9, b2⟩
        · rcases ite_some b2 with ⟨h10, b2⟩ | ⟨h10, b2⟩
          · rcases ite_some b2 with ⟨h11, b2⟩ | ⟨h11, b2⟩
            · rcases ite_some b2 with ⟨h12, b2⟩ | ⟨h12, b2⟩
              · cases b2
                simp -implicitDefEqProofs -dsimp only [go_sem, (eq_true h3), h5, h6, h7, (eq_true h8), (eq_true h9), (eq_true h10), (eq_true h11), (eq_true h12)]
                refine next_of gb2 ?_
                simp -implicitDefEqProofs -dsimp only [go_sem, (eq_true h3), h5, h6, h7, (eq_true h8), (eq_true h9), (eq_true h10), (eq_true h11), (eq_true h12)]
              · cases b2
                have e13 := done_of gb2
                subst e13
                try dsimp only at h
                cases h
                simp -implicitDefEqProofs -dsimp only [go_sem, (eq_true h3), h5, h6, h7, (eq_true h8), (eq_true h9), (eq_true h10), (eq_true h11), (eq_false h12)]
            · cases b2
              have e14 := done_of gb2
              subst e14
              try dsimp only at h
              cases h
              simp -implicitDefEqProofs -dsimp only [go_sem, (eq_true h3), h5, h6, h7, (eq_true h8), (eq_true h9), (eq_true h10), (eq_false h11)]
          · cases b2
            have e15 := done_of gb2
            subst e15
            try dsimp only at h
            cases h
            simp -implicitDefEqProofs -dsimp only [go_sem, (eq_true h3), h5, h6, h7, (eq_true h8), (eq_true h9), (eq_false h10)]
        · cases b2
          have e16 := done_of gb2
          subst e16
          try dsimp only at h
          cases h
          simp -implicitDefEqProofs -dsimp only [go_sem, (eq_true h3), h5, h6, h7, (eq_true h8), (eq_false h9)]
      · cases b2
        have e17 := done_of gb2
        subst e17
        try dsimp only at h
        cases h
        simp -implicitDefEqProofs -dsimp only [go_sem, (eq_true h3), h5, h6, h7, (eq_false h8)]
    · cases b2
      have e18 := done_of gb2
      subst e18
      try dsimp only at h
      cases h
      simp -implicitDefEqProofs -dsimp only [go_sem, (eq_false h3)]
/- 62 loop.example/g00827/laws.heldShow -/
def hi62 : Hint where
  acts := fun _ => []
  draws := fun
    | _ => ⟨.nil, [], []⟩
theorem hi62a (i : Nat) : hi62.acts i = [] := rfl
theorem hi62v (i : Nat) : hi62.views i = none := rfl
attribute [go_sem] hi62a hi62v Go.Proofs.Try.ntmps62 Go.Proofs.Try.results62
theorem c_laws_heldShow {a : GShow} {k : Int} {res : Int} (h : m_laws_heldShow a k = some res) : CallOk Go.Proofs.Try.prog 62 [.agg [.sl (rowsOf GNode.encS a.nodes), .sl (rowsOf GTie.enc a.ties), .lit (.int .i64 a.horizon)], .lit (.int .i64 k)] [] (.lit (.int .i64 res)) [] := by
  refine callOk_of (ra := []) (md := mdT) hT (hi := hi62) Go.Proofs.Try.func62 rfl rfl (by decide +kernel) (by simp) ?_
  unfold m_laws_heldShow at h
  obtain ⟨r1001, g1, h⟩ := obnd_some h
  simp -implicitDefEqProofs -dsimp only [go_sem]
  refine callW_of (c_laws_heldNodeS g1) ?_
  rcases ite_some h with ⟨h2, h⟩ | ⟨h2, h⟩
  · cases h
    simp -implicitDefEqProofs -dsimp only [go_sem, (eq_true h2)]
  · obtain ⟨r1002, g3, h⟩ := obnd_some h
    simp -implicitDefEqProofs -dsimp only [go_sem, (eq_false h2)]
    refine callW_of (c_laws_heldTieS g3) ?_
    rcases ite_some h with ⟨h4, h⟩ | ⟨h4, h⟩
    · cases h
      simp -implicitDefEqProofs -dsimp only [go_sem, (eq_false h2), (eq_true h4)]
    · cases h
      simp -implicitDefEqProofs -dsimp only [go_sem, (eq_false h2), (eq_false h4)]
/- 13 loop.example/g00827/laws.FnExactSkewShow -/
def hi13 : Hint where
  acts := fun _ => []
  draws := fun
    | 13 => ⟨.cons ⟨0, true, []⟩ (.cons ⟨1, false, []⟩ (.cons ⟨2, false, [0]⟩ (.cons ⟨3, false, []⟩ (.cons ⟨4, false, []⟩ .nil)))), [[], [], [1], [0, 1, 2], [0, 1, 2, 3]], [0, 1, 2, 3, 4]⟩
    | _ => ⟨.nil, [], []⟩
theorem hi13a (i : Nat) : hi13.acts i = [] := rfl
theorem hi13v (i : Nat) : hi13.views i = none := rfl
attribute [go_sem] hi13a hi13v Go.Proofs.Try.ntmps13 Go.Proofs.Try.results13
@[go_sem] theorem hi13d13 : (hi13.draws 13).order = .cons ⟨0, true, []⟩ (.cons ⟨1, false, []⟩ (.cons ⟨2, false, [0]⟩ (.cons ⟨3, false, []⟩ (.cons ⟨4, false, []⟩ .nil)))) := rfl
theorem c_laws_FnExactSkewShow {aS : GShow} {aSecond : List Int} {aBy : Int} {res : Bool} (h : m_laws_FnExactSkewShow aS aSecond aBy = some res) : CallOk Go.Proofs.Try.prog 13 [.agg [.sl (rowsOf GNode.encS aS.nodes), .sl (rowsOf GTie.enc aS.ties), .lit (.int .i64 aS.horizon)], .sl (rowsOf eI aSecond), .lit (.int .i64 aBy)] [] (.lit (.bool res)) [] := by
  refine callOk_of (ra := []) (md := mdT) hT (hi := hi13) Go.Proofs.Try.func13 rfl rfl (by decide +kernel) (by simp) ?_
  unfold m_laws_FnExactSkewShow at h
  rcases ite_some h with ⟨h1, h⟩ | ⟨h1, h⟩
  · cases h
    simp -implicitDefEqProofs -dsimp only [go_sem, (eq_true h1)]
  · obtain ⟨r1001, g2, h⟩ := obnd_some h
    simp -implicitDefEqProofs -dsimp only [go_sem, (eq_false h1)]
    refine callW_of (c_laws_szShow g2) ?_
    rcases ite_some h with ⟨h3, h⟩ | ⟨h3, h⟩
    · cases h
      simp -implicitDefEqProofs -dsimp only [go_sem, (eq_false h1), (eq_true h3)]
    · obtain ⟨r1002, g4, h⟩ := obnd_some h
      simp -implicitDefEqProofs -dsimp only [go_sem, (eq_false h1), (eq_false h3)]
      refine callW_of (c_laws_toShow g4) ?_
      obtain ⟨r1003, g5, h⟩ := obnd_some h
      simp -implicitDefEqProofs -dsimp only [go_sem, (eq_false h1), (eq_false h3)]
      refine callW_of (c_laws_toIntS g5) ?_
      obtain ⟨r1004, g6, h⟩ := obnd_some h
      simp -implicitDefEqProofs -dsimp only [go_sem, (eq_false h1), (eq_false h3)]
      refine callW_of (c_spec_SkewShow g6) ?_
      obtain ⟨r1005, g7, h⟩ := obnd_some h
      simp -implicitDefEqProofs -dsimp only [go_sem, (eq_false h1), (eq_false h3)]
      refine callW_of (c_laws_toShow g7) ?_
      obtain ⟨r1006, g8, h⟩ := obnd_some h
      simp -implicitDefEqProofs -dsimp only [go_sem, (eq_false h1), (eq_false h3)]
      refine callW_of (c_laws_toIntS g8) ?_
      obtain ⟨r1007, g9, h⟩ := obnd_some h
      simp -implicitDefEqProofs -dsimp only [go_sem, (eq_false h1), (eq_false h3)]
      refine callW_of (c_impl_SkewShow g9) ?_
      obtain ⟨r1008, g10, h⟩ := obnd_some h
      simp -implicitDefEqProofs -dsimp only [go_sem, (eq_false h1), (eq_false h3)]
      refine callW_of (c_laws_eqShow g10) ?_
      rcases ite_some h with ⟨h11, h⟩ | ⟨h11, h⟩
      · rcases ite_some h with ⟨h12, h⟩ | ⟨h12, h⟩
        · obtain ⟨r1009, g13, h⟩ := obnd_some h
          simp -implicitDefEqProofs -dsimp only [go_sem, (eq_false h1), (eq_false h3), (eq_true h11), (condZ_t h11), (eq_true h12)]
          refine callW_of (c_laws_toShow g13) ?_
          obtain ⟨r1010, g14, h⟩ := obnd_some h
          simp -implicitDefEqProofs -dsimp only [go_sem, (eq_false h1), (eq_false h3), (eq_true h11), (condZ_t h11), (eq_true h12)]
          refine callW_of (c_laws_eqShow g14) ?_
          rcases ite_some h with ⟨h15, h⟩ | ⟨h15, h⟩
          · obtain ⟨r1011, g16, h⟩ := obnd_some h
            simp -implicitDefEqProofs -dsimp only [go_sem, (eq_false h1), (eq_false h3), (eq_true h11), (condZ_t h11), (eq_true h12), (eq_true h15), (condZ_t h15)]
            refine callW_of (c_laws_toIntS g16) ?_
            obtain ⟨r1012, g17, h⟩ := obnd_some h
            simp -implicitDefEqProofs -dsimp only [go_sem, (eq_false h1), (eq_false h3), (eq_true h11), (condZ_t h11), (eq_true h12), (eq_true h15), (condZ_t h15)]
            refine callW_of (c_laws_eqIntS g17) ?_
            rcases ite_some h with ⟨h18, h⟩ | ⟨h18, h⟩
            · obtain ⟨r1013, g19, h⟩ := obnd_some h
              simp -implicitDefEqProofs -dsimp only [go_sem, (eq_false h1), (eq_false h3), (eq_true h11), (condZ_t h11), (eq_true h12), (eq_true h15), (condZ_t h15), (eq_true h18), (condZ_t h18)]
              refine callW_of (c_laws_markShow g19) ?_
              obtain ⟨r1014, g20, h⟩ := obnd_some h
              simp -implicitDefEqProofs -dsimp only [go_sem, (eq_false h1), (eq_false h3), (eq_true h11), (condZ_t h11), (eq_true h12), (eq_true h15), (condZ_t h15), (eq_true h18), (condZ_t h18)]
              refine callW_of (c_laws_markIntS g20) ?_
              rcases ite_some h with ⟨h21, h⟩ | ⟨h21, h⟩
              · cases h
                simp -implicitDefEqProofs -dsimp only [go_sem, (eq_false h1), (eq_false h3), (eq_true h11), (condZ_t h11), (eq_true h12), (eq_true h15), (condZ_t h15), (eq_true h18), (condZ_t h18), (eq_true h21)]
              · obtain ⟨r1015, g22, h⟩ := obnd_some h
                simp -implicitDefEqProofs -dsimp only [go_sem, (eq_false h1), (eq_false h3), (eq_true h11), (condZ_t h11), (eq_true h12), (eq_true h15), (condZ_t h15), (eq_true h18), (condZ_t h18), (eq_false h21)]
                refine callW_of (c_laws_eqShow g22) ?_
                rcases ite_some h with ⟨h23, h⟩ | ⟨h23, h⟩
                · obtain ⟨r1016, g24, h⟩ := obnd_some h
                  simp -implicitDefEqProofs -dsimp only [go_sem, (eq_false h1), (eq_false h3), (eq_true h11), (condZ_t h11), (eq_true h12), (eq_true h15), (condZ_t h15), (eq_true h18), (condZ_t h18), (eq_false h21), (eq_true h23), (condZ_t h23)]
                  refine callW_of (c_laws_markShow g24) ?_
                  obtain ⟨h25, h⟩ := chk_some h
                  obtain ⟨h26, h⟩ := chk_some h
                  obtain ⟨r1017, g27, h⟩ := obnd_some h
                  simp -implicitDefEqProofs -dsimp only [go_sem, (eq_false h1), (eq_false h3), (eq_true h11), (condZ_t h11), (eq_true h12), (eq_true h15), (condZ_t h15), (eq_true h18), (condZ_t h18), (eq_false h21), (eq_true h23), (condZ_t h23), (eq_true h25), (eq_true h26)]
                  refine callW_of (c_laws_heldShow g27) ?_
                  rcases ite_some h with ⟨h28, h⟩ | ⟨h28, h⟩
                  · cases h
                    simp -implicitDefEqProofs -dsimp only [go_sem, (eq_false h1), (eq_false h3), (eq_true h11), (condZ_t h11), (eq_true h12), (eq_true h15), (condZ_t h15), (eq_true h18), (condZ_t h18), (eq_false h21), (eq_true h23), (condZ_t h23), (eq_true h25), (eq_true h26), (eq_true h28)]
                  · rcases ite_some h with ⟨h29, h⟩ | ⟨h29, h⟩
                    · obtain ⟨r1018, g30, h⟩ := obnd_some h
                      simp -implicitDefEqProofs -dsimp only [go_sem, (eq_false h1), (eq_false h3), (eq_true h11), (condZ_t h11), (eq_true h12), (eq_true h15), (condZ_t h15), (eq_true h18), (condZ_t h18), (eq_false h21), (eq_true h23), (condZ_t h23), (eq_true h25), (eq_true h26), (eq_false h28), (eq_true h29)]
                      refine callW_of (c_laws_toShow g30) ?_
                      obtain ⟨r1019, g31, h⟩ := obnd_some h
                      simp -implicitDefEqProofs -dsimp only [go_sem, (eq_false h1), (eq_false h3), (eq_true h11), (condZ_t h11), (eq_true h12), (eq_true h15), (condZ_t h15), (eq_true h18), (condZ_t h18), (eq_false h21), (eq_true h23), (condZ_t h23), (eq_true h25), (eq_true h26), (eq_false h28), (eq_true h29)]
                      refine callW_of (c_laws_toIntS g31) ?_
                      obtain ⟨r1020, g32, h⟩ := obnd_some h
                      simp -implicitDefEqProofs -dsimp only [go_sem, (eq_false h1), (eq_false h3), (eq_true h11), (condZ_t h11), (eq_true h12), (eq_true h15), (condZ_t h15), (eq_true h18), (condZ_t h18), (eq_false h21), (eq_true h23), (condZ_t h23), (eq_true h25), (eq_true h26), (eq_false h28), (eq_true h29)]
                      refine callW_of (c_impl_SkewShow g32) ?_
                      obtain ⟨r1021, g33, h⟩ := obnd_some h
                      simp -implicitDefEqProofs -dsimp only [go_sem, (eq_false h1), (eq_false h3), (eq_true h11), (condZ_t h11), (eq_true h12), (eq_true h15), (condZ_t h15), (eq_true h18), (condZ_t h18), (eq_false h21), (eq_true h23), (condZ_t h23), (eq_true h25), (eq_true h26), (eq_false h28), (eq_true h29)]
                      refine callW_of (c_laws_eqShow g33) ?_
                      rcases ite_some h with ⟨h34, h⟩ | ⟨h34, h⟩
                      · rcases ite_some h with ⟨h35, h⟩ | ⟨h35, h⟩
                        · obtain ⟨r1022, g36, h⟩ := obnd_some h
                          simp -implicitDefEqProofs -dsimp only [go_sem, (eq_false h1), (eq_false h3), (eq_true h11), (condZ_t h11), (eq_true h12), (eq_true h15), (condZ_t h15), (eq_true h18), (condZ_t h18), (eq_false h21), (eq_true h23), (condZ_t h23), (eq_true h25), (eq_true h26), (eq_false h28), (eq_true h29), (eq_true h34), (condZ_t h34), (eq_true h35)]
                          refine callW_of (c_laws_heldShow g36) ?_
                          rcases ite_some h with ⟨h37, h⟩ | ⟨h37, h⟩
                          · cases h
                            simp -implicitDefEqProofs -dsimp only [go_sem, (eq_false h1), (eq_false h3), (eq_true h11), (condZ_t h11), (eq_true h12), (eq_true h15), (condZ_t h15), (eq_true h18), (condZ_t h18), (eq_false h21), (eq_true h23), (condZ_t h23), (eq_true h25), (eq_true h26), (eq_false h28), (eq_true h29), (eq_true h34), (condZ_t h34), (eq_true h35), (eq_true h37)]
                          · rcases ite_some h with ⟨h38, h⟩ | ⟨h38, h⟩
                            · cases h
                              simp -implicitDefEqProofs -dsimp only [go_sem, (eq_false h1), (eq_false h3), (eq_true h11), (condZ_t h11), (eq_true h12), (eq_true h15), (condZ_t h15), (eq_true h18), (condZ_t h18), (eq_false h21), (eq_true h23), (condZ_t h23), (eq_true h25), (eq_true h26), (eq_false h28), (eq_true h29), (eq_true h34), (condZ_t h34), (eq_true h35), (eq_false h37), (eq_true h38)]
                            · cases h
                              simp -implicitDefEqProofs -dsimp only [go_sem, (eq_false h1), (eq_false h3), (eq_true h11), (condZ_t h11), (eq_true h12), (eq_true h15), (condZ_t h15), (eq_true h18), (condZ_t h18), (eq_false h21), (eq_true h23), (condZ_t h23), (eq_true h25), (eq_true h26), (eq_false h28), (eq_true h29), (eq_true h34), (condZ_t h34), (eq_true h35), (eq_false h37), (eq_false h38)]
                        · cases h
                          simp -implicitDefEqProofs -dsimp only [go_sem, (eq_false h1), (eq_false h3), (eq_true h11), (condZ_t h11), (eq_true h12), (eq_true h15), (condZ_t h15), (eq_true h18), (condZ_t h18), (eq_false h21), (eq_true h23), (condZ_t h23), (eq_true h25), (eq_true h26), (eq_false h28), (eq_true h29), (eq_true h34), (condZ_t h34), (eq_false h35)]
                      · cases h
                        simp -implicitDefEqProofs -dsimp only [go_sem, (eq_false h1), (eq_false h3), (eq_true h11), (condZ_t h11), (eq_true h12), (eq_true h15), (condZ_t h15), (eq_true h18), (condZ_t h18), (eq_false h21), (eq_true h23), (condZ_t h23), (eq_true h25), (eq_true h26), (eq_false h28), (eq_true h29), (eq_false h34), (condZ_f h34)]
                    · cases h
                      simp -implicitDefEqProofs -dsimp only [go_sem, (eq_false h1), (eq_false h3), (eq_true h11), (condZ_t h11), (eq_true h12), (eq_true h15), (condZ_t h15), (eq_true h18), (condZ_t h18), (eq_false h21), (eq_true h23), (condZ_t h23), (eq_true h25), (eq_true h26), (eq_false h28), (eq_false h29)]
                · cases h
                  simp -implicitDefEqProofs -dsimp only [go_sem, (eq_false h1), (eq_false h3), (eq_true h11), (condZ_t h11), (eq_true h12), (eq_true h15), (condZ_t h15), (eq_true h18), (condZ_t h18), (eq_false h21), (eq_false h23), (condZ_f h23)]
            · cases h
              simp -implicitDefEqProofs -dsimp only [go_sem, (eq_false h1), (eq_false h3), (eq_true h11), (condZ_t h11), (eq_true h12), (eq_true h15), (condZ_t h15), (eq_false h18), (condZ_f h18)]
          · cases h
            simp -implicitDefEqProofs -dsimp only [go_sem, (eq_false h1), (eq_false h3), (eq_true h11), (condZ_t h11), (eq_true h12), (eq_false h15), (condZ_f h15)]
        · cases h
          simp -implicitDefEqProofs -dsimp only [go_sem, (eq_false h1), (eq_false h3), (eq_true h11), (condZ_t h11), (eq_false h12)]
      · cases h
        simp -implicitDefEqProofs -dsimp only [go_sem, (eq_false h1), (eq_false h3), (eq_false h11), (condZ_f h11)]
end Go.Proofs.YtgmiaokdnpaglaaW
