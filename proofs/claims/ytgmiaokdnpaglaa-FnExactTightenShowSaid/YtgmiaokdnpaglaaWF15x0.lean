/- Functions. -/
import Derived.Test.YtgmiaokdnpaglaaWFK0
set_option linter.all false
set_option linter.unusedVariables false
set_option linter.unusedSimpArgs false
set_option maxRecDepth 100000
set_option maxHeartbeats 400000
namespace Go.Proofs.YtgmiaokdnpaglaaW
open Go
/- 45 loop.example/g00827/laws.szTakeS -/
def hi45 : Hint where
  acts := fun _ => []
  draws := fun
    | _ => ⟨.nil, [], []⟩
theorem hi45a (i : Nat) : hi45.acts i = [] := rfl
theorem hi45v (i : Nat) : hi45.views i = none := rfl
attribute [go_sem] hi45a hi45v Go.Proofs.Try.ntmps45 Go.Proofs.Try.results45
theorem c_laws_szTakeS {a : List GTake} {left : Int} {res : Int} (h : m_laws_szTakeS a left = some res) : CallOk Go.Proofs.Try.prog 45 [.sl (rowsOf GTake.enc a), .lit (.int .i64 left)] [] (.lit (.int .i64 res)) [] := by
  refine callOk_of (ra := []) (md := mdT) hT (hi := hi45) Go.Proofs.Try.func45 rfl rfl (by decide +kernel) (by simp) ?_
  unfold m_laws_szTakeS at h
  rcases ite_some h with ⟨h1, h⟩ | ⟨h1, h⟩
  · cases h
    simp -implicitDefEqProofs -dsimp only [go_sem, (eq_true h1)]
  · cases h
    simp -implicitDefEqProofs -dsimp only [go_sem, (eq_false h1)]
/- 122 loop.example/g00827/laws.toTake -/
def hi122 : Hint where
  acts := fun _ => []
  draws := fun
    | _ => ⟨.nil, [], []⟩
theorem hi122a (i : Nat) : hi122.acts i = [] := rfl
theorem hi122v (i : Nat) : hi122.views i = none := rfl
attribute [go_sem] hi122a hi122v Go.Proofs.Try.ntmps122 Go.Proofs.Try.results122
theorem c_laws_toTake {a : GTake} {res : GTake} (h : m_laws_toTake a = some res) : CallOk Go.Proofs.Try.prog 122 [.agg [.lit (.int .i64 a.tie), .lit (.int .i64 a.length)]] [] (.agg [.lit (.int .i64 res.tie), .lit (.int .i64 res.length)]) [] := by
  refine callOk_of (ra := []) (md := mdT) hT (hi := hi122) Go.Proofs.Try.func122 rfl rfl (by decide +kernel) (by simp) ?_
  unfold m_laws_toTake at h
  cases h
  simp -implicitDefEqProofs -dsimp only [go_sem]
/- 47 loop.example/g00827/laws.toTakeS -/
def m_laws_toTakeS_L1_St (a : List GTake) : (Int × (List GTake)) → St
  | (i, out) => ⟨[(0, .sl (rowsOf GTake.enc a)), (3, .ref 448 1 0 out.length), (4, .lit (.int .i64 i))], [(448, 1, .row true (rowsOf GTake.enc out))], 2⟩
attribute [go_sem] m_laws_toTakeS_L1_St
def hi47 : Hint where
  acts := fun _ => []
  draws := fun
    | _ => ⟨.nil, [], []⟩
theorem hi47a (i : Nat) : hi47.acts i = [] := rfl
theorem hi47v (i : Nat) : hi47.views i = none := rfl
attribute [go_sem] hi47a hi47v Go.Proofs.Try.ntmps47 Go.Proofs.Try.results47
theorem c_laws_toTakeS {a : List GTake} {res : List GTake} (h : m_laws_toTakeS a = some res) : CallOk Go.Proofs.Try.prog 47 [.sl (rowsOf GTake.enc a)] [] (.ref 20000 1 0 res.length) [(20000, 1, .row true (rowsOf GTake.enc res))] := by
  refine callOk_of (ra := [.home 2]) (md := mdT) hT (hi := hi47) Go.Proofs.Try.func47 rfl rfl (by decide +kernel) (by simp) ?_
  unfold m_laws_toTakeS at h
  obtain ⟨h1, h⟩ := chk_some h
  obtain ⟨h2, h⟩ := chk_some h
  obtain ⟨q1004, l3, h⟩ := obnd_some h
  simp -implicitDefEqProofs -dsimp only [go_sem, (eq_true h1), (eq_true h2)]
  refine loopW_loopO (m1 := .mk) (m2 := .mk) [.nf [0, 3, 4] [448]] (m_laws_toTakeS_L1_St a) l3 ?_ ?_
  · simp -implicitDefEqProofs -dsimp only [go_sem, (eq_true h1), (eq_true h2)]
  · intro nb4 sb4 bb4 b4 gb4
    obtain ⟨i_1, out_1⟩ := sb4
    unfold m_laws_toTakeS_L1 at b4
    try dsimp only at b4
    rcases ite_some b4 with ⟨h5, b4⟩ | ⟨h5, b4⟩
    · obtain ⟨x1001, g6, b4⟩ := obnd_some b4
      obtain ⟨h7, h8, h9⟩ := getI_some g6
      obtain ⟨r1002, g10, b4⟩ := obnd_some b4
      simp -implicitDefEqProofs -dsimp only [go_sem, (eq_true h1), (eq_true h2), (eq_true h5), h7, h8, h9]
      refine callW_of (c_laws_toTake g10) ?_
      obtain ⟨x1003, g11, b4⟩ := obnd_some b4
      obtain ⟨h12, h13, h14⟩ := getI_some g11
      cases b4
      simp -implicitDefEqProofs -dsimp only [go_sem, (eq_true h1), (eq_true h2), (eq_true h5), h7, h8, h9, h12, h13, h14]
      refine next_of gb4 ?_
      simp -implicitDefEqProofs -dsimp only [go_sem, (eq_true h1), (eq_true h2), (eq_true h5), h7, h8, h9, h12, h13, h14]
    · cases b4
      have e15 := done_of gb4
      subst e15
      try dsimp only at h
      cases h
      simp -implicitDefEqProofs -dsimp only [go_sem, (eq_true h1), (eq_true h2), (eq_false h5)]
/- 46 loop.example/g00827/spec.TakesOk -/
def m_spec_TakesOk_L1_St (v15 : List GTake) (v16 : Int) (s_0 : List GNode) (s_1 : List GTie) (s_2 : Int) (v17 : Int) : St := ⟨[(2, .ptr 128 1 0 0), (15, .sl (rowsOf GTake.enc v15)), (16, .lit (.int .i64 v16)), (17, .lit (.int .i64 v17))], [(128, 1, .var [.sl (rowsOf GNode.encS s_0), .sl (rowsOf GTie.enc s_1), .lit (.int .i64 s_2)])], 2⟩
attribute [go_sem] m_spec_TakesOk_L1_St
def hi46 : Hint where
  acts := fun _ => []
  draws := fun
    | 6 => ⟨.cons ⟨0, false, []⟩ (.cons ⟨1, false, []⟩ (.cons ⟨2, false, []⟩ (.cons ⟨3, false, []⟩ (.cons ⟨4, false, []⟩ (.cons ⟨5, false, []⟩ (.cons ⟨6, false, []⟩ (.cons ⟨7, false, []⟩ (.cons ⟨8, false, []⟩ (.cons ⟨9, false, []⟩ (.cons ⟨10, false, []⟩ (.cons ⟨11, false, []⟩ (.cons ⟨12, false, []⟩ (.cons ⟨13, false, []⟩ (.cons ⟨14, false, []⟩ (.cons ⟨15, false, []⟩ (.cons ⟨16, false, []⟩ (.cons ⟨17, false, []⟩ (.cons ⟨18, false, []⟩ (.cons ⟨19, false, []⟩ (.cons ⟨20, false, []⟩ (.cons ⟨21, false, []⟩ (.cons ⟨22, false, []⟩ (.cons ⟨23, false, []⟩ (.cons ⟨24, false, []⟩ (.cons ⟨25, false, []⟩ (.cons ⟨26, false, []⟩ (.cons ⟨27, false, []⟩ (.cons ⟨28, false, []⟩ (.cons ⟨29, false, []⟩ (.cons ⟨30, false, []⟩ (.cons ⟨31, false, []⟩ (.cons ⟨32, false, []⟩ (.cons ⟨33, false, []⟩ (.cons ⟨34, false, []⟩ (.cons ⟨35, false, []⟩ (.cons ⟨36, false, []⟩ (.cons ⟨37, false, []⟩ .nil))))))))))))))))))))))))))))))))))))), [[], [0], [], [2], [2, 3], [2, 3, 4], [0, 1, 2, 3, 4, 5], [0, 1, 2, 3, 4, 5, 6], [0, 1, 2, 3, 4, 5, 6, 7], [0, 1, 2, 3, 4, 5, 6, 7, 8], [0, 1, 2, 3, 4, 5, 6, 7, 8, 9], [0, 1, 2, 3, 4, 5, 6, 7, 8], [0, 1, 2, 3, 4, 5, 6, 7, 8, 11], [0, 1, 2, 3, 4, 5, 6, 7, 8, 9, 10, 11, 12], [0, 1, 2, 3, 4, 5, 6, 7, 8, 9, 10, 11, 12, 13], [0, 1, 2, 3, 4, 5, 6, 7, 8, 9, 10, 11, 12, 13, 14], [0, 1, 2, 3, 4, 5, 6, 7, 8, 9, 10, 11, 12, 13, 14, 15], [0, 1, 2, 3, 4, 5, 6, 7, 8, 9, 10, 11, 12, 13, 14, 15, 16], [0, 1, 2, 3, 4, 5, 6, 7, 8, 9, 10, 11, 12, 13, 14, 15, 16, 17], [0, 1, 2, 3, 4, 5, 6, 7, 8, 9, 10, 11, 12, 13, 14, 15, 16, 17, 18], [0, 1, 2, 3, 4, 5, 6, 7, 8, 9, 10, 11, 12, 13, 14, 15, 16, 17, 18, 19], [0, 1, 2, 3, 4, 5, 6, 7, 8, 9, 10, 11, 12, 13, 14, 15, 16, 17, 18], [0, 1, 2, 3, 4, 5, 6, 7, 8, 9, 10, 11, 12, 13, 14, 15, 16, 17, 18, 21], [0, 1, 2, 3, 4, 5, 6, 7, 8, 9, 10, 11, 12, 13, 14, 15, 16, 17, 18], [0, 1, 2, 3, 4, 5, 6, 7, 8, 9, 10, 11, 12, 13, 14, 15, 16, 17, 18, 23], [0, 1, 2, 3, 4, 5, 6, 7, 8, 9, 10, 11, 12, 13, 14, 15, 16, 17, 18, 21, 22, 23, 24], [0, 1, 2, 3, 4, 5, 6, 7, 8, 9, 10, 11, 12, 13, 14, 15, 16, 17, 18, 21, 22, 23, 24, 25], [0, 1, 2, 3, 4, 5, 6, 7, 8, 9, 10, 11, 12, 13, 14, 15, 16, 17, 18, 21, 22, 23, 24, 25, 26], [0, 1, 2, 3, 4, 5, 6, 7, 8, 9, 10, 11, 12, 13, 14, 15, 16, 17, 18], [0, 1, 2, 3, 4, 5, 6, 7, 8, 9, 10, 11, 12, 13, 14, 15, 16, 17, 18, 28], [0, 1, 2, 3, 4, 5, 6, 7, 8, 9, 10, 11, 12, 13, 14, 15, 16, 17, 18], [0, 1, 2, 3, 4, 5, 6, 7, 8, 9, 10, 11, 12, 13, 14, 15, 16, 17, 18, 30], [0, 1, 2, 3, 4, 5, 6, 7, 8, 9, 10, 11, 12, 13, 14, 15, 16, 17, 18, 28, 29, 30, 31], [0, 1, 2, 3, 4, 5, 6, 7, 8, 9, 10, 11, 12, 13, 14, 15, 16, 17, 18, 28, 29, 30, 31, 32], [0, 1, 2, 3, 4, 5, 6, 7, 8, 9, 10, 11, 12, 13, 14, 15, 16, 17, 18, 28, 29, 30, 31, 32, 33], [0, 1, 2, 3, 4, 5, 6, 7, 8, 9, 10, 11, 12, 13, 14, 15, 16, 17, 18, 19, 20, 21, 22, 23, 24, 25, 26, 27, 28, 29, 30, 31, 32, 33, 34], [0, 1, 2, 3, 4, 5, 6, 7, 8, 9, 10, 11, 12, 13, 14, 15, 16, 17, 18, 19, 20, 21, 22, 23, 24, 25, 26, 27, 28, 29, 30, 31, 32, 33, 34, 35], [0, 1, 2, 3, 4, 5, 6, 7, 8, 9, 10, 11, 12, 13, 14, 15, 16, 17, 18, 19, 20, 21, 22, 23, 24, 25, 26, 27, 28, 29, 30, 31, 32, 33, 34, 35, 36]], [0, 1, 2, 3, 4, 5, 6, 7, 8, 9, 10, 11, 12, 13, 14, 15, 16, 17, 18, 19, 20, 21, 22, 23, 24, 25, 26, 27, 28, 29, 30, 31, 32, 33, 34, 35, 36, 37]⟩
    | _ => ⟨.nil, [], []⟩
theorem hi46a (i : Nat) : hi46.acts i = [] := rfl
theorem hi46v (i : Nat) : hi46.views i = none := rfl
attribute [go_sem] hi46a hi46v Go.Proofs.Try.ntmps46 Go.Proofs.Try.results46
@[go_sem] theorem hi46d6 : (hi46.draws 6).order = .cons ⟨0, false, []⟩ (.cons ⟨1, false, []⟩ (.cons ⟨2, false, []⟩ (.cons ⟨3, false, []⟩ (.cons ⟨4, false, []⟩ (.cons ⟨5, false, []⟩ (.cons ⟨6, false, []⟩ (.cons ⟨7, false, []⟩ (.cons ⟨8, false, []⟩ (.cons ⟨9, false, []⟩ (.cons ⟨10, false, []⟩ (.cons ⟨11, false, []⟩ (.cons ⟨12, false, []⟩ (.cons ⟨13, false, []⟩ (.cons ⟨14, false, []⟩ (.cons ⟨15, false, []⟩ (.cons ⟨16, false, []⟩ (.cons ⟨17, false, []⟩ (.cons ⟨18, false, []⟩ (.cons ⟨19, false, []⟩ (.cons ⟨20, false, []⟩ (.cons ⟨21, false, []⟩ (.cons ⟨22, false, []⟩ (.cons ⟨23, false, []⟩ (.cons ⟨24, false, []⟩ (.cons ⟨25, false, []⟩ (.cons ⟨26, false, []⟩ (.cons ⟨27, false, []⟩ (.cons ⟨28, false, []⟩ (.cons ⟨29, false, []⟩ (.cons ⟨30, false, []⟩ (.cons ⟨31, false, []⟩ (.cons ⟨32, false, []⟩ (.cons ⟨33, false, []⟩ (.cons ⟨34, false, []⟩ (.cons ⟨35, false, []⟩ (.cons ⟨36, false, []⟩ (.cons ⟨37, false, []⟩ .nil))))))))))))))))))))))))))))))))))))) := rfl
theorem c_spec_TakesOk {s : GShow} {list : List GTake} {res : Bool} (h : m_spec_TakesOk s list = some res) : CallOk Go.Proofs.Try.prog 46 [.agg [.sl (rowsOf GNode.encS s.nodes), .sl (rowsOf GTie.enc s.ties), .lit (.int .i64 s.horizon)], .sl (rowsOf GTake.enc list)] [] (.lit (.bool res)) [] := by
  refine callOk_of (ra := []) (md := mdT) hT (hi := hi46) Go.Proofs.Try.func46 rfl rfl (by decide +kernel) (by simp) ?_
  unfold m_spec_TakesOk at h
  obtain ⟨r1001, g1, h⟩ := obnd_some h
  simp -implicitDefEqProofs -dsimp only [go_sem]
  refine callW_of (c_spec_ShowOk g1) ?_
  rcases ite_some h with ⟨h2, h⟩ | ⟨h2, h⟩
  · rcases ite_some h with ⟨h3, h⟩ | ⟨h3, h⟩
    · cases h
      simp -implicitDefEqProofs -dsimp only [go_sem, (eq_true h2), (condZ_t h2), (eq_true h3)]
    · obtain ⟨q1006, l4, h⟩ := obnd_some h
      simp -implicitDefEqProofs -dsimp only [go_sem, (eq_true h2), (condZ_t h2), (eq_false h3)]
      refine loopW_loopO (m1 := .mk) (m2 := .mk) [.nf [2, 15, 16, 17] [128]] (m_spec_TakesOk_L1_St list ((list.length : Nat) : Int) s.nodes s.ties s.horizon) l4 ?_ ?_
      · simp -implicitDefEqProofs -dsimp only [go_sem, (eq_true h2), (condZ_t h2), (eq_false h3)]
      · intro nb5 sb5 bb5 b5 gb5
        obtain ⟨v17_1, eb5⟩ : ∃ v, v = sb5 := ⟨_, rfl⟩; subst eb5
        unfold m_spec_TakesOk_L1 at b5
        try dsimp only at b5
        rcases ite_some b5 with ⟨h6, b5⟩ | ⟨h6, b5⟩
        · obtain ⟨x1002, g7, b5⟩ := obnd_some b5
          obtain ⟨h8, h9, h10⟩ := getI_some g7
          obtain ⟨r1003, g11, b5⟩ := obnd_some b5
          simp -implicitDefEqProofs -dsimp only [go_sem, (eq_true h2), (condZ_t h2), (eq_false h3), (eq_true h6), h8, h9, h10]
          refine callW_of (c_spec_l01In g11) ?_
          rcases ite_some b5 with ⟨h12, b5⟩ | ⟨h12, b5⟩
          · obtain ⟨x1004, g13, b5⟩ := obnd_some b5
            obtain ⟨h14, h15, h16⟩ := getI_some g13
            rcases ite_some b5 with ⟨h17, b5⟩ | ⟨h17, b5⟩
            · obtain ⟨r1005, g18, b5⟩ := obnd_some b5
              simp -implicitDefEqProofs -dsimp only [go_sem, (eq_true h2), (condZ_t h2), (eq_false h3), (eq_true h6), h8, h9, h10, (eq_true h12), (condZ_t h12), h14, h15, h16, (eq_true h17), (condZ_t h17)]
              refine callW_of (c_spec_l01In g18) ?_
              rcases ite_some b5 with ⟨h19, b5⟩ | ⟨h19, b5⟩
              · cases b5
                simp -implicitDefEqProofs -dsimp only [go_sem, (eq_true h2), (condZ_t h2), (eq_false h3), (eq_true h6), h8, h9, h10, (eq_true h12), (condZ_t h12), h14, h15, h16, (eq_true h17), (condZ_t h17), (eq_true h19), (condZ_t h19)]
                refine next_of gb5 ?_
                simp -implicitDefEqProofs -dsimp only [go_sem, (eq_true h2), (condZ_t h2), (eq_false h3), (eq_true h6), h8, h9, h10, (eq_true h12), (condZ_t h12), h14, h15, h16, (eq_true h17), (condZ_t h17), (eq_true h19), (condZ_t h19)]
              · cases b5
                have e20 := done_of gb5
                subst e20
                try dsimp only at h
                cases h
                simp -implicitDefEqProofs -dsimp only [go_sem, (eq_true h2), (condZ_t h2), (eq_false h3), (eq_true h6), h8, h9, h10, (eq_true h12), (condZ_t h12), h14, h15, h16, (eq_true h17), (condZ_t h17), (eq_false h19), (condZ_f h19)]
            · cases b5
              have e21 := done_of gb5
              subst e21
              try dsimp only at h
              cases h
              simp -implicitDefEqProofs -dsimp only [go_sem, (eq_true h2), (condZ_t h2), (eq_false h3), (eq_true h6), h8, h9, h10, (eq_true h12), (condZ_t h12), h14, h15, h16, (eq_false h17), (condZ_f h17)]
          · cases b5
            have e22 := done_of gb5
            subst e22
            try dsimp only at h
            cases h
            simp -implicitDefEqProofs -dsimp only [go_sem, (eq_true h2), (condZ_t h2), (eq_false h3), (eq_true h6), h8, h9, h10, (eq_false h12), (condZ_f h12)]
        · cases b5
          have e23 := done_of gb5
          subst e23
          try dsimp only at h
          cases h
          simp -implicitDefEqProofs -dsimp only [go_sem, (eq_true h2), (condZ_t h2), (eq_false h3), (eq_false h6)]
  · cases h
    simp -implicitDefEqProofs -dsimp only [go_sem, (eq_false h2), (condZ_f h2)]
/- 132 loop.example/g00827/spec.l08Copy -/
def m_spec_l08Copy_L1_St (v14 : List GNode) (v15 : Int) (out_2 : Int) (h384 : List GTie) : (Int × (List GNode)) → St
  | (v16, h100012288) => ⟨[(2, .ptr 128 1 0 0), (3, .ptr 192 1 0 0), (14, .sl (rowsOf GNode.encS v14)), (15, .lit (.int .i64 v15)), (16, .lit (.int .i64 v16))], [(128, 1, .var [.lit (.slice none 0 0), .lit (.slice none 0 0), .lit (.int .i64 0)]), (192, 1, .var [.ref 100012288 1 0 h100012288.length, .ref 384 1 0 h384.length, .lit (.int .i64 out_2)]), (100012288, 1, .row true (rowsOf GNode.encO h100012288)), (384, 1, .row true (rowsOf GTie.enc h384))], 2⟩
attribute [go_sem] m_spec_l08Copy_L1_St
def hi132 : Hint where
  acts := fun _ => []
  draws := fun
    | 1 => ⟨.cons ⟨1, true, []⟩ (.cons ⟨2, true, []⟩ (.cons ⟨4, true, []⟩ (.cons ⟨5, true, []⟩ (.fork (.cons ⟨0, false, [1, 2, 4, 5]⟩ (.fork (.cons ⟨3, false, [4, 5]⟩ (.cons ⟨6, false, []⟩ (.cons ⟨7, false, [1, 2, 4, 5]⟩ (.cons ⟨8, false, []⟩ .nil)))) (.cons ⟨7, false, [1, 2, 4, 5]⟩ (.cons ⟨3, false, [4, 5]⟩ (.cons ⟨6, false, []⟩ (.cons ⟨8, false, []⟩ .nil)))))) (.cons ⟨7, false, [1, 2, 4, 5]⟩ (.cons ⟨0, false, [1, 2, 4, 5]⟩ (.cons ⟨3, false, [4, 5]⟩ (.cons ⟨6, false, []⟩ (.cons ⟨8, false, []⟩ .nil))))))))), [[], [], [1], [0, 1, 2], [], [4], [0, 1, 2, 3, 4, 5], [], [0, 1, 2, 3, 4, 5, 6, 7]], [0, 1, 2, 3, 4, 5, 6, 7, 8]⟩
    | 5 => ⟨.cons ⟨0, true, []⟩ (.cons ⟨1, true, []⟩ (.cons ⟨2, true, []⟩ (.cons ⟨3, true, []⟩ (.cons ⟨5, true, []⟩ (.cons ⟨6, true, []⟩ (.cons ⟨8, true, []⟩ (.cons ⟨9, true, []⟩ (.cons ⟨4, false, [0, 1, 2, 3, 5, 6, 8, 9]⟩ (.cons ⟨7, false, [0, 1, 2, 3, 8, 9]⟩ (.cons ⟨10, false, []⟩ (.cons ⟨11, false, [0, 1]⟩ (.cons ⟨12, false, []⟩ (.cons ⟨13, false, []⟩ (.cons ⟨14, false, []⟩ .nil)))))))))))))), [[], [0], [], [2], [], [], [5], [4, 5, 6], [], [8], [2, 3, 4, 5, 6, 7, 8, 9], [2, 3, 4, 5, 6, 7, 8, 9, 10], [0, 1, 2, 3, 4, 5, 6, 7, 8, 9, 10, 11], [0, 1, 2, 3, 4, 5, 6, 7, 8, 9, 10, 11, 12], [0, 1, 2, 3, 4, 5, 6, 7, 8, 9, 10, 11, 12, 13]], [0, 1, 2, 3, 4, 5, 6, 7, 8, 9, 10, 11, 12, 13, 14]⟩
    | _ => ⟨.nil, [], []⟩
theorem hi132a (i : Nat) : hi132.acts i = [] := rfl
theorem hi132v (i : Nat) : hi132.views i = none := rfl
attribute [go_sem] hi132a hi132v Go.Proofs.Try.ntmps132 Go.Proofs.Try.results132
@[go_sem] theorem hi132d1 : (hi132.draws 1).order = .cons ⟨1, true, []⟩ (.cons ⟨2, true, []⟩ (.cons ⟨4, true, []⟩ (.cons ⟨5, true, []⟩ (.fork (.cons ⟨0, false, [1, 2, 4, 5]⟩ (.fork (.cons ⟨3, false, [4, 5]⟩ (.cons ⟨6, false, []⟩ (.cons ⟨7, false, [1, 2, 4, 5]⟩ (.cons ⟨8, false, []⟩ .nil)))) (.cons ⟨7, false, [1, 2, 4, 5]⟩ (.cons ⟨3, false, [4, 5]⟩ (.cons ⟨6, false, []⟩ (.cons ⟨8, false, []⟩ .nil)))))) (.cons ⟨7, false, [1, 2, 4, 5]⟩ (.cons ⟨0, false, [1, 2, 4, 5]⟩ (.cons ⟨3, false, [4, 5]⟩ (.cons ⟨6, false, []⟩ (.cons ⟨8, false, []⟩ .nil))))))))) := rfl
@[go_sem] theorem hi132d5 : (hi132.draws 5).order = .cons ⟨0, true, []⟩ (.cons ⟨1, true, []⟩ (.cons ⟨2, true, []⟩ (.cons ⟨3, true, []⟩ (.cons ⟨5, true, []⟩ (.cons ⟨6, true, []⟩ (.cons ⟨8, true, []⟩ (.cons ⟨9, true, []⟩ (.cons ⟨4, false, [0, 1, 2, 3, 5, 6, 8, 9]⟩ (.cons ⟨7, false, [0, 1, 2, 3, 8, 9]⟩ (.cons ⟨10, false, []⟩ (.cons ⟨11, false, [0, 1]⟩ (.cons ⟨12, false, []⟩ (.cons ⟨13, false, []⟩ (.cons ⟨14, false, []⟩ .nil)))))))))))))) := rfl
theorem c_spec_l08Copy {s : GShow} {res : GShow} (h : m_spec_l08Copy s = some res) : CallOk Go.Proofs.Try.prog 132 [.agg [.sl (rowsOf GNode.encS s.nodes), .sl (rowsOf GTie.enc s.ties), .lit (.int .i64 s.horizon)]] [] (.agg [.ref 20000 1 0 res.nodes.length, .ref 20001 1 0 res.ties.length, .lit (.int .i64 res.horizon)]) [(20000, 1, .row true (rowsOf GNode.encO res.nodes)), (20001, 1, .row true (rowsOf GTie.enc res.ties))] := by
  refine callOk_of (ra := [.homeCell 128 0, .homeCell 128 1]) (md := mdT) hT (hi := hi132) Go.Proofs.Try.func132 rfl rfl (by decide +kernel) (by simp) ?_
  unfold m_spec_l08Copy at h
  simp -implicitDefEqProofs -dsimp only [go_sem]
  refine zforkI ?_ ?_
  · simp -implicitDefEqProofs -dsimp only [go_sem]
    refine zforkI ?_ ?_
    · obtain ⟨h1, h⟩ := chk_some h
      obtain ⟨h2, h⟩ := chk_some h
      obtain ⟨q1002, l3, h⟩ := obnd_some h
      simp -implicitDefEqProofs -dsimp only [go_sem, (eq_true h1), (eq_true h2)]
      refine loopW_loopO (m1 := .mk) (m2 := .mk) [.homeCell 192 0, .nf [2, 3, 14, 15, 16] [128, 192, 100012288, 384]] (m_spec_l08Copy_L1_St s.nodes ((s.nodes.length : Nat) : Int) s.horizon s.ties) l3 ?_ ?_
      · simp -implicitDefEqProofs -dsimp only [go_sem, (eq_true h1), (eq_true h2)]
      · intro nb4 sb4 bb4 b4 gb4
        obtain ⟨v16_1, h100012288_1⟩ := sb4
        unfold m_spec_l08Copy_L1 at b4
        try dsimp only at b4
        rcases ite_some b4 with ⟨h5, b4⟩ | ⟨h5, b4⟩
        · obtain ⟨x1001, g6, b4⟩ := obnd_some b4
          obtain ⟨h7, h8, h9⟩ := getI_some g6
          obtain ⟨h10, b4⟩ := chk_some b4
          obtain ⟨h11, b4⟩ := chk_some b4
          obtain ⟨h12, b4⟩ := chk_some b4
          obtain ⟨h13, b4⟩ := chk_some b4
          cases b4
          simp -implicitDefEqProofs -dsimp only [go_sem, (eq_true h1), (eq_true h2), (eq_true h5), h7, h8, h9, (eq_true h10), (eq_true h11), (eq_true h12), (eq_true h13)]
          refine next_of gb4 ?_
          simp -implicitDefEqProofs -dsimp only [go_sem, (eq_true h1), (eq_true h2), (eq_true h5), h7, h8, h9, (eq_true h10), (eq_true h11), (eq_true h12), (eq_true h13)]
        · cases b4
          have e14 := done_of gb4
          subst e14
          try dsimp only at h
          cases h
          simp -implicitDefEqProofs -dsimp only [go_sem, (eq_true h1), (eq_true h2), (eq_false h5)]
    · obtain ⟨h15, h⟩ := chk_some h
      obtain ⟨h16, h⟩ := chk_some h
      obtain ⟨q1004, l17, h⟩ := obnd_some h
      simp -implicitDefEqProofs -dsimp only [go_sem, (eq_true h15), (eq_true h16)]
      refine loopW_loopO (m1 := .mk) (m2 := .mk) [.homeCell 192 0, .nf [2, 3, 14, 15, 16] [128, 192, 100012288, 384]] (m_spec_l08Copy_L1_St s.nodes ((s.nodes.length : Nat) : Int) s.horizon s.ties) l17 ?_ ?_
      · simp -implicitDefEqProofs -dsimp only [go_sem, (eq_true h15), (eq_true h16)]
      · intro nb18 sb18 bb18 b18 gb18
        obtain ⟨v16_2, h100012288_2⟩ := sb18
        unfold m_spec_l08Copy_L1 at b18
        try dsimp only at b18
        rcases ite_some b18 with ⟨h19, b18⟩ | ⟨h19, b18⟩
        · obtain ⟨x1003, g20, b18⟩ := obnd_some b18
          obtain ⟨h21, h22, h23⟩ := getI_some g20
          obtain ⟨h24, b18⟩ := chk_some b18
          obtain ⟨h25, b18⟩ := chk_some b18
          obtain ⟨h26, b18⟩ := chk_some b18
          obtain ⟨h27, b18⟩ := chk_some b18
          cases b18
          simp -implicitDefEqProofs -dsimp only [go_sem, (eq_true h15), (eq_true h16), (eq_true h19), h21, h22, h23, (eq_true h24), (eq_true h25), (eq_true h26), (eq_true h27)]
          refine next_of gb18 ?_
          simp -implicitDefEqProofs -dsimp only [go_sem, (eq_true h15), (eq_true h16), (eq_true h19), h21, h22, h23, (eq_true h24), (eq_true h25), (eq_true h26), (eq_true h27)]
        · cases b18
          have e28 := done_of gb18
          subst e28
          try dsimp only at h
          cases h
          simp -implicitDefEqProofs -dsimp only [go_sem, (eq_true h15), (eq_true h16), (eq_false h19)]
  · obtain ⟨h29, h⟩ := chk_some h
    obtain ⟨h30, h⟩ := chk_some h
    obtain ⟨q1006, l31, h⟩ := obnd_some h
    simp -implicitDefEqProofs -dsimp only [go_sem, (eq_true h29), (eq_true h30)]
    refine loopW_loopO (m1 := .mk) (m2 := .mk) [.homeCell 192 0, .nf [2, 3, 14, 15, 16] [128, 192, 100012288, 384]] (m_spec_l08Copy_L1_St s.nodes ((s.nodes.length : Nat) : Int) s.horizon s.ties) l31 ?_ ?_
    · simp -implicitDefEqProofs -dsimp only [go_sem, (eq_true h29), (eq_true h30)]
    · intro nb32 sb32 bb32 b32 gb32
      obtain ⟨v16_3, h100012288_3⟩ := sb32
      unfold m_spec_l08Copy_L1 at b32
      try dsimp only at b32
      rcases ite_some b32 with ⟨h33, b32⟩ | ⟨h33, b32⟩
      · obtain ⟨x1005, g34, b32⟩ := obnd_some b32
        obtain ⟨h35, h36, h37⟩ := getI_some g34
        obtain ⟨h38, b32⟩ := chk_some b32
        obtain ⟨h39, b32⟩ := chk_some b32
        obtain ⟨h40, b32⟩ := chk_some b32
        obtain ⟨h41, b32⟩ := chk_some b32
        cases b32
        simp -implicitDefEqProofs -dsimp only [go_sem, (eq_true h29), (eq_true h30), (eq_true h33), h35, h36, h37, (eq_true h38), (eq_true h39), (eq_true h40), (eq_true h41)]
        refine next_of gb32 ?_
        simp -implicitDefEqProofs -dsimp only [go_sem, (eq_true h29), (eq_true h30), (eq_true h33), h35, h36, h37, (eq_true h38), (eq_true h39), (eq_true h40), (eq_true h41)]
      · cases b32
        have e42 := done_of gb32
        subst e42
        try dsimp only at h
        cases h
        simp -implicitDefEqProofs -dsimp only [go_sem, (eq_true h29), (eq_true h30), (eq_false h33)]
/- 126 loop.example/g00827/spec.l24Range -/
def m_spec_l24Range_L1_St (tie : Int) (v11 : List GTake) (v12 : Int) : (Bool × Int × Int × Int) → St
  | (found, v13, out_0, out_1) => ⟨[(1, .lit (.int .i64 tie)), (4, .ptr 256 1 0 0), (6, .ptr 384 1 0 0), (7, .lit (.bool found)), (11, .sl (rowsOf GTake.enc v11)), (12, .lit (.int .i64 v12)), (13, .lit (.int .i64 v13))], [(256, 1, .var [.lit (.int .i64 0), .lit (.int .i64 0)]), (384, 1, .var [.lit (.int .i64 out_0), .lit (.int .i64 out_1)])], 2⟩
attribute [go_sem] m_spec_l24Range_L1_St
def hi126 : Hint where
  acts := fun _ => []
  draws := fun
    | _ => ⟨.nil, [], []⟩
theorem hi126a (i : Nat) : hi126.acts i = [] := rfl
theorem hi126v (i : Nat) : hi126.views i = none := rfl
attribute [go_sem] hi126a hi126v Go.Proofs.Try.ntmps126 Go.Proofs.Try.results126
theorem c_spec_l24Range {list : List GTake} {tie : Int} {res : GInterval × Bool} (h : m_spec_l24Range list tie = some res) : CallOk Go.Proofs.Try.prog 126 [.sl (rowsOf GTake.enc list), .lit (.int .i64 tie)] [] (.tup [.agg [.lit (.int .i64 res.1.low), .lit (.int .i64 res.1.high)], .lit (.bool res.2)]) [] := by
  refine callOk_of (ra := []) (md := mdT) hT (hi := hi126) Go.Proofs.Try.func126 rfl rfl (by decide +kernel) (by simp) ?_
  unfold m_spec_l24Range at h
  obtain ⟨q1002, l1, h⟩ := obnd_some h
  simp -implicitDefEqProofs -dsimp only [go_sem]
  refine loopW_loopO (m1 := .mk) (m2 := .mk) [.nf [1, 4, 6, 7, 11, 12, 13] [256, 384]] (m_spec_l24Range_L1_St tie list ((list.length : Nat) : Int)) l1 ?_ ?_
  · simp -implicitDefEqProofs -dsimp only [go_sem]
  · intro nb2 sb2 bb2 b2 gb2
    obtain ⟨found_1, v13_1, out_0_1, out_1_1⟩ := sb2
    unfold m_spec_l24Range_L1 at b2
    try dsimp only at b2
    rcases ite_some b2 with ⟨h3, b2⟩ | ⟨h3, b2⟩
    · obtain ⟨x1001, g4, b2⟩ := obnd_some b2
      obtain ⟨h5, h6, h7⟩ := getI_some g4
      rcases ite_some b2 with ⟨h8, b2⟩ | ⟨h8, b2⟩
      · rcases ite_some b2 with ⟨h9, b2⟩ | ⟨h9, b2⟩
        · cases b2
          simp -implicitDefEqProofs -dsimp only [go_sem, (eq_true h3), h5, h6, h7, (eq_true h8), (eq_true h9), (condZ_t h9)]
          refine next_of gb2 ?_
          simp -implicitDefEqProofs -dsimp only [go_sem, (eq_true h3), h5, h6, h7, (eq_true h8), (eq_true h9), (condZ_t h9)]
        · cases b2
          simp -implicitDefEqProofs -dsimp only [go_sem, (eq_true h3), h5, h6, h7, (eq_true h8), (eq_false h9), (condZ_f h9)]
          refine next_of gb2 ?_
          simp -implicitDefEqProofs -dsimp only [go_sem, (eq_true h3), h5, h6, h7, (eq_true h8), (eq_false h9), (condZ_f h9)]
      · cases b2
        simp -implicitDefEqProofs -dsimp only [go_sem, (eq_true h3), h5, h6, h7, (eq_false h8)]
        refine next_of gb2 ?_
        simp -implicitDefEqProofs -dsimp only [go_sem, (eq_true h3), h5, h6, h7, (eq_false h8)]
    · cases b2
      have e10 := done_of gb2
      subst e10
      try dsimp only at h
      cases h
      simp -implicitDefEqProofs -dsimp only [go_sem, (eq_false h3)]
/- 71 loop.example/g00827/spec.TightenShow -/
def m_spec_TightenShow_L1_St (list : List GTake) (slack : Int) (v26 : Int) (out_2 : Int) (h1472 : List GNode) : (Int × (List GTie)) → St
  | (v27, h1473) => ⟨[(1, .sl (rowsOf GTake.enc list)), (2, .lit (.int .i64 slack)), (6, .ptr 384 1 0 0), (8, .ptr 512 1 0 0), (26, .lit (.int .i64 v26)), (27, .lit (.int .i64 v27))], [(384, 1, .var [.lit (.slice none 0 0), .lit (.slice none 0 0), .lit (.int .i64 0)]), (512, 1, .var [.ref 1472 1 0 h1472.length, .ref 1473 1 0 h1473.length, .lit (.int .i64 out_2)]), (1472, 1, .row true (rowsOf GNode.encO h1472)), (1473, 1, .row true (rowsOf GTie.enc h1473))], 2⟩
attribute [go_sem] m_spec_TightenShow_L1_St
def hi71 : Hint where
  acts := fun _ => []
  draws := fun
    | 9 => ⟨.cons ⟨0, false, []⟩ (.cons ⟨1, false, []⟩ (.cons ⟨2, false, []⟩ (.cons ⟨3, false, []⟩ (.cons ⟨4, false, []⟩ (.cons ⟨5, false, []⟩ (.cons ⟨6, false, []⟩ (.cons ⟨7, false, []⟩ (.cons ⟨8, false, []⟩ (.cons ⟨9, false, []⟩ (.cons ⟨10, false, []⟩ (.cons ⟨11, false, []⟩ (.cons ⟨12, false, []⟩ (.cons ⟨13, false, []⟩ (.cons ⟨14, false, []⟩ (.cons ⟨15, false, []⟩ (.cons ⟨16, false, []⟩ .nil)))))))))))))))), [[], [0], [], [], [3], [], [3, 4, 5], [3, 4, 5, 6], [3, 4, 5, 6, 7], [], [9], [], [9, 10, 11], [3, 4, 5, 6, 7, 8, 9, 10, 11, 12], [0, 1, 2, 3, 4, 5, 6, 7, 8, 9, 10, 11, 12, 13], [0, 1, 2, 3, 4, 5, 6, 7, 8, 9, 10, 11, 12, 13, 14], [0, 1, 2, 3, 4, 5, 6, 7, 8, 9, 10, 11, 12, 13, 14, 15]], [0, 1, 2, 3, 4, 5, 6, 7, 8, 9, 10, 11, 12, 13, 14, 15, 16]⟩
    | 10 => ⟨.cons ⟨0, false, []⟩ (.cons ⟨1, false, []⟩ (.cons ⟨2, false, []⟩ (.cons ⟨3, false, []⟩ (.cons ⟨4, false, []⟩ (.cons ⟨5, false, []⟩ (.cons ⟨6, false, []⟩ (.cons ⟨7, false, []⟩ (.cons ⟨8, false, []⟩ (.cons ⟨9, false, []⟩ (.cons ⟨10, false, []⟩ (.cons ⟨11, false, []⟩ (.cons ⟨12, false, []⟩ (.cons ⟨13, false, []⟩ (.cons ⟨14, false, []⟩ (.cons ⟨15, false, []⟩ (.cons ⟨16, false, []⟩ .nil)))))))))))))))), [[], [0], [], [], [3], [], [3, 4, 5], [3, 4, 5, 6], [3, 4, 5, 6, 7], [], [9], [], [9, 10, 11], [3, 4, 5, 6, 7, 8, 9, 10, 11, 12], [0, 1, 2, 3, 4, 5, 6, 7, 8, 9, 10, 11, 12, 13], [0, 1, 2, 3, 4, 5, 6, 7, 8, 9, 10, 11, 12, 13, 14], [0, 1, 2, 3, 4, 5, 6, 7, 8, 9, 10, 11, 12, 13, 14, 15]], [0, 1, 2, 3, 4, 5, 6, 7, 8, 9, 10, 11, 12, 13, 14, 15, 16]⟩
    | _ => ⟨.nil, [], []⟩
theorem hi71a (i : Nat) : hi71.acts i = [] := rfl
theorem hi71v (i : Nat) : hi71.views i = none := rfl
attribute [go_sem] hi71a hi71v Go.Proofs.Try.ntmps71 Go.Proofs.Try.results71
@[go_sem] theorem hi71d9 : (hi71.draws 9).order = .cons ⟨0, false, []⟩ (.cons ⟨1, false, []⟩ (.cons ⟨2, false, []⟩ (.cons ⟨3, false, []⟩ (.cons ⟨4, false, []⟩ (.cons ⟨5, false, []⟩ (.cons ⟨6, false, []⟩ (.cons ⟨7, false, []⟩ (.cons ⟨8, false, []⟩ (.cons ⟨9, false, []⟩ (.cons ⟨10, false, []⟩ (.cons ⟨11, false, []⟩ (.cons ⟨12, false, []⟩ (.cons ⟨13, false, []⟩ (.cons ⟨14, false, []⟩ (.cons ⟨15, false, []⟩ (.cons ⟨16, false, []⟩ .nil)))))))))))))))) := rfl
@[go_sem] theorem hi71d10 : (hi71.draws 10).order = .cons ⟨0, false, []⟩ (.cons ⟨1, false, []⟩ (.cons ⟨2, false, []⟩ (.cons ⟨3, false, []⟩ (.cons ⟨4, false, []⟩ (.cons ⟨5, false, []⟩ (.cons ⟨6, false, []⟩ (.cons ⟨7, false, []⟩ (.cons ⟨8, false, []⟩ (.cons ⟨9, false, []⟩ (.cons ⟨10, false, []⟩ (.cons ⟨11, false, []⟩ (.cons ⟨12, false, []⟩ (.cons ⟨13, false, []⟩ (.cons ⟨14, false, []⟩ (.cons ⟨15, false, []⟩ (.cons ⟨16, false, []⟩ .nil)))))))))))))))) := rfl
theorem c_spec_TightenShow {s : GShow} {list : List GTake} {slack : Int} {res : GShow × Bool} (h : m_spec_TightenShow s list slack = some res) : CallOk Go.Proofs.Try.prog 71 [.agg [.sl (rowsOf GNode.encS s.nodes), .sl (rowsOf GTie.enc s.ties), .lit (.int .i64 s.horizon)], .sl (rowsOf GTake.enc list), .lit (.int .i64 slack)] [] (.tup [.agg [.ref 20000 1 0 res.1.nodes.length, .ref 20001 1 0 res.1.ties.length, .lit (.int .i64 res.1.horizon)], .lit (.bool res.2)]) [(20000, 1, .row true (rowsOf GNode.encO res.1.nodes)), (20001, 1, .row true (rowsOf GTie.enc res.1.ties))] := by
  refine callOk_of (ra := [.homeCell 384 0, .homeCell 384 1]) (md := mdT) hT (hi := hi71) Go.Proofs.Try.func71 rfl rfl (by decide +kernel) (by simp) ?_
  unfold m_spec_TightenShow at h
  obtain ⟨r1001, g1, h⟩ := obnd_some h
  simp -implicitDefEqProofs -dsimp only [go_sem]
  refine callW_of (c_spec_TakesOk g1) ?_
  rcases ite_some h with ⟨h2, h⟩ | ⟨h2, h⟩
  · obtain ⟨r1002, g3, h⟩ := obnd_some h
    simp -implicitDefEqProofs -dsimp only [go_sem, (eq_true h2), (condZ_t h2)]
    refine callW_of (c_spec_l01In g3) ?_
    rcases ite_some h with ⟨h4, h⟩ | ⟨h4, h⟩
    · obtain ⟨r1003, g5, h⟩ := obnd_some h
      simp -implicitDefEqProofs -dsimp only [go_sem, (eq_true h2), (condZ_t h2), (eq_true h4), (condZ_t h4)]
      refine callW_of (c_spec_l08Copy g5) ?_
      obtain ⟨q1007, l6, h⟩ := obnd_some h
      simp -implicitDefEqProofs -dsimp only [go_sem, (eq_true h2), (condZ_t h2), (eq_true h4), (condZ_t h4)]
      refine loopW_loopO (m1 := .mk) (m2 := .mk) [.nf [1, 2, 6, 8, 26, 27] [384, 512, 1472, 1473]] (m_spec_TightenShow_L1_St list slack ((r1003.ties.length : Nat) : Int) r1003.horizon r1003.nodes) l6 ?_ ?_
      · simp -implicitDefEqProofs -dsimp only [go_sem, (eq_true h2), (condZ_t h2), (eq_true h4), (condZ_t h4)]
      · intro nb7 sb7 bb7 b7 gb7
        obtain ⟨v27_1, h1473_1⟩ := sb7
        unfold m_spec_TightenShow_L1 at b7
        try dsimp only at b7
        rcases ite_some b7 with ⟨h8, b7⟩ | ⟨h8, b7⟩
        · obtain ⟨r1004, g9, b7⟩ := obnd_some b7
          simp -implicitDefEqProofs -dsimp only [go_sem, (eq_true h2), (condZ_t h2), (eq_true h4), (condZ_t h4), (eq_true h8)]
          refine callW_of (c_spec_l24Range g9) ?_
          rcases ite_some b7 with ⟨h10, b7⟩ | ⟨h10, b7⟩
          · obtain ⟨x1005, g11, b7⟩ := obnd_some b7
            obtain ⟨h12, h13, h14⟩ := getI_some g11
            obtain ⟨x1006, g15, b7⟩ := obnd_some b7
            obtain ⟨h16, h17, h18⟩ := getI_some g15
            cases b7
            simp -implicitDefEqProofs -dsimp only [go_sem, (eq_true h2), (condZ_t h2), (eq_true h4), (condZ_t h4), (eq_true h8), (eq_true h10), (condZ_t h10), h12, h13, h14, h16, h17, h18]
            refine next_of gb7 ?_
            simp -implicitDefEqProofs -dsimp only [go_sem, (eq_true h2), (condZ_t h2), (eq_true h4), (condZ_t h4), (eq_true h8), (eq_true h10), (condZ_t h10), h12, h13, h14, h16, h17, h18]
          · cases b7
            simp -implicitDefEqProofs -dsimp only [go_sem, (eq_true h2), (condZ_t h2), (eq_true h4), (condZ_t h4), (eq_true h8), (eq_false h10), (condZ_f h10)]
            refine next_of gb7 ?_
            simp -implicitDefEqProofs -dsimp only [go_sem, (eq_true h2), (condZ_t h2), (eq_true h4), (condZ_t h4), (eq_true h8), (eq_false h10), (condZ_f h10)]
        · cases b7
          have e19 := done_of gb7
          subst e19
          try dsimp only at h
          cases h
          simp -implicitDefEqProofs -dsimp only [go_sem, (eq_true h2), (condZ_t h2), (eq_true h4), (condZ_t h4), (eq_false h8)]
    · cases h
      simp -implicitDefEqProofs -dsimp only [go_sem, (eq_true h2), (condZ_t h2), (eq_false h4), (condZ_f h4)]
  · cases h
    simp -implicitDefEqProofs -dsimp only [go_sem, (eq_false h2), (condZ_f h2)]
/- 183 slices.IndexFunc[[]loop.example/g00827/impl.Take,loop.example/g00827/impl.Take] -/
def m_slices_IndexFunc_Take_L1_St (v0 : List GTake) (f_v1 : Nat) (k_v1 : List AV) (v7 : Int) (v8 : Int) : St := ⟨[(0, .sl (rowsOf GTake.enc v0)), (1, .fn f_v1 k_v1), (7, .lit (.int .i64 v7)), (8, .lit (.int .i64 v8))], [], 2⟩
attribute [go_sem] m_slices_IndexFunc_Take_L1_St
def hi183 : Hint where
  acts := fun _ => []
  draws := fun
    | _ => ⟨.nil, [], []⟩
theorem hi183a (i : Nat) : hi183.acts i = [] := rfl
theorem hi183v (i : Nat) : hi183.views i = none := rfl
attribute [go_sem] hi183a hi183v Go.Proofs.Try.ntmps183 Go.Proofs.Try.results183
theorem c_slices_IndexFunc_Take {v0 : List GTake} {v1 : GTake → Option Bool} {f_v1 : Nat} {k_v1 : List AV} (hp_v1 : ∀ y0 r, v1 y0 = some r → CallOk Go.Proofs.Try.prog f_v1 ([.agg [.lit (.int .i64 y0.tie), .lit (.int .i64 y0.length)]] ++ k_v1) [] (.lit (.bool r)) []) (hc_v1 : KC k_v1) (hm_v1 : mdT f_v1 = ⟨[], false⟩) {res : Int} (h : m_slices_IndexFunc_Take v0 v1 = some res) : CallOk Go.Proofs.Try.prog 183 [.sl (rowsOf GTake.enc v0), .fn f_v1 k_v1] [] (.lit (.int .i64 res)) [] := by
  refine callOk_of (ra := []) (md := mdT) hT (hi := hi183) Go.Proofs.Try.func183 rfl rfl (by decide +kernel) (by simp) ?_
  unfold m_slices_IndexFunc_Take at h
  obtain ⟨q1003, l1, h⟩ := obnd_some h
  simp -implicitDefEqProofs -dsimp only [go_sem, hc_v1.1, hc_v1.2, hm_v1]
  refine loopW_loopO (m1 := .mk) (m2 := .mk) [.nf [0, 1, 7, 8] []] (m_slices_IndexFunc_Take_L1_St v0 f_v1 k_v1 ((v0.length : Nat) : Int)) l1 ?_ ?_
  · simp -implicitDefEqProofs -dsimp only [go_sem, hc_v1.1, hc_v1.2, hm_v1]
  · intro nb2 sb2 bb2 b2 gb2
    obtain ⟨v8_1, eb2⟩ : ∃ v, v = sb2 := ⟨_, rfl⟩; subst eb2
    unfold m_slices_IndexFunc_Take_L1 at b2
    try dsimp only at b2
    rcases ite_some b2 with ⟨h3, b2⟩ | ⟨h3, b2⟩
    · obtain ⟨x1001, g4, b2⟩ := obnd_some b2
      obtain ⟨h5, h6, h7⟩ := getI_some g4
      obtain ⟨r1002, g8, b2⟩ := obnd_some b2
      simp -implicitDefEqProofs -dsimp only [go_sem, hc_v1.1, hc_v1.2, hm_v1, (eq_true h3), h5, h6, h7]
      refine callW_of (hp_v1 _ _ g8) ?_
      rcases ite_some b2 with ⟨h9, b2⟩ | ⟨h9, b2⟩
      · cases b2
        have e10 := done_of gb2
        subst e10
        try dsimp only at h
        cases h
        simp -implicitDefEqProofs -dsimp only [go_sem, hc_v1.1, hc_v1.2, hm_v1, (eq_true h3), h5, h6, h7, (eq_true h9), (condZ_t h9)]
      · cases b2
        simp -implicitDefEqProofs -dsimp only [go_sem, hc_v1.1, hc_v1.2, hm_v1, (eq_true h3), h5, h6, h7, (eq_false h9), (condZ_f h9)]
        refine next_of gb2 ?_
        simp -implicitDefEqProofs -dsimp only [go_sem, hc_v1.1, hc_v1.2, hm_v1, (eq_true h3), h5, h6, h7, (eq_false h9), (condZ_f h9)]
    · cases b2
      have e11 := done_of gb2
      subst e11
      try dsimp only at h
      cases h
      simp -implicitDefEqProofs -dsimp only [go_sem, hc_v1.1, hc_v1.2, hm_v1, (eq_false h3)]
/- 123 slices.ContainsFunc[[]loop.example/g00827/impl.Take,loop.example/g00827/impl.Take] -/
def hi123 : Hint where
  acts := fun _ => []
  draws := fun
    | _ => ⟨.nil, [], []⟩
theorem hi123a (i : Nat) : hi123.acts i = [] := rfl
theorem hi123v (i : Nat) : hi123.views i = none := rfl
attribute [go_sem] hi123a hi123v Go.Proofs.Try.ntmps123 Go.Proofs.Try.results123
theorem c_slices_ContainsFunc_Take {v0 : List GTake} {v1 : GTake → Option Bool} {f_v1 : Nat} {k_v1 : List AV} (hp_v1 : ∀ y0 r, v1 y0 = some r → CallOk Go.Proofs.Try.prog f_v1 ([.agg [.lit (.int .i64 y0.tie), .lit (.int .i64 y0.length)]] ++ k_v1) [] (.lit (.bool r)) []) (hc_v1 : KC k_v1) (hm_v1 : mdT f_v1 = ⟨[], false⟩) {res : Bool} (h : m_slices_ContainsFunc_Take v0 v1 = some res) : CallOk Go.Proofs.Try.prog 123 [.sl (rowsOf GTake.enc v0), .fn f_v1 k_v1] [] (.lit (.bool res)) [] := by
  refine callOk_of (ra := []) (md := mdT) hT (hi := hi123) Go.Proofs.Try.func123 rfl rfl (by decide +kernel) (by simp) ?_
  unfold m_slices_ContainsFunc_Take at h
  obtain ⟨r1001, g1, h⟩ := obnd_some h
  simp -implicitDefEqProofs -dsimp only [go_sem, hc_v1.1, hc_v1.2, hm_v1]
  refine callW_of (c_slices_IndexFunc_Take hp_v1 hc_v1 hm_v1 g1) ?_
  cases h
  simp -implicitDefEqProofs -dsimp only [go_sem, hc_v1.1, hc_v1.2, hm_v1]
/- 124 loop.example/g00827/impl.TakesOk$1 -/
def hi124 : Hint where
  acts := fun _ => []
  draws := fun
    | 1 => ⟨.cons ⟨0, false, []⟩ (.cons ⟨1, false, []⟩ (.cons ⟨2, false, []⟩ (.cons ⟨3, false, []⟩ (.cons ⟨4, false, []⟩ (.cons ⟨5, false, []⟩ (.cons ⟨6, false, []⟩ (.cons ⟨7, false, []⟩ (.cons ⟨8, false, []⟩ (.cons ⟨9, false, []⟩ (.cons ⟨10, false, []⟩ (.cons ⟨11, false, []⟩ (.cons ⟨12, false, []⟩ (.cons ⟨13, false, []⟩ (.cons ⟨14, false, []⟩ (.cons ⟨15, false, []⟩ (.cons ⟨16, false, []⟩ (.cons ⟨17, false, []⟩ (.cons ⟨18, false, []⟩ (.cons ⟨19, false, []⟩ (.cons ⟨20, false, []⟩ (.cons ⟨21, false, []⟩ (.cons ⟨22, false, []⟩ (.cons ⟨23, false, []⟩ (.cons ⟨24, false, []⟩ (.cons ⟨25, false, []⟩ (.cons ⟨26, false, []⟩ (.cons ⟨27, false, []⟩ (.cons ⟨28, false, []⟩ (.cons ⟨29, false, []⟩ (.cons ⟨30, false, []⟩ (.cons ⟨31, false, []⟩ (.cons ⟨32, false, []⟩ (.cons ⟨33, false, []⟩ (.cons ⟨34, false, []⟩ (.cons ⟨35, false, []⟩ (.cons ⟨36, false, []⟩ (.cons ⟨37, false, []⟩ (.cons ⟨38, false, []⟩ (.cons ⟨39, false, []⟩ (.cons ⟨40, false, []⟩ (.cons ⟨41, false, []⟩ .nil))))))))))))))))))))))))))))))))))))))))), [[], [0], [0, 1], [], [3], [0, 1, 2, 3, 4], [0, 1, 2, 3, 4, 5], [0, 1, 2, 3, 4, 5, 6], [0, 1, 2, 3, 4, 5, 6, 7], [0, 1, 2, 3, 4, 5, 6, 7, 8], [0, 1, 2, 3, 4, 5, 6, 7], [0, 1, 2, 3, 4, 5, 6, 7, 10], [0, 1, 2, 3, 4, 5, 6, 7, 8, 9, 10, 11], [0, 1, 2, 3, 4, 5, 6, 7, 8, 9, 10, 11, 12], [0, 1, 2, 3, 4, 5, 6, 7, 8, 9, 10, 11, 12, 13], [0, 1, 2, 3, 4, 5, 6, 7, 8, 9, 10, 11, 12, 13, 14], [0, 1, 2, 3, 4, 5, 6, 7, 8, 9, 10, 11, 12, 13, 14, 15], [0, 1, 2, 3, 4, 5, 6, 7, 8, 9, 10, 11, 12, 13, 14, 15, 16], [0, 1, 2, 3, 4, 5, 6, 7, 8, 9, 10, 11, 12, 13, 14, 15, 16, 17], [0, 1, 2, 3, 4, 5, 6, 7, 8, 9, 10, 11, 12, 13, 14, 15, 16, 17, 18], [0, 1, 2, 3, 4, 5, 6, 7, 8, 9, 10, 11, 12, 13, 14, 15, 16, 17], [0, 1, 2, 3, 4, 5, 6, 7, 8, 9, 10, 11, 12, 13, 14, 15, 16, 17, 20], [0, 1, 2, 3, 4, 5, 6, 7, 8, 9, 10, 11, 12, 13, 14, 15, 16, 17], [0, 1, 2, 3, 4, 5, 6, 7, 8, 9, 10, 11, 12, 13, 14, 15, 16, 17, 22], [0, 1, 2, 3, 4, 5, 6, 7, 8, 9, 10, 11, 12, 13, 14, 15, 16, 17, 20, 21, 22, 23], [0, 1, 2, 3, 4, 5, 6, 7, 8, 9, 10, 11, 12, 13, 14, 15, 16, 17, 20, 21, 22, 23, 24], [0, 1, 2, 3, 4, 5, 6, 7, 8, 9, 10, 11, 12, 13, 14, 15, 16, 17, 20, 21, 22, 23, 24, 25], [0, 1, 2, 3, 4, 5, 6, 7, 8, 9, 10, 11, 12, 13, 14, 15, 16, 17, 18, 19, 20, 21, 22, 23, 24, 25, 26], [0, 1, 2, 3, 4, 5, 6, 7, 8, 9, 10, 11, 12, 13, 14, 15, 16, 17, 18, 19, 20, 21, 22, 23, 24, 25, 26, 27], [0, 1, 2, 3, 4, 5, 6, 7, 8, 9, 10, 11, 12, 13, 14, 15, 16, 17, 18, 19, 20, 21, 22, 23, 24, 25, 26, 27, 28], [0, 1, 2, 3, 4, 5, 6, 7, 8, 9, 10, 11, 12, 13, 14, 15, 16, 17, 18, 19, 20, 21, 22, 23, 24, 25, 26, 27, 28, 29], [0, 1, 2, 3, 4, 5, 6, 7, 8, 9, 10, 11, 12, 13, 14, 15, 16, 17, 18, 19, 20, 21, 22, 23, 24, 25, 26, 27, 28, 29, 30], [0, 1, 2, 3, 4, 5, 6, 7, 8, 9, 10, 11, 12, 13, 14, 15, 16, 17, 18, 19, 20, 21, 22, 23, 24, 25, 26, 27, 28, 29], [0, 1, 2, 3, 4, 5, 6, 7, 8, 9, 10, 11, 12, 13, 14, 15, 16, 17, 18, 19, 20, 21, 22, 23, 24, 25, 26, 27, 28, 29, 32], [0, 1, 2, 3, 4, 5, 6, 7, 8, 9, 10, 11, 12, 13, 14, 15, 16, 17, 18, 19, 20, 21, 22, 23, 24, 25, 26, 27, 28, 29], [0, 1, 2, 3, 4, 5, 6, 7, 8, 9, 10, 11, 12, 13, 14, 15, 16, 17, 18, 19, 20, 21, 22, 23, 24, 25, 26, 27, 28, 29, 34], [0, 1, 2, 3, 4, 5, 6, 7, 8, 9, 10, 11, 12, 13, 14, 15, 16, 17, 18, 19, 20, 21, 22, 23, 24, 25, 26, 27, 28, 29, 32, 33, 34, 35], [0, 1, 2, 3, 4, 5, 6, 7, 8, 9, 10, 11, 12, 13, 14, 15, 16, 17, 18, 19, 20, 21, 22, 23, 24, 25, 26, 27, 28, 29, 32, 33, 34, 35, 36], [0, 1, 2, 3, 4, 5, 6, 7, 8, 9, 10, 11, 12, 13, 14, 15, 16, 17, 18, 19, 20, 21, 22, 23, 24, 25, 26, 27, 28, 29, 32, 33, 34, 35, 36, 37], [0, 1, 2, 3, 4, 5, 6, 7, 8, 9, 10, 11, 12, 13, 14, 15, 16, 17, 18, 19, 20, 21, 22, 23, 24, 25, 26, 27, 28, 29, 30, 31, 32, 33, 34, 35, 36, 37, 38], [0, 1, 2, 3, 4, 5, 6, 7, 8, 9, 10, 11, 12, 13, 14, 15, 16, 17, 18, 19, 20, 21, 22, 23, 24, 25, 26, 27, 28, 29, 30, 31, 32, 33, 34, 35, 36, 37, 38, 39], [0, 1, 2, 3, 4, 5, 6, 7, 8, 9, 10, 11, 12, 13, 14, 15, 16, 17, 18, 19, 20, 21, 22, 23, 24, 25, 26, 27, 28, 29, 30, 31, 32, 33, 34, 35, 36, 37, 38, 39, 40]], [0, 1, 2, 3, 4, 5, 6, 7, 8, 9, 10, 11, 12, 13, 14, 15, 16, 17, 18, 19, 20, 21, 22, 23, 24, 25, 26, 27, 28, 29, 30, 31, 32, 33, 34, 35, 36, 37, 38, 39, 40, 41]⟩
    | _ => ⟨.nil, [], []⟩
theorem hi124a (i : Nat) : hi124.acts i = [] := rfl
theorem hi124v (i : Nat) : hi124.views i = none := rfl
attribute [go_sem] hi124a hi124v Go.Proofs.Try.ntmps124 Go.Proofs.Try.results124
@[go_sem] theorem hi124d1 : (hi124.draws 1).order = .cons ⟨0, false, []⟩ (.cons ⟨1, false, []⟩ (.cons ⟨2, false, []⟩ (.cons ⟨3, false, []⟩ (.cons ⟨4, false, []⟩ (.cons ⟨5, false, []⟩ (.cons ⟨6, false, []⟩ (.cons ⟨7, false, []⟩ (.cons ⟨8, false, []⟩ (.cons ⟨9, false, []⟩ (.cons ⟨10, false, []⟩ (.cons ⟨11, false, []⟩ (.cons ⟨12, false, []⟩ (.cons ⟨13, false, []⟩ (.cons ⟨14, false, []⟩ (.cons ⟨15, false, []⟩ (.cons ⟨16, false, []⟩ (.cons ⟨17, false, []⟩ (.cons ⟨18, false, []⟩ (.cons ⟨19, false, []⟩ (.cons ⟨20, false, []⟩ (.cons ⟨21, false, []⟩ (.cons ⟨22, false, []⟩ (.cons ⟨23, false, []⟩ (.cons ⟨24, false, []⟩ (.cons ⟨25, false, []⟩ (.cons ⟨26, false, []⟩ (.cons ⟨27, false, []⟩ (.cons ⟨28, false, []⟩ (.cons ⟨29, false, []⟩ (.cons ⟨30, false, []⟩ (.cons ⟨31, false, []⟩ (.cons ⟨32, false, []⟩ (.cons ⟨33, false, []⟩ (.cons ⟨34, false, []⟩ (.cons ⟨35, false, []⟩ (.cons ⟨36, false, []⟩ (.cons ⟨37, false, []⟩ (.cons ⟨38, false, []⟩ (.cons ⟨39, false, []⟩ (.cons ⟨40, false, []⟩ (.cons ⟨41, false, []⟩ .nil))))))))))))))))))))))))))))))))))))))))) := rfl
theorem c_impl_TakesOk_c1 {t : GTake} {s : GShow} {res : Bool} (h : m_impl_TakesOk_c1 t s = some res) : CallOk Go.Proofs.Try.prog 124 [.agg [.lit (.int .i64 t.tie), .lit (.int .i64 t.length)], .loc [.sl (rowsOf GNode.encS s.nodes), .sl (rowsOf GTie.enc s.ties), .lit (.int .i64 s.horizon)]] [] (.lit (.bool res)) [] := by
  refine callOk_of (ra := []) (md := mdT) hT (hi := hi124) Go.Proofs.Try.func124 rfl rfl (by decide +kernel) (by simp) ?_
  unfold m_impl_TakesOk_c1 at h
  obtain ⟨r1001, g1, h⟩ := obnd_some h
  simp -implicitDefEqProofs -dsimp only [go_sem]
  refine callW_of (c_impl_isNode g1) ?_
  rcases ite_some h with ⟨h2, h⟩ | ⟨h2, h⟩
  · obtain ⟨x1002, g3, h⟩ := obnd_some h
    obtain ⟨h4, h5, h6⟩ := getI_some g3
    rcases ite_some h with ⟨h7, h⟩ | ⟨h7, h⟩
    · rcases ite_some h with ⟨h8, h⟩ | ⟨h8, h⟩
      · cases h
        simp -implicitDefEqProofs -dsimp only [go_sem, (eq_true h2), (condZ_t h2), h4, h5, h6, (eq_true h7), (condZ_t h7), (eq_true h8)]
      · cases h
        simp -implicitDefEqProofs -dsimp only [go_sem, (eq_true h2), (condZ_t h2), h4, h5, h6, (eq_true h7), (condZ_t h7), (eq_false h8)]
    · cases h
      simp -implicitDefEqProofs -dsimp only [go_sem, (eq_true h2), (condZ_t h2), h4, h5, h6, (eq_false h7), (condZ_f h7)]
  · cases h
    simp -implicitDefEqProofs -dsimp only [go_sem, (eq_false h2), (condZ_f h2)]
/- 48 loop.example/g00827/impl.TakesOk -/
def hi48 : Hint where
  acts := fun _ => []
  draws := fun
    | _ => ⟨.nil, [], []⟩
theorem hi48a (i : Nat) : hi48.acts i = [] := rfl
theorem hi48v (i : Nat) : hi48.views i = none := rfl
attribute [go_sem] hi48a hi48v Go.Proofs.Try.ntmps48 Go.Proofs.Try.results48
theorem c_impl_TakesOk {s : GShow} {list : List GTake} {res : Bool} (h : m_impl_TakesOk s list = some res) : CallOk Go.Proofs.Try.prog 48 [.agg [.sl (rowsOf GNode.encS s.nodes), .sl (rowsOf GTie.enc s.ties), .lit (.int .i64 s.horizon)], .sl (rowsOf GTake.enc list)] [] (.lit (.bool res)) [] := by
  refine callOk_of (ra := []) (md := mdT) hT (hi := hi48) Go.Proofs.Try.func48 rfl rfl (by decide +kernel) (by simp) ?_
  unfold m_impl_TakesOk at h
  obtain ⟨r1001, g1, h⟩ := obnd_some h
  simp -implicitDefEqProofs -dsimp only [go_sem]
  refine callW_of (c_impl_ShowOk g1) ?_
  rcases ite_some h with ⟨h2, h⟩ | ⟨h2, h⟩
  · rcases ite_some h with ⟨h3, h⟩ | ⟨h3, h⟩
    · cases h
      simp -implicitDefEqProofs -dsimp only [go_sem, (eq_true h2), (condZ_t h2), (eq_true h3)]
    · obtain ⟨r1002, g4, h⟩ := obnd_some h
      simp -implicitDefEqProofs -dsimp only [go_sem, (eq_true h2), (condZ_t h2), (eq_false h3)]
      refine callW_of (c_slices_ContainsFunc_Take (by exact fun _ _ hr => c_impl_TakesOk_c1 hr) (by refine ⟨fun _ => ?_, fun _ => ?_⟩ <;> simp only [go_sem]) (by rfl) g4) ?_
      cases h
      simp -implicitDefEqProofs -dsimp only [go_sem, (eq_true h2), (condZ_t h2), (eq_false h3)]
  · cases h
    simp -implicitDefEqProofs -dsimp only [go_sem, (eq_false h2), (condZ_f h2)]
/- 99 loop.example/g00827/impl.isUpTo -/
def hi99 : Hint where
  acts := fun _ => []
  draws := fun
    | _ => ⟨.nil, [], []⟩
theorem hi99a (i : Nat) : hi99.acts i = [] := rfl
theorem hi99v (i : Nat) : hi99.views i = none := rfl
attribute [go_sem] hi99a hi99v Go.Proofs.Try.ntmps99 Go.Proofs.Try.results99
theorem c_impl_isUpTo {n : Int} {most : Int} {res : Bool} (h : m_impl_isUpTo n most = some res) : CallOk Go.Proofs.Try.prog 99 [.lit (.int .i64 n), .lit (.int .i64 most)] [] (.lit (.bool res)) [] := by
  refine callOk_of (ra := []) (md := mdT) hT (hi := hi99) Go.Proofs.Try.func99 rfl rfl (by decide +kernel) (by simp) ?_
  unfold m_impl_isUpTo at h
  rcases ite_some h with ⟨h1, h⟩ | ⟨h1, h⟩
  · cases h
    simp -implicitDefEqProofs -dsimp only [go_sem, (eq_true h1)]
  · cases h
    simp -implicitDefEqProofs -dsimp only [go_sem, (eq_false h1)]
/- 163 slices.Clone[[]loop.example/g00827/impl.Tie,loop.example/g00827/impl.Tie] -/
def hi163 : Hint where
  acts := fun _ => []
  draws := fun
    | _ => ⟨.nil, [], []⟩
theorem hi163a (i : Nat) : hi163.acts i = [] := rfl
theorem hi163v (i : Nat) : hi163.views i = none := rfl
attribute [go_sem] hi163a hi163v Go.Proofs.Try.ntmps163 Go.Proofs.Try.results163
theorem c_slices_Clone_Tie {v0 : List GTie} {res : List GTie} (h : m_slices_Clone_Tie v0 = some res) : CallOk Go.Proofs.Try.prog 163 [.sl (rowsOf GTie.enc v0)] [] (.ref 20000 1 0 res.length) [(20000, 1, .row true (rowsOf GTie.enc res))] := by
  refine callOk_of (ra := [.home 2]) (md := mdT) hT (hi := hi163) Go.Proofs.Try.func163 rfl rfl (by decide +kernel) (by simp) ?_
  unfold m_slices_Clone_Tie at h
  rcases nilQ_some h with ⟨h1, h3, h2⟩ | ⟨h1, h3⟩
  · cases h3
    simp -implicitDefEqProofs -dsimp only [go_sem, h1]
  · obtain ⟨h4, h3⟩ := chk_some h3
    obtain ⟨h5, h3⟩ := chk_some h3
    cases h3
    simp -implicitDefEqProofs -dsimp only [go_sem, evIsNil_ne h1, (eq_true h4), (eq_true h5)]
/- 88 slices.Clone[[]int,int] -/
def hi88 : Hint where
  acts := fun _ => []
  draws := fun
    | _ => ⟨.nil, [], []⟩
theorem hi88a (i : Nat) : hi88.acts i = [] := rfl
theorem hi88v (i : Nat) : hi88.views i = none := rfl
attribute [go_sem] hi88a hi88v Go.Proofs.Try.ntmps88 Go.Proofs.Try.results88
theorem c_slices_Clone_int {v0 : List Int} {res : List Int} (h : m_slices_Clone_int v0 = some res) : CallOk Go.Proofs.Try.prog 88 [.sl (rowsOf eI v0)] [] (.ref 20000 1 0 res.length) [(20000, 1, .row true (rowsOf eI res))] := by
  refine callOk_of (ra := [.home 2]) (md := mdT) hT (hi := hi88) Go.Proofs.Try.func88 rfl rfl (by decide +kernel) (by simp) ?_
  unfold m_slices_Clone_int at h
  rcases nilQ_some h with ⟨h1, h3, h2⟩ | ⟨h1, h3⟩
  · cases h3
    simp -implicitDefEqProofs -dsimp only [go_sem, h1]
  · obtain ⟨h4, h3⟩ := chk_some h3
    obtain ⟨h5, h3⟩ := chk_some h3
    cases h3
    simp -implicitDefEqProofs -dsimp only [go_sem, evIsNil_ne h1, (eq_true h4), (eq_true h5)]
/- 101 loop.example/g00827/impl.copyShow -/
def m_impl_copyShow_L1_St (v13 : List GNode) (v14 : Int) (out_2 : Int) (h512 : List GTie) : (Int × (List GNode)) → St
  | (v15, h100012288) => ⟨[(2, .ptr 128 1 0 0), (3, .ptr 192 1 0 0), (13, .sl (rowsOf GNode.encS v13)), (14, .lit (.int .i64 v14)), (15, .lit (.int .i64 v15))], [(128, 1, .var [.lit (.slice none 0 0), .lit (.slice none 0 0), .lit (.int .i64 0)]), (192, 1, .var [.ref 100012288 1 0 h100012288.length, .ref 512 1 0 h512.length, .lit (.int .i64 out_2)]), (100012288, 1, .row true (rowsOf GNode.encO h100012288)), (512, 1, .row true (rowsOf GTie.enc h512))], 2⟩
attribute [go_sem] m_impl_copyShow_L1_St
def hi101 : Hint where
  acts := fun _ => []
  draws := fun
    | 1 => ⟨.cons ⟨0, true, []⟩ (.cons ⟨1, true, []⟩ (.cons ⟨3, true, []⟩ (.cons ⟨4, true, []⟩ (.fork (.cons ⟨2, false, [3, 4]⟩ (.cons ⟨5, false, []⟩ (.cons ⟨6, false, [0, 1, 3, 4]⟩ (.cons ⟨7, false, []⟩ .nil)))) (.cons ⟨6, false, [0, 1, 3, 4]⟩ (.cons ⟨2, false, [3, 4]⟩ (.cons ⟨5, false, []⟩ (.cons ⟨7, false, []⟩ .nil)))))))), [[], [0], [0, 1], [], [3], [0, 1, 2, 3, 4], [], [0, 1, 2, 3, 4, 5, 6]], [0, 1, 2, 3, 4, 5, 6, 7]⟩
    | _ => ⟨.nil, [], []⟩
theorem hi101a (i : Nat) : hi101.acts i = [] := rfl
theorem hi101v (i : Nat) : hi101.views i = none := rfl
attribute [go_sem] hi101a hi101v Go.Proofs.Try.ntmps101 Go.Proofs.Try.results101
@[go_sem] theorem hi101d1 : (hi101.draws 1).order = .cons ⟨0, true, []⟩ (.cons ⟨1, true, []⟩ (.cons ⟨3, true, []⟩ (.cons ⟨4, true, []⟩ (.fork (.cons ⟨2, false, [3, 4]⟩ (.cons ⟨5, false, []⟩ (.cons ⟨6, false, [0, 1, 3, 4]⟩ (.cons ⟨7, false, []⟩ .nil)))) (.cons ⟨6, false, [0, 1, 3, 4]⟩ (.cons ⟨2, false, [3, 4]⟩ (.cons ⟨5, false, []⟩ (.cons ⟨7, false, []⟩ .nil)))))))) := rfl
theorem c_impl_copyShow {s : GShow} {res : GShow} (h : m_impl_copyShow s = some res) : CallOk Go.Proofs.Try.prog 101 [.agg [.sl (rowsOf GNode.encS s.nodes), .sl (rowsOf GTie.enc s.ties), .lit (.int .i64 s.horizon)]] [] (.agg [.ref 20000 1 0 res.nodes.length, .ref 20001 1 0 res.ties.length, .lit (.int .i64 res.horizon)]) [(20000, 1, .row true (rowsOf GNode.encO res.nodes)), (20001, 1, .row true (rowsOf GTie.enc res.ties))] := by
  refine callOk_of (ra := [.homeCell 128 0, .homeCell 128 1]) (md := mdT) hT (hi := hi101) Go.Proofs.Try.func101 rfl rfl (by decide +kernel) (by simp) ?_
  unfold m_impl_copyShow at h
  simp -implicitDefEqProofs -dsimp only [go_sem]
  refine zforkI ?_ ?_
  · obtain ⟨r1001, g1, h⟩ := obnd_some h
    simp -implicitDefEqProofs -dsimp only [go_sem]
    refine callW_of (c_slices_Clone_Tie g1) ?_
    obtain ⟨q1004, l2, h⟩ := obnd_some h
    simp -implicitDefEqProofs -dsimp only [go_sem]
    refine loopW_loopO (m1 := .mk) (m2 := .mk) [.homeCell 192 0, .nf [2, 3, 13, 14, 15] [128, 192, 100012288, 512]] (m_impl_copyShow_L1_St s.nodes ((s.nodes.length : Nat) : Int) s.horizon r1001) l2 ?_ ?_
    · simp -implicitDefEqProofs -dsimp only [go_sem]
    · intro nb3 sb3 bb3 b3 gb3
      obtain ⟨v15_1, h100012288_1⟩ := sb3
      unfold m_impl_copyShow_L1 at b3
      try dsimp only at b3
      rcases ite_some b3 with ⟨h4, b3⟩ | ⟨h4, b3⟩
      · obtain ⟨x1002, g5, b3⟩ := obnd_some b3
        obtain ⟨h6, h7, h8⟩ := getI_some g5
        obtain ⟨r1003, g9, b3⟩ := obnd_some b3
        simp -implicitDefEqProofs -dsimp only [go_sem, (eq_true h4), h6, h7, h8]
        refine callW_of (c_slices_Clone_int g9) ?_
        obtain ⟨h10, b3⟩ := chk_some b3
        obtain ⟨h11, b3⟩ := chk_some b3
        cases b3
        simp -implicitDefEqProofs -dsimp only [go_sem, (eq_true h4), h6, h7, h8, (eq_true h10), (eq_true h11)]
        refine next_of gb3 ?_
        simp -implicitDefEqProofs -dsimp only [go_sem, (eq_true h4), h6, h7, h8, (eq_true h10), (eq_true h11)]
      · cases b3
        have e12 := done_of gb3
        subst e12
        try dsimp only at h
        cases h
        simp -implicitDefEqProofs -dsimp only [go_sem, (eq_false h4)]
  · obtain ⟨r1005, g13, h⟩ := obnd_some h
    simp -implicitDefEqProofs -dsimp only [go_sem]
    refine callW_of (c_slices_Clone_Tie g13) ?_
    obtain ⟨q1008, l14, h⟩ := obnd_some h
    simp -implicitDefEqProofs -dsimp only [go_sem]
    refine loopW_loopO (m1 := .mk) (m2 := .mk) [.homeCell 192 0, .nf [2, 3, 13, 14, 15] [128, 192, 100012288, 512]] (m_impl_copyShow_L1_St s.nodes ((s.nodes.length : Nat) : Int) s.horizon r1005) l14 ?_ ?_
    · simp -implicitDefEqProofs -dsimp only [go_sem]
    · intro nb15 sb15 bb15 b15 gb15
      obtain ⟨v15_2, h100012288_2⟩ := sb15
      unfold m_impl_copyShow_L1 at b15
      try dsimp only at b15
      rcases ite_some b15 with ⟨h16, b15⟩ | ⟨h16, b15⟩
      · obtain ⟨x1006, g17, b15⟩ := obnd_some b15
        obtain ⟨h18, h19, h20⟩ := getI_some g17
        obtain ⟨r1007, g21, b15⟩ := obnd_some b15
        simp -implicitDefEqProofs -dsimp only [go_sem, (eq_true h16), h18, h19, h20]
        refine callW_of (c_slices_Clone_int g21) ?_
        obtain ⟨h22, b15⟩ := chk_some b15
        obtain ⟨h23, b15⟩ := chk_some b15
        cases b15
        simp -implicitDefEqProofs -dsimp only [go_sem, (eq_true h16), h18, h19, h20, (eq_true h22), (eq_true h23)]
        refine next_of gb15 ?_
        simp -implicitDefEqProofs -dsimp only [go_sem, (eq_true h16), h18, h19, h20, (eq_true h22), (eq_true h23)]
      · cases b15
        have e24 := done_of gb15
        subst e24
        try dsimp only at h
        cases h
        simp -implicitDefEqProofs -dsimp only [go_sem, (eq_false h16)]
/- 127 slices.Min[[]int,int] -/
def m_slices_Min_int_L1_St (v0 : List Int) : (Int × Int) → St
  | (v3, v4) => ⟨[(0, .sl (rowsOf eI v0)), (3, .lit (.int .i64 v3)), (4, .lit (.int .i64 v4))], [], 2⟩
attribute [go_sem] m_slices_Min_int_L1_St
def hi127 : Hint where
  acts := fun _ => []
  draws := fun
    | _ => ⟨.nil, [], []⟩
theorem hi127a (i : Nat) : hi127.acts i = [] := rfl
theorem hi127v (i : Nat) : hi127.views i = none := rfl
attribute [go_sem] hi127a hi127v Go.Proofs.Try.ntmps127 Go.Proofs.Try.results127
theorem c_slices_Min_int {v0 : List Int} {res : Int} (h : m_slices_Min_int v0 = some res) : CallOk Go.Proofs.Try.prog 127 [.sl (rowsOf eI v0)] [] (.lit (.int .i64 res)) [] := by
  refine callOk_of (ra := []) (md := mdT) hT (hi := hi127) Go.Proofs.Try.func127 rfl rfl (by decide +kernel) (by simp) ?_
  unfold m_slices_Min_int at h
  rcases ite_some h with ⟨h1, h⟩ | ⟨h1, h⟩
  · cases h
  · obtain ⟨x1001, g2, h⟩ := obnd_some h
    obtain ⟨h4, h5⟩ := getI_nat (k := 0) g2
    obtain ⟨q1003, l6, h⟩ := obnd_some h
    simp -implicitDefEqProofs -dsimp only [go_sem, (eq_false h1), h4, h5]
    refine loopW_loopO (m1 := .mk) (m2 := .mk) [.nf [0, 3, 4] []] (m_slices_Min_int_L1_St v0) l6 ?_ ?_
    · simp -implicitDefEqProofs -dsimp only [go_sem, (eq_false h1), h4, h5]
    · intro nb7 sb7 bb7 b7 gb7
      obtain ⟨v3_1, v4_1⟩ := sb7
      unfold m_slices_Min_int_L1 at b7
      try dsimp only at b7
      rcases ite_some b7 with ⟨h8, b7⟩ | ⟨h8, b7⟩
      · obtain ⟨x1002, g9, b7⟩ := obnd_some b7
        obtain ⟨h10, h11, h12⟩ := getI_some g9
        cases b7
        simp -implicitDefEqProofs -dsimp only [go_sem, (eq_false h1), h4, h5, (eq_true h8), h10, h11, h12]
        refine next_of gb7 ?_
        simp -implicitDefEqProofs -dsimp only [go_sem, (eq_false h1), h4, h5, (eq_true h8), h10, h11, h12]
      · cases b7
        have e13 := done_of gb7
        subst e13
        try dsimp only at h
        cases h
        simp -implicitDefEqProofs -dsimp only [go_sem, (eq_false h1), h4, h5, (eq_false h8)]
/- 128 slices.Max[[]int,int] -/
def m_slices_Max_int_L1_St (v0 : List Int) : (Int × Int) → St
  | (v3, v4) => ⟨[(0, .sl (rowsOf eI v0)), (3, .lit (.int .i64 v3)), (4, .lit (.int .i64 v4))], [], 2⟩
attribute [go_sem] m_slices_Max_int_L1_St
def hi128 : Hint where
  acts := fun _ => []
  draws := fun
    | _ => ⟨.nil, [], []⟩
theorem hi128a (i : Nat) : hi128.acts i = [] := rfl
theorem hi128v (i : Nat) : hi128.views i = none := rfl
attribute [go_sem] hi128a hi128v Go.Proofs.Try.ntmps128 Go.Proofs.Try.results128
theorem c_slices_Max_int {v0 : List Int} {res : Int} (h : m_slices_Max_int v0 = some res) : CallOk Go.Proofs.Try.prog 128 [.sl (rowsOf eI v0)] [] (.lit (.int .i64 res)) [] := by
  refine callOk_of (ra := []) (md := mdT) hT (hi := hi128) Go.Proofs.Try.func128 rfl rfl (by decide +kernel) (by simp) ?_
  unfold m_slices_Max_int at h
  rcases ite_some h with ⟨h1, h⟩ | ⟨h1, h⟩
  · cases h
  · obtain ⟨x1001, g2, h⟩ := obnd_some h
    obtain ⟨h4, h5⟩ := getI_nat (k := 0) g2
    obtain ⟨q1003, l6, h⟩ := obnd_some h
    simp -implicitDefEqProofs -dsimp only [go_sem, (eq_false h1), h4, h5]
    refine loopW_loopO (m1 := .mk) (m2 := .mk) [.nf [0, 3, 4] []] (m_slices_Max_int_L1_St v0) l6 ?_ ?_
    · simp -implicitDefEqProofs -dsimp only [go_sem, (eq_false h1), h4, h5]
    · intro nb7 sb7 bb7 b7 gb7
      obtain ⟨v3_1, v4_1⟩ := sb7
      unfold m_slices_Max_int_L1 at b7
      try dsimp only at b7
      rcases ite_some b7 with ⟨h8, b7⟩ | ⟨h8, b7⟩
      · obtain ⟨x1002, g9, b7⟩ := obnd_some b7
        obtain ⟨h10, h11, h12⟩ := getI_some g9
        cases b7
        simp -implicitDefEqProofs -dsimp only [go_sem, (eq_false h1), h4, h5, (eq_true h8), h10, h11, h12]
        refine next_of gb7 ?_
        simp -implicitDefEqProofs -dsimp only [go_sem, (eq_false h1), h4, h5, (eq_true h8), h10, h11, h12]
      · cases b7
        have e13 := done_of gb7
        subst e13
        try dsimp only at h
        cases h
        simp -implicitDefEqProofs -dsimp only [go_sem, (eq_false h1), h4, h5, (eq_false h8)]
/- 54 loop.example/g00827/impl.ObservedRange -/
def m_impl_ObservedRange_L1_St (tie : Int) (v16 : List GTake) (v17 : Int) : (Int × (List Int)) → St
  | (v18, lengths) => ⟨[(2, .lit (.int .i64 tie)), (6, .ptr 384 1 0 0), (8, .ref 575 1 0 lengths.length), (16, .sl (rowsOf GTake.enc v16)), (17, .lit (.int .i64 v17)), (18, .lit (.int .i64 v18))], [(384, 1, .var [.lit (.int .i64 0), .lit (.int .i64 0)]), (575, 1, .row true (rowsOf eI lengths))], 2⟩
attribute [go_sem] m_impl_ObservedRange_L1_St
def hi54 : Hint where
  acts := fun _ => []
  draws := fun
    | _ => ⟨.nil, [], []⟩
theorem hi54a (i : Nat) : hi54.acts i = [] := rfl
theorem hi54v (i : Nat) : hi54.views i = none := rfl
attribute [go_sem] hi54a hi54v Go.Proofs.Try.ntmps54 Go.Proofs.Try.results54
theorem c_impl_ObservedRange {s : GShow} {list : List GTake} {tie : Int} {res : GInterval × Bool} (h : m_impl_ObservedRange s list tie = some res) : CallOk Go.Proofs.Try.prog 54 [.agg [.sl (rowsOf GNode.encS s.nodes), .sl (rowsOf GTie.enc s.ties), .lit (.int .i64 s.horizon)], .sl (rowsOf GTake.enc list), .lit (.int .i64 tie)] [] (.tup [.agg [.lit (.int .i64 res.1.low), .lit (.int .i64 res.1.high)], .lit (.bool res.2)]) [] := by
  refine callOk_of (ra := []) (md := mdT) hT (hi := hi54) Go.Proofs.Try.func54 rfl rfl (by decide +kernel) (by simp) ?_
  unfold m_impl_ObservedRange at h
  obtain ⟨r1001, g1, h⟩ := obnd_some h
  simp -implicitDefEqProofs -dsimp only [go_sem]
  refine callW_of (c_impl_TakesOk g1) ?_
  rcases ite_some h with ⟨h2, h⟩ | ⟨h2, h⟩
  · obtain ⟨q1005, l3, h⟩ := obnd_some h
    simp -implicitDefEqProofs -dsimp only [go_sem, (eq_true h2), (condZ_t h2)]
    refine loopW_loopO (m1 := .mk) (m2 := .mk) [.home 8, .nf [2, 6, 8, 16, 17, 18] [384, 575]] (m_impl_ObservedRange_L1_St tie list ((list.length : Nat) : Int)) l3 ?_ ?_
    · simp -implicitDefEqProofs -dsimp only [go_sem, (eq_true h2), (condZ_t h2)]
    · intro nb4 sb4 bb4 b4 gb4
      obtain ⟨v18_1, lengths_1⟩ := sb4
      unfold m_impl_ObservedRange_L1 at b4
      try dsimp only at b4
      rcases ite_some b4 with ⟨h5, b4⟩ | ⟨h5, b4⟩
      · obtain ⟨x1002, g6, b4⟩ := obnd_some b4
        obtain ⟨h7, h8, h9⟩ := getI_some g6
        rcases ite_some b4 with ⟨h10, b4⟩ | ⟨h10, b4⟩
        · obtain ⟨h11, b4⟩ := chk_some b4
          obtain ⟨h12, b4⟩ := chk_some b4
          cases b4
          simp -implicitDefEqProofs -dsimp only [go_sem, (eq_true h2), (condZ_t h2), (eq_true h5), h7, h8, h9, (eq_true h10), (eq_true h11), (eq_true h12)]
          refine next_of gb4 ?_
          simp -implicitDefEqProofs -dsimp only [go_sem, (eq_true h2), (condZ_t h2), (eq_true h5), h7, h8, h9, (eq_true h10), (eq_true h11), (eq_true h12)]
        · cases b4
          simp -implicitDefEqProofs -dsimp only [go_sem, (eq_true h2), (condZ_t h2), (eq_true h5), h7, h8, h9, (eq_false h10)]
          refine next_of gb4 ?_
          simp -implicitDefEqProofs -dsimp only [go_sem, (eq_true h2), (condZ_t h2), (eq_true h5), h7, h8, h9, (eq_false h10)]
      · cases b4
        have e13 := done_of gb4
        subst e13
        try dsimp only at h
        rcases ite_some h with ⟨h14, h⟩ | ⟨h14, h⟩
        · cases h
          simp -implicitDefEqProofs -dsimp only [go_sem, (eq_true h2), (condZ_t h2), (eq_false h5), (eq_true h14)]
        · obtain ⟨r1003, g15, h⟩ := obnd_some h
          simp -implicitDefEqProofs -dsimp only [go_sem, (eq_true h2), (condZ_t h2), (eq_false h5), (eq_false h14)]
          refine callW_of (c_slices_Min_int g15) ?_
          obtain ⟨r1004, g16, h⟩ := obnd_some h
          simp -implicitDefEqProofs -dsimp only [go_sem, (eq_true h2), (condZ_t h2), (eq_false h5), (eq_false h14)]
          refine callW_of (c_slices_Max_int g16) ?_
          cases h
          simp -implicitDefEqProofs -dsimp only [go_sem, (eq_true h2), (condZ_t h2), (eq_false h5), (eq_false h14)]
  · cases h
    simp -implicitDefEqProofs -dsimp only [go_sem, (eq_false h2), (condZ_f h2)]
/- 72 loop.example/g00827/impl.TightenShow -/
def m_impl_TightenShow_L1_St (list : List GTake) (slack : Int) (v26 : Int) (s_0 : List GNode) (s_1 : List GTie) (s_2 : Int) (out_2 : Int) (h1472 : List GNode) : (Int × (List GTie)) → St
  | (v27, h1473) => ⟨[(1, .sl (rowsOf GTake.enc list)), (2, .lit (.int .i64 slack)), (3, .ptr 192 1 0 0), (6, .ptr 384 1 0 0), (8, .ptr 512 1 0 0), (26, .lit (.int .i64 v26)), (27, .lit (.int .i64 v27))], [(192, 1, .var [.sl (rowsOf GNode.encS s_0), .sl (rowsOf GTie.enc s_1), .lit (.int .i64 s_2)]), (384, 1, .var [.lit (.slice none 0 0), .lit (.slice none 0 0), .lit (.int .i64 0)]), (512, 1, .var [.ref 1472 1 0 h1472.length, .ref 1473 1 0 h1473.length, .lit (.int .i64 out_2)]), (1472, 1, .row true (rowsOf GNode.encO h1472)), (1473, 1, .row true (rowsOf GTie.enc h1473))], 2⟩
attribute [go_sem] m_impl_TightenShow_L1_St
def hi72 : Hint where
  acts := fun _ => []
  draws := fun
    | 9 => ⟨.cons ⟨0, false, []⟩ (.cons ⟨1, false, []⟩ (.cons ⟨2, false, []⟩ (.cons ⟨3, true, []⟩ (.cons ⟨4, true, []⟩ (.cons ⟨5, false, []⟩ (.cons ⟨6, false, []⟩ (.cons ⟨7, false, []⟩ (.cons ⟨8, false, []⟩ (.cons ⟨9, false, []⟩ (.cons ⟨10, false, []⟩ (.cons ⟨11, false, []⟩ (.cons ⟨12, false, []⟩ (.cons ⟨13, false, []⟩ (.cons ⟨14, false, []⟩ (.cons ⟨15, false, []⟩ (.cons ⟨16, false, []⟩ (.cons ⟨17, false, []⟩ (.cons ⟨18, false, []⟩ (.cons ⟨19, false, []⟩ (.cons ⟨20, false, []⟩ (.cons ⟨21, false, []⟩ (.cons ⟨22, false, []⟩ (.cons ⟨23, true, []⟩ (.cons ⟨24, true, []⟩ (.cons ⟨25, false, []⟩ (.cons ⟨26, false, []⟩ (.cons ⟨27, false, []⟩ (.cons ⟨28, false, []⟩ (.cons ⟨29, false, []⟩ (.cons ⟨30, false, [3, 4, 23, 24]⟩ (.cons ⟨31, false, []⟩ (.cons ⟨32, false, []⟩ (.cons ⟨33, false, []⟩ .nil))))))))))))))))))))))))))))))))), [[], [0], [], [], [3], [], [], [6], [], [6, 7, 8], [6, 7, 8, 9], [6, 7, 8, 9, 10], [], [12], [], [12, 13, 14], [6, 7, 8, 9, 10, 11, 12, 13, 14, 15], [], [17], [], [17, 18, 19], [17, 18, 19, 20], [17, 18, 19, 20, 21], [], [23], [], [23, 24, 25], [17, 18, 19, 20, 21, 22, 23, 24, 25, 26], [0, 1, 2, 6, 7, 8, 9, 10, 11, 12, 13, 14, 15, 16, 17, 18, 19, 20, 21, 22], [0, 1, 2, 6, 7, 8, 9, 10, 11, 12, 13, 14, 15, 16, 17, 18, 19, 20, 21, 22, 28], [0, 1, 2, 6, 7, 8, 9, 10, 11, 12, 13, 14, 15, 16, 17, 18, 19, 20, 21, 22, 28, 29], [0, 1, 2, 3, 4, 5, 6, 7, 8, 9, 10, 11, 12, 13, 14, 15, 16, 17, 18, 19, 20, 21, 22, 23, 24, 25, 26, 27, 28, 29, 30], [0, 1, 2, 3, 4, 5, 6, 7, 8, 9, 10, 11, 12, 13, 14, 15, 16, 17, 18, 19, 20, 21, 22, 23, 24, 25, 26, 27, 28, 29, 30, 31], [0, 1, 2, 3, 4, 5, 6, 7, 8, 9, 10, 11, 12, 13, 14, 15, 16, 17, 18, 19, 20, 21, 22, 23, 24, 25, 26, 27, 28, 29, 30, 31, 32]], [0, 1, 2, 28, 29, 30, 3, 4, 5, 6, 7, 8, 9, 10, 11, 12, 13, 14, 15, 16, 17, 18, 19, 20, 21, 22, 23, 24, 25, 26, 27, 31, 32, 33]⟩
    | _ => ⟨.nil, [], []⟩
theorem hi72a (i : Nat) : hi72.acts i = [] := rfl
theorem hi72v (i : Nat) : hi72.views i = none := rfl
attribute [go_sem] hi72a hi72v Go.Proofs.Try.ntmps72 Go.Proofs.Try.results72
@[go_sem] theorem hi72d9 : (hi72.draws 9).order = .cons ⟨0, false, []⟩ (.cons ⟨1, false, []⟩ (.cons ⟨2, false, []⟩ (.cons ⟨3, true, []⟩ (.cons ⟨4, true, []⟩ (.cons ⟨5, false, []⟩ (.cons ⟨6, false, []⟩ (.cons ⟨7, false, []⟩ (.cons ⟨8, false, []⟩ (.cons ⟨9, false, []⟩ (.cons ⟨10, false, []⟩ (.cons ⟨11, false, []⟩ (.cons ⟨12, false, []⟩ (.cons ⟨13, false, []⟩ (.cons ⟨14, false, []⟩ (.cons ⟨15, false, []⟩ (.cons ⟨16, false, []⟩ (.cons ⟨17, false, []⟩ (.cons ⟨18, false, []⟩ (.cons ⟨19, false, []⟩ (.cons ⟨20, false, []⟩ (.cons ⟨21, false, []⟩ (.cons ⟨22, false, []⟩ (.cons ⟨23, true, []⟩ (.cons ⟨24, true, []⟩ (.cons ⟨25, false, []⟩ (.cons ⟨26, false, []⟩ (.cons ⟨27, false, []⟩ (.cons ⟨28, false, []⟩ (.cons ⟨29, false, []⟩ (.cons ⟨30, false, [3, 4, 23, 24]⟩ (.cons ⟨31, false, []⟩ (.cons ⟨32, false, []⟩ (.cons ⟨33, false, []⟩ .nil))))))))))))))))))))))))))))))))) := rfl
theorem c_impl_TightenShow {s : GShow} {list : List GTake} {slack : Int} {res : GShow × Bool} (h : m_impl_TightenShow s list slack = some res) : CallOk Go.Proofs.Try.prog 72 [.agg [.sl (rowsOf GNode.encS s.nodes), .sl (rowsOf GTie.enc s.ties), .lit (.int .i64 s.horizon)], .sl (rowsOf GTake.enc list), .lit (.int .i64 slack)] [] (.tup [.agg [.ref 20000 1 0 res.1.nodes.length, .ref 20001 1 0 res.1.ties.length, .lit (.int .i64 res.1.horizon)], .lit (.bool res.2)]) [(20000, 1, .row true (rowsOf GNode.encO res.1.nodes)), (20001, 1, .row true (rowsOf GTie.enc res.1.ties))] := by
  refine callOk_of (ra := [.homeCell 384 0, .homeCell 384 1]) (md := mdT) hT (hi := hi72) Go.Proofs.Try.func72 rfl rfl (by decide +kernel) (by simp) ?_
  unfold m_impl_TightenShow at h
  obtain ⟨r1001, g1, h⟩ := obnd_some h
  simp -implicitDefEqProofs -dsimp only [go_sem]
  refine callW_of (c_impl_TakesOk g1) ?_
  rcases ite_some h with ⟨h2, h⟩ | ⟨h2, h⟩
  · obtain ⟨r1002, g3, h⟩ := obnd_some h
    simp -implicitDefEqProofs -dsimp only [go_sem, (eq_true h2), (condZ_t h2)]
    refine callW_of (c_impl_isUpTo g3) ?_
    rcases ite_some h with ⟨h4, h⟩ | ⟨h4, h⟩
    · obtain ⟨r1003, g5, h⟩ := obnd_some h
      simp -implicitDefEqProofs -dsimp only [go_sem, (eq_true h2), (condZ_t h2), (eq_true h4), (condZ_t h4)]
      refine callW_of (c_impl_copyShow g5) ?_
      obtain ⟨q1007, l6, h⟩ := obnd_some h
      simp -implicitDefEqProofs -dsimp only [go_sem, (eq_true h2), (condZ_t h2), (eq_true h4), (condZ_t h4)]
      refine loopW_loopO (m1 := .mk) (m2 := .mk) [.nf [1, 2, 3, 6, 8, 26, 27] [192, 384, 512, 1472, 1473]] (m_impl_TightenShow_L1_St list slack ((r1003.ties.length : Nat) : Int) s.nodes s.ties s.horizon r1003.horizon r1003.nodes) l6 ?_ ?_
      · simp -implicitDefEqProofs -dsimp only [go_sem, (eq_true h2), (condZ_t h2), (eq_true h4), (condZ_t h4)]
      · intro nb7 sb7 bb7 b7 gb7
        obtain ⟨v27_1, h1473_1⟩ := sb7
        unfold m_impl_TightenShow_L1 at b7
        try dsimp only at b7
        rcases ite_some b7 with ⟨h8, b7⟩ | ⟨h8, b7⟩
        · obtain ⟨r1004, g9, b7⟩ := obnd_some b7
          simp -implicitDefEqProofs -dsimp only [go_sem, (eq_true h2), (condZ_t h2), (eq_true h4), (condZ_t h4), (eq_true h8)]
          refine callW_of (c_impl_ObservedRange g9) ?_
          rcases ite_some b7 with ⟨h10, b7⟩ | ⟨h10, b7⟩
          · obtain ⟨x1005, g11, b7⟩ := obnd_some b7
            obtain ⟨h12, h13, h14⟩ := getI_some g11
            obtain ⟨x1006, g15, b7⟩ := obnd_some b7
            obtain ⟨h16, h17, h18⟩ := getI_some g15
            cases b7
            simp -implicitDefEqProofs -dsimp only [go_sem, (eq_true h2), (condZ_t h2), (eq_true h4), (condZ_t h4), (eq_true h8), (eq_true h10), (condZ_t h10), h12, h13, h14, h16, h17, h18]
            refine next_of gb7 ?_
            simp -implicitDefEqProofs -dsimp only [go_sem, (eq_true h2), (condZ_t h2), (eq_true h4), (condZ_t h4), (eq_true h8), (eq_true h10), (condZ_t h10), h12, h13, h14, h16, h17, h18]
          · cases b7
            simp -implicitDefEqProofs -dsimp only [go_sem, (eq_true h2), (condZ_t h2), (eq_true h4), (condZ_t h4), (eq_true h8), (eq_false h10), (condZ_f h10)]
            refine next_of gb7 ?_
            simp -implicitDefEqProofs -dsimp only [go_sem, (eq_true h2), (condZ_t h2), (eq_true h4), (condZ_t h4), (eq_true h8), (eq_false h10), (condZ_f h10)]
        · cases b7
          have e19 := done_of gb7
          subst e19
          try dsimp only at h
          cases h
          simp -implicitDefEqProofs -dsimp only [go_sem, (eq_true h2), (condZ_t h2), (eq_true h4), (condZ_t h4), (eq_false h8)]
    · cases h
      simp -implicitDefEqProofs -dsimp only [go_sem, (eq_true h2), (condZ_t h2), (eq_false h4), (condZ_f h4)]
  · cases h
    simp -implicitDefEqProofs -dsimp only [go_sem, (eq_false h2), (condZ_f h2)]
/- 125 loop.example/g00827/laws.eqTake -/
def hi125 : Hint where
  acts := fun _ => []
  draws := fun
    | _ => ⟨.nil, [], []⟩
theorem hi125a (i : Nat) : hi125.acts i = [] := rfl
theorem hi125v (i : Nat) : hi125.views i = none := rfl
attribute [go_sem] hi125a hi125v Go.Proofs.Try.ntmps125 Go.Proofs.Try.results125
theorem c_laws_eqTake {a : GTake} {b : GTake} {res : Bool} (h : m_laws_eqTake a b = some res) : CallOk Go.Proofs.Try.prog 125 [.agg [.lit (.int .i64 a.tie), .lit (.int .i64 a.length)], .agg [.lit (.int .i64 b.tie), .lit (.int .i64 b.length)]] [] (.lit (.bool res)) [] := by
  refine callOk_of (ra := []) (md := mdT) hT (hi := hi125) Go.Proofs.Try.func125 rfl rfl (by decide +kernel) (by simp) ?_
  unfold m_laws_eqTake at h
  rcases ite_some h with ⟨h1, h⟩ | ⟨h1, h⟩
  · rcases ite_some h with ⟨h2, h⟩ | ⟨h2, h⟩
    · cases h
      simp -implicitDefEqProofs -dsimp only [go_sem, (eq_true h1), (eq_true h2)]
    · cases h
      simp -implicitDefEqProofs -dsimp only [go_sem, (eq_true h1), (eq_false h2)]
  · cases h
    simp -implicitDefEqProofs -dsimp only [go_sem, (eq_false h1)]
/- 49 loop.example/g00827/laws.eqTakeS -/
def m_laws_eqTakeS_L1_St (a : List GTake) (b : List GTake) (i : Int) : St := ⟨[(0, .sl (rowsOf GTake.enc a)), (1, .sl (rowsOf GTake.enc b)), (5, .lit (.int .i64 i))], [], 2⟩
attribute [go_sem] m_laws_eqTakeS_L1_St
def hi49 : Hint where
  acts := fun _ => []
  draws := fun
    | 6 => ⟨.cons ⟨0, false, []⟩ (.cons ⟨1, false, []⟩ (.cons ⟨2, false, []⟩ (.cons ⟨3, false, []⟩ (.cons ⟨4, false, []⟩ (.cons ⟨5, false, []⟩ (.cons ⟨6, false, []⟩ (.cons ⟨7, false, []⟩ (.cons ⟨8, false, []⟩ (.cons ⟨9, false, []⟩ .nil))))))))), [[], [], [0, 1], [0, 1, 2], [], [], [4, 5], [4, 5, 6], [0, 1, 2, 3, 4, 5, 6, 7], [0, 1, 2, 3, 4, 5, 6, 7, 8]], [0, 1, 2, 3, 4, 5, 6, 7, 8, 9]⟩
    | _ => ⟨.nil, [], []⟩
theorem hi49a (i : Nat) : hi49.acts i = [] := rfl
theorem hi49v (i : Nat) : hi49.views i = none := rfl
attribute [go_sem] hi49a hi49v Go.Proofs.Try.ntmps49 Go.Proofs.Try.results49
@[go_sem] theorem hi49d6 : (hi49.draws 6).order = .cons ⟨0, false, []⟩ (.cons ⟨1, false, []⟩ (.cons ⟨2, false, []⟩ (.cons ⟨3, false, []⟩ (.cons ⟨4, false, []⟩ (.cons ⟨5, false, []⟩ (.cons ⟨6, false, []⟩ (.cons ⟨7, false, []⟩ (.cons ⟨8, false, []⟩ (.cons ⟨9, false, []⟩ .nil))))))))) := rfl
theorem c_laws_eqTakeS {a : List GTake} {b : List GTake} {res : Bool} (h : m_laws_eqTakeS a b = some res) : CallOk Go.Proofs.Try.prog 49 [.sl (rowsOf GTake.enc a), .sl (rowsOf GTake.enc b)] [] (.lit (.bool res)) [] := by
  refine callOk_of (ra := []) (md := mdT) hT (hi := hi49) Go.Proofs.Try.func49 rfl rfl (by decide +kernel) (by simp) ?_
  unfold m_laws_eqTakeS at h
  rcases ite_some h with ⟨h1, h⟩ | ⟨h1, h⟩
  · obtain ⟨q1004, l2, h⟩ := obnd_some h
    simp -implicitDefEqProofs -dsimp only [go_sem, (eq_true h1)]
    refine loopW_loopO (m1 := .mk) (m2 := .mk) [.nf [0, 1, 5] []] (m_laws_eqTakeS_L1_St a b) l2 ?_ ?_
    · simp -implicitDefEqProofs -dsimp only [go_sem, (eq_true h1)]
    · intro nb3 sb3 bb3 b3 gb3
      obtain ⟨i_1, eb3⟩ : ∃ v, v = sb3 := ⟨_, rfl⟩; subst eb3
      unfold m_laws_eqTakeS_L1 at b3
      try dsimp only at b3
      rcases ite_some b3 with ⟨h4, b3⟩ | ⟨h4, b3⟩
      · obtain ⟨x1001, g5, b3⟩ := obnd_some b3
        obtain ⟨h6, h7, h8⟩ := getI_some g5
        obtain ⟨x1002, g9, b3⟩ := obnd_some b3
        obtain ⟨h10, h11, h12⟩ := getI_some g9
        obtain ⟨r1003, g13, b3⟩ := obnd_some b3
        simp -implicitDefEqProofs -dsimp only [go_sem, (eq_true h1), (eq_true h4), h6, h7, h8, h10, h11, h12]
        refine callW_of (c_laws_eqTake g13) ?_
        rcases ite_some b3 with ⟨h14, b3⟩ | ⟨h14, b3⟩
        · cases b3
          simp -implicitDefEqProofs -dsimp only [go_sem, (eq_true h1), (eq_true h4), h6, h7, h8, h10, h11, h12, (eq_true h14), (condZ_t h14)]
          refine next_of gb3 ?_
          simp -implicitDefEqProofs -dsimp only [go_sem, (eq_true h1), (eq_true h4), h6, h7, h8, h10, h11, h12, (eq_true h14), (condZ_t h14)]
        · cases b3
          have e15 := done_of gb3
          subst e15
          try dsimp only at h
          cases h
          simp -implicitDefEqProofs -dsimp only [go_sem, (eq_true h1), (eq_true h4), h6, h7, h8, h10, h11, h12, (eq_false h14), (condZ_f h14)]
      · cases b3
        have e16 := done_of gb3
        subst e16
        try dsimp only at h
        cases h
        simp -implicitDefEqProofs -dsimp only [go_sem, (eq_true h1), (eq_false h4)]
  · cases h
    simp -implicitDefEqProofs -dsimp only [go_sem, (eq_false h1)]
/- 69 loop.example/g00827/laws.markTakeS -/
def m_laws_markTakeS_L1_St  : (Int × Int × (List GTake)) → St
  | (k, i, a) => ⟨[(0, .ref 10000 0 0 a.length), (1, .lit (.int .i64 k)), (5, .lit (.int .i64 i))], [(10000, 0, .row true (rowsOf GTake.enc a))], 2⟩
attribute [go_sem] m_laws_markTakeS_L1_St
def hi69 : Hint where
  acts := fun _ => []
  draws := fun
    | _ => ⟨.nil, [], []⟩
theorem hi69a (i : Nat) : hi69.acts i = [] := rfl
theorem hi69v (i : Nat) : hi69.views i = none := rfl
attribute [go_sem] hi69a hi69v Go.Proofs.Try.ntmps69 Go.Proofs.Try.results69
theorem c_laws_markTakeS {a : List GTake} {k : Int} {res : Int × (List GTake)} (h : m_laws_markTakeS a k = some res) : CallOk Go.Proofs.Try.prog 69 [.ref 10000 0 0 a.length, .lit (.int .i64 k)] [(10000, 0, .row true (rowsOf GTake.enc a))] (.lit (.int .i64 res.1)) [(10000, 0, .row true (rowsOf GTake.enc res.2))] := by
  refine callOk_of (ra := []) (md := mdT) hT (hi := hi69) Go.Proofs.Try.func69 rfl rfl (by decide +kernel) (by simp) ?_
  unfold m_laws_markTakeS at h
  obtain ⟨q1003, l1, h⟩ := obnd_some h
  simp -implicitDefEqProofs -dsimp only [go_sem]
  refine loopW_loopO (m1 := .mk) (m2 := .mk) [.nf [0, 1, 5] [10000]] (m_laws_markTakeS_L1_St) l1 ?_ ?_
  · simp -implicitDefEqProofs -dsimp only [go_sem]
  · intro nb2 sb2 bb2 b2 gb2
    obtain ⟨k_1, i_1, a_1⟩ := sb2
    unfold m_laws_markTakeS_L1 at b2
    try dsimp only at b2
    rcases ite_some b2 with ⟨h3, b2⟩ | ⟨h3, b2⟩
    · obtain ⟨x1001, g4, b2⟩ := obnd_some b2
      obtain ⟨h5, h6, h7⟩ := getI_some g4
      obtain ⟨x1002, g8, b2⟩ := obnd_some b2
      obtain ⟨h9, h10, h11⟩ := getI_some g8
      cases b2
      simp -implicitDefEqProofs -dsimp only [go_sem, (eq_true h3), h5, h6, h7, h9, h10, h11]
      refine next_of gb2 ?_
      simp -implicitDefEqProofs -dsimp only [go_sem, (eq_true h3), h5, h6, h7, h9, h10, h11]
    · cases b2
      have e12 := done_of gb2
      subst e12
      try dsimp only at h
      cases h
      simp -implicitDefEqProofs -dsimp only [go_sem, (eq_false h3)]
/- 133 loop.example/g00827/laws.heldNodeS -/
def m_laws_heldNodeS_L1_St (a : List GNode) : (Int × Int) → St
  | (k, i) => ⟨[(0, .sl (rowsOf GNode.encS a)), (1, .lit (.int .i64 k)), (5, .lit (.int .i64 i))], [], 2⟩
attribute [go_sem] m_laws_heldNodeS_L1_St
def hi133 : Hint where
  acts := fun _ => []
  draws := fun
    | 4 => ⟨.cons ⟨0, false, []⟩ (.cons ⟨1, false, []⟩ (.cons ⟨2, true, []⟩ (.cons ⟨3, true, []⟩ (.cons ⟨4, true, []⟩ (.cons ⟨5, false, []⟩ (.cons ⟨6, false, [2, 3, 4]⟩ (.cons ⟨7, false, []⟩ .nil))))))), [[], [], [0, 1], [0, 1, 2], [0, 1, 2, 3], [], [5], [0, 1, 2, 3, 4, 5, 6]], [0, 1, 2, 3, 4, 5, 6, 7]⟩
    | _ => ⟨.nil, [], []⟩
theorem hi133a (i : Nat) : hi133.acts i = [] := rfl
theorem hi133v (i : Nat) : hi133.views i = none := rfl
attribute [go_sem] hi133a hi133v Go.Proofs.Try.ntmps133 Go.Proofs.Try.results133
@[go_sem] theorem hi133d4 : (hi133.draws 4).order = .cons ⟨0, false, []⟩ (.cons ⟨1, false, []⟩ (.cons ⟨2, true, []⟩ (.cons ⟨3, true, []⟩ (.cons ⟨4, true, []⟩ (.cons ⟨5, false, []⟩ (.cons ⟨6, false, [2, 3, 4]⟩ (.cons ⟨7, false, []⟩ .nil))))))) := rfl
theorem c_laws_heldNodeS {a : List GNode} {k : Int} {res : Int} (h : m_laws_heldNodeS a k = some res) : CallOk Go.Proofs.Try.prog 133 [.sl (rowsOf GNode.encS a), .lit (.int .i64 k)] [] (.lit (.int .i64 res)) [] := by
  refine callOk_of (ra := []) (md := mdT) hT (hi := hi133) Go.Proofs.Try.func133 rfl rfl (by decide +kernel) (by simp) ?_
  unfold m_laws_heldNodeS at h
  obtain ⟨q1004, l1, h⟩ := obnd_some h
  simp -implicitDefEqProofs -dsimp only [go_sem]
  refine loopW_loopO (m1 := .mk) (m2 := .mk) [.nf [0, 1, 5] []] (m_laws_heldNodeS_L1_St a) l1 ?_ ?_
  · simp -implicitDefEqProofs -dsimp only [go_sem]
  · intro nb2 sb2 bb2 b2 gb2
    obtain ⟨k_1, i_1⟩ := sb2
    unfold m_laws_heldNodeS_L1 at b2
    try dsimp only at b2
    rcases ite_some b2 with ⟨h3, b2⟩ | ⟨h3, b2⟩
    · obtain ⟨x1001, g4, b2⟩ := obnd_some b2
      obtain ⟨h5, h6, h7⟩ := getI_some g4
      obtain ⟨r1002, g8, b2⟩ := obnd_some b2
      simp -implicitDefEqProofs -dsimp only [go_sem, (eq_true h3), h5, h6, h7]
      refine callW_of (c_laws_markText g8) ?_
      rcases ite_some b2 with ⟨h9, b2⟩ | ⟨h9, b2⟩
      · obtain ⟨r1003, g10, b2⟩ := obnd_some b2
        simp -implicitDefEqProofs -dsimp only [go_sem, (eq_true h3), h5, h6, h7, (eq_true h9)]
        refine callW_of (c_laws_heldIntS g10) ?_
        rcases ite_some b2 with ⟨h11, b2⟩ | ⟨h11, b2⟩
        · cases b2
          have e12 := done_of gb2
          subst e12
          try dsimp only at h
          cases h
          simp -implicitDefEqProofs -dsimp only [go_sem, (eq_true h3), h5, h6, h7, (eq_true h9), (eq_true h11)]
        · rcases ite_some b2 with ⟨h13, b2⟩ | ⟨h13, b2⟩
          · cases b2
            simp -implicitDefEqProofs -dsimp only [go_sem, (eq_true h3), h5, h6, h7, (eq_true h9), (eq_false h11), (eq_true h13)]
            refine next_of gb2 ?_
            simp -implicitDefEqProofs -dsimp only [go_sem, (eq_true h3), h5, h6, h7, (eq_true h9), (eq_false h11), (eq_true h13)]
          · cases b2
            have e14 := done_of gb2
            subst e14
            try dsimp only at h
            cases h
            simp -implicitDefEqProofs -dsimp only [go_sem, (eq_true h3), h5, h6, h7, (eq_true h9), (eq_false h11), (eq_false h13)]
      · cases b2
        have e15 := done_of gb2
        subst e15
        try dsimp only at h
        cases h
        simp -implicitDefEqProofs -dsimp only [go_sem, (eq_true h3), h5, h6, h7, (eq_false h9)]
    · cases b2
      have e16 := done_of gb2
      subst e16
      try dsimp only at h
      cases h
      simp -implicitDefEqProofs -dsimp only [go_sem, (eq_false h3)]
/- 134 loop.example/g00827/laws.heldTieS -/
def m_laws_heldTieS_L1_St (a : List GTie) : (Int × Int) → St
  | (k, i) => ⟨[(0, .sl (rowsOf GTie.enc a)), (1, .lit (.int .i64 k)), (5, .lit (.int .i64 i))], [], 2⟩
attribute [go_sem] m_laws_heldTieS_L1_St
def hi134 : Hint where
  acts := fun _ => []
  draws := fun
    | _ => ⟨.nil, [], []⟩
theorem hi134a (i : Nat) : hi134.acts i = [] := rfl
theorem hi134v (i : Nat) : hi134.views i = none := rfl
attribute [go_sem] hi134a hi134v Go.Proofs.Try.ntmps134 Go.Proofs.Try.results134
theorem c_laws_heldTieS {a : List GTie} {k : Int} {res : Int} (h : m_laws_heldTieS a k = some res) : CallOk Go.Proofs.Try.prog 134 [.sl (rowsOf GTie.enc a), .lit (.int .i64 k)] [] (.lit (.int .i64 res)) [] := by
  refine callOk_of (ra := []) (md := mdT) hT (hi := hi134) Go.Proofs.Try.func134 rfl rfl (by decide +kernel) (by simp) ?_
  unfold m_laws_heldTieS at h
  obtain ⟨q1002, l1, h⟩ := obnd_some h
  simp -implicitDefEqProofs -dsimp only [go_sem]
  refine loopW_loopO (m1 := .mk) (m2 := .mk) [.nf [0, 1, 5] []] (m_laws_heldTieS_L1_St a) l1 ?_ ?_
  · simp -implicitDefEqProofs -dsimp only [go_sem]
  · intro nb2 sb2 bb2 b2 gb2
    obtain ⟨k_1, i_1⟩ := sb2
    unfold m_laws_heldTieS_L1 at b2
    try dsimp only at b2
    rcases ite_some b2 with ⟨h3, b2⟩ | ⟨h3, b2⟩
    · obtain ⟨x1001, g4, b2⟩ := obnd_some b2
      obtain ⟨h5, h6, h7⟩ := getI_some g4
      rcases ite_some b2 with ⟨h8, b2⟩ | ⟨h8, b2⟩
      · rcases ite_some b2 with ⟨h9, b2⟩ | ⟨h9, b2⟩
        · rcases ite_some b2 with ⟨h10, b2⟩ | ⟨h10, b2⟩
          · rcases ite_some b2 with ⟨h11, b2⟩ | ⟨h11, b2⟩
            · rcases ite_some b2 with ⟨h12, b2⟩ | ⟨h12, b2⟩
              · cases b2
                simp -implicitDefEqProofs -dsimp only [go_sem, (eq_true h3), h5, h6, h7, (eq_true h8), (eq_true h9), (eq_true h10), (eq_true h11), (eq_true h12)]
                refine next_of gb2 ?_
                simp -implicitDefEqProofs -dsimp only [go_sem, (eq_true h3), h5, h6, h7, (eq_true h8), (eq_true h9), (eq_true h10), (eq_true h11), (eq_true h12)]
              · cases b2
                have e13 := done_of gb2
                subst e13
                try dsimp only at h
                cases h
                simp -implicitDefEqProofs -dsimp only [go_sem, (eq_true h3), h5, h6, h7, (eq_true h8), (eq_true h9), (eq_true h10), (eq_true h11), (eq_false h12)]
            · cases b2
              have e14 := done_of gb2
              subst e14
              try dsimp only at h
              cases h
              simp -implicitDefEqProofs -dsimp only [go_sem, (eq_true h3), h5, h6, h7, (eq_true h8), (eq_true h9), (eq_true h10), (eq_false h11)]
          · cases b2
            have e15 := done_of gb2
            subst e15
            try dsimp only at h
            cases h
            simp -implicitDefEqProofs -dsimp only [go_sem, (eq_true h3), h5, h6, h7, (eq_true h8), (eq_true h9), (eq_false h10)]
        · cases b2
          have e16 := done_of gb2
          subst e16
          try dsimp only at h
          cases h
          simp -implicitDefEqProofs -dsimp only [go_sem, (eq_true h3), h5, h6, h7, (eq_true h8), (eq_false h9)]
      · cases b2
        have e17 := done_of gb2
        subst e17
        try dsimp only at h
        cases h
        simp -implicitDefEqProofs -dsimp only [go_sem, (eq_true h3), h5, h6, h7, (eq_false h8)]
    · cases b2
      have e18 := done_of gb2
      subst e18
      try dsimp only at h
      cases h
      simp -implicitDefEqProofs -dsimp only [go_sem, (eq_false h3)]
/- 62 loop.example/g00827/laws.heldShow -/
def hi62 : Hint where
  acts := fun _ => []
  draws := fun
    | _ => ⟨.nil, [], []⟩
theorem hi62a (i : Nat) : hi62.acts i = [] := rfl
theorem hi62v (i : Nat) : hi62.views i = none := rfl
attribute [go_sem] hi62a hi62v Go.Proofs.Try.ntmps62 Go.Proofs.Try.results62
theorem c_laws_heldShow {a : GShow} {k : Int} {res : Int} (h : m_laws_heldShow a k = some res) : CallOk Go.Proofs.Try.prog 62 [.agg [.sl (rowsOf GNode.encS a.nodes), .sl (rowsOf GTie.enc a.ties), .lit (.int .i64 a.horizon)], .lit (.int .i64 k)] [] (.lit (.int .i64 res)) [] := by
  refine callOk_of (ra := []) (md := mdT) hT (hi := hi62) Go.Proofs.Try.func62 rfl rfl (by decide +kernel) (by simp) ?_
  unfold m_laws_heldShow at h
  obtain ⟨r1001, g1, h⟩ := obnd_some h
  simp -implicitDefEqProofs -dsimp only [go_sem]
  refine callW_of (c_laws_heldNodeS g1) ?_
  rcases ite_some h with ⟨h2, h⟩ | ⟨h2, h⟩
  · cases h
    simp -implicitDefEqProofs -dsimp only [go_sem, (eq_true h2)]
  · obtain ⟨r1002, g3, h⟩ := obnd_some h
    simp -implicitDefEqProofs -dsimp only [go_sem, (eq_false h2)]
    refine callW_of (c_laws_heldTieS g3) ?_
    rcases ite_some h with ⟨h4, h⟩ | ⟨h4, h⟩
    · cases h
      simp -implicitDefEqProofs -dsimp only [go_sem, (eq_false h2), (eq_true h4)]
    · cases h
      simp -implicitDefEqProofs -dsimp only [go_sem, (eq_false h2), (eq_false h4)]
/- 15 loop.example/g00827/laws.FnExactTightenShow -/
def hi15 : Hint where
  acts := fun _ => []
  draws := fun
    | 14 => ⟨.cons ⟨0, true, []⟩ (.cons ⟨1, false, []⟩ (.cons ⟨2, false, [0]⟩ (.cons ⟨3, false, []⟩ (.cons ⟨4, false, []⟩ .nil)))), [[], [], [1], [0, 1, 2], [0, 1, 2, 3]], [0, 1, 2, 3, 4]⟩
    | _ => ⟨.nil, [], []⟩
theorem hi15a (i : Nat) : hi15.acts i = [] := rfl
theorem hi15v (i : Nat) : hi15.views i = none := rfl
attribute [go_sem] hi15a hi15v Go.Proofs.Try.ntmps15 Go.Proofs.Try.results15
@[go_sem] theorem hi15d14 : (hi15.draws 14).order = .cons ⟨0, true, []⟩ (.cons ⟨1, false, []⟩ (.cons ⟨2, false, [0]⟩ (.cons ⟨3, false, []⟩ (.cons ⟨4, false, []⟩ .nil)))) := rfl
theorem c_laws_FnExactTightenShow {aS : GShow} {aList : List GTake} {aSlack : Int} {res : Bool} (h : m_laws_FnExactTightenShow aS aList aSlack = some res) : CallOk Go.Proofs.Try.prog 15 [.agg [.sl (rowsOf GNode.encS aS.nodes), .sl (rowsOf GTie.enc aS.ties), .lit (.int .i64 aS.horizon)], .sl (rowsOf GTake.enc aList), .lit (.int .i64 aSlack)] [] (.lit (.bool res)) [] := by
  refine callOk_of (ra := []) (md := mdT) hT (hi := hi15) Go.Proofs.Try.func15 rfl rfl (by decide +kernel) (by simp) ?_
  unfold m_laws_FnExactTightenShow at h
  obtain ⟨r1001, g1, h⟩ := obnd_some h
  simp -implicitDefEqProofs -dsimp only [go_sem]
  refine callW_of (c_laws_szShow g1) ?_
  rcases ite_some h with ⟨h2, h⟩ | ⟨h2, h⟩
  · cases h
    simp -implicitDefEqProofs -dsimp only [go_sem, (eq_true h2)]
  · obtain ⟨r1002, g3, h⟩ := obnd_some h
    simp -implicitDefEqProofs -dsimp only [go_sem, (eq_false h2)]
    refine callW_of (c_laws_szTakeS g3) ?_
    rcases ite_some h with ⟨h4, h⟩ | ⟨h4, h⟩
    · cases h
      simp -implicitDefEqProofs -dsimp only [go_sem, (eq_false h2), (eq_true h4)]
    · obtain ⟨r1003, g5, h⟩ := obnd_some h
      simp -implicitDefEqProofs -dsimp only [go_sem, (eq_false h2), (eq_false h4)]
      refine callW_of (c_laws_toShow g5) ?_
      obtain ⟨r1004, g6, h⟩ := obnd_some h
      simp -implicitDefEqProofs -dsimp only [go_sem, (eq_false h2), (eq_false h4)]
      refine callW_of (c_laws_toTakeS g6) ?_
      obtain ⟨r1005, g7, h⟩ := obnd_some h
      simp -implicitDefEqProofs -dsimp only [go_sem, (eq_false h2), (eq_false h4)]
      refine callW_of (c_spec_TightenShow g7) ?_
      obtain ⟨r1006, g8, h⟩ := obnd_some h
      simp -implicitDefEqProofs -dsimp only [go_sem, (eq_false h2), (eq_false h4)]
      refine callW_of (c_laws_toShow g8) ?_
      obtain ⟨r1007, g9, h⟩ := obnd_some h
      simp -implicitDefEqProofs -dsimp only [go_sem, (eq_false h2), (eq_false h4)]
      refine callW_of (c_laws_toTakeS g9) ?_
      obtain ⟨r1008, g10, h⟩ := obnd_some h
      simp -implicitDefEqProofs -dsimp only [go_sem, (eq_false h2), (eq_false h4)]
      refine callW_of (c_impl_TightenShow g10) ?_
      obtain ⟨r1009, g11, h⟩ := obnd_some h
      simp -implicitDefEqProofs -dsimp only [go_sem, (eq_false h2), (eq_false h4)]
      refine callW_of (c_laws_eqShow g11) ?_
      rcases ite_some h with ⟨h12, h⟩ | ⟨h12, h⟩
      · rcases ite_some h with ⟨h13, h⟩ | ⟨h13, h⟩
        · obtain ⟨r1010, g14, h⟩ := obnd_some h
          simp -implicitDefEqProofs -dsimp only [go_sem, (eq_false h2), (eq_false h4), (eq_true h12), (condZ_t h12), (eq_true h13)]
          refine callW_of (c_laws_toShow g14) ?_
          obtain ⟨r1011, g15, h⟩ := obnd_some h
          simp -implicitDefEqProofs -dsimp only [go_sem, (eq_false h2), (eq_false h4), (eq_true h12), (condZ_t h12), (eq_true h13)]
          refine callW_of (c_laws_eqShow g15) ?_
          rcases ite_some h with ⟨h16, h⟩ | ⟨h16, h⟩
          · obtain ⟨r1012, g17, h⟩ := obnd_some h
            simp -implicitDefEqProofs -dsimp only [go_sem, (eq_false h2), (eq_false h4), (eq_true h12), (condZ_t h12), (eq_true h13), (eq_true h16), (condZ_t h16)]
            refine callW_of (c_laws_toTakeS g17) ?_
            obtain ⟨r1013, g18, h⟩ := obnd_some h
            simp -implicitDefEqProofs -dsimp only [go_sem, (eq_false h2), (eq_false h4), (eq_true h12), (condZ_t h12), (eq_true h13), (eq_true h16), (condZ_t h16)]
            refine callW_of (c_laws_eqTakeS g18) ?_
            rcases ite_some h with ⟨h19, h⟩ | ⟨h19, h⟩
            · obtain ⟨r1014, g20, h⟩ := obnd_some h
              simp -implicitDefEqProofs -dsimp only [go_sem, (eq_false h2), (eq_false h4), (eq_true h12), (condZ_t h12), (eq_true h13), (eq_true h16), (condZ_t h16), (eq_true h19), (condZ_t h19)]
              refine callW_of (c_laws_markShow g20) ?_
              obtain ⟨r1015, g21, h⟩ := obnd_some h
              simp -implicitDefEqProofs -dsimp only [go_sem, (eq_false h2), (eq_false h4), (eq_true h12), (condZ_t h12), (eq_true h13), (eq_true h16), (condZ_t h16), (eq_true h19), (condZ_t h19)]
              refine callW_of (c_laws_markTakeS g21) ?_
              rcases ite_some h with ⟨h22, h⟩ | ⟨h22, h⟩
              · cases h
                simp -implicitDefEqProofs -dsimp only [go_sem, (eq_false h2), (eq_false h4), (eq_true h12), (condZ_t h12), (eq_true h13), (eq_true h16), (condZ_t h16), (eq_true h19), (condZ_t h19), (eq_true h22)]
              · obtain ⟨r1016, g23, h⟩ := obnd_some h
                simp -implicitDefEqProofs -dsimp only [go_sem, (eq_false h2), (eq_false h4), (eq_true h12), (condZ_t h12), (eq_true h13), (eq_true h16), (condZ_t h16), (eq_true h19), (condZ_t h19), (eq_false h22)]
                refine callW_of (c_laws_eqShow g23) ?_
                rcases ite_some h with ⟨h24, h⟩ | ⟨h24, h⟩
                · obtain ⟨r1017, g25, h⟩ := obnd_some h
                  simp -implicitDefEqProofs -dsimp only [go_sem, (eq_false h2), (eq_false h4), (eq_true h12), (condZ_t h12), (eq_true h13), (eq_true h16), (condZ_t h16), (eq_true h19), (condZ_t h19), (eq_false h22), (eq_true h24), (condZ_t h24)]
                  refine callW_of (c_laws_markShow g25) ?_
                  obtain ⟨h26, h⟩ := chk_some h
                  obtain ⟨h27, h⟩ := chk_some h
                  obtain ⟨r1018, g28, h⟩ := obnd_some h
                  simp -implicitDefEqProofs -dsimp only [go_sem, (eq_false h2), (eq_false h4), (eq_true h12), (condZ_t h12), (eq_true h13), (eq_true h16), (condZ_t h16), (eq_true h19), (condZ_t h19), (eq_false h22), (eq_true h24), (condZ_t h24), (eq_true h26), (eq_true h27)]
                  refine callW_of (c_laws_heldShow g28) ?_
                  rcases ite_some h with ⟨h29, h⟩ | ⟨h29, h⟩
                  · cases h
                    simp -implicitDefEqProofs -dsimp only [go_sem, (eq_false h2), (eq_false h4), (eq_true h12), (condZ_t h12), (eq_true h13), (eq_true h16), (condZ_t h16), (eq_true h19), (condZ_t h19), (eq_false h22), (eq_true h24), (condZ_t h24), (eq_true h26), (eq_true h27), (eq_true h29)]
                  · rcases ite_some h with ⟨h30, h⟩ | ⟨h30, h⟩
                    · obtain ⟨r1019, g31, h⟩ := obnd_some h
                      simp -implicitDefEqProofs -dsimp only [go_sem, (eq_false h2), (eq_false h4), (eq_true h12), (condZ_t h12), (eq_true h13), (eq_true h16), (condZ_t h16), (eq_true h19), (condZ_t h19), (eq_false h22), (eq_true h24), (condZ_t h24), (eq_true h26), (eq_true h27), (eq_false h29), (eq_true h30)]
                      refine callW_of (c_laws_toShow g31) ?_
                      obtain ⟨r1020, g32, h⟩ := obnd_some h
                      simp -implicitDefEqProofs -dsimp only [go_sem, (eq_false h2), (eq_false h4), (eq_true h12), (condZ_t h12), (eq_true h13), (eq_true h16), (condZ_t h16), (eq_true h19), (condZ_t h19), (eq_false h22), (eq_true h24), (condZ_t h24), (eq_true h26), (eq_true h27), (eq_false h29), (eq_true h30)]
                      refine callW_of (c_laws_toTakeS g32) ?_
                      obtain ⟨r1021, g33, h⟩ := obnd_some h
                      simp -implicitDefEqProofs -dsimp only [go_sem, (eq_false h2), (eq_false h4), (eq_true h12), (condZ_t h12), (eq_true h13), (eq_true h16), (condZ_t h16), (eq_true h19), (condZ_t h19), (eq_false h22), (eq_true h24), (condZ_t h24), (eq_true h26), (eq_true h27), (eq_false h29), (eq_true h30)]
                      refine callW_of (c_impl_TightenShow g33) ?_
                      obtain ⟨r1022, g34, h⟩ := obnd_some h
                      simp -implicitDefEqProofs -dsimp only [go_sem, (eq_false h2), (eq_false h4), (eq_true h12), (condZ_t h12), (eq_true h13), (eq_true h16), (condZ_t h16), (eq_true h19), (condZ_t h19), (eq_false h22), (eq_true h24), (condZ_t h24), (eq_true h26), (eq_true h27), (eq_false h29), (eq_true h30)]
                      refine callW_of (c_laws_eqShow g34) ?_
                      rcases ite_some h with ⟨h35, h⟩ | ⟨h35, h⟩
                      · rcases ite_some h with ⟨h36, h⟩ | ⟨h36, h⟩
                        · obtain ⟨r1023, g37, h⟩ := obnd_some h
                          simp -implicitDefEqProofs -dsimp only [go_sem, (eq_false h2), (eq_false h4), (eq_true h12), (condZ_t h12), (eq_true h13), (eq_true h16), (condZ_t h16), (eq_true h19), (condZ_t h19), (eq_false h22), (eq_true h24), (condZ_t h24), (eq_true h26), (eq_true h27), (eq_false h29), (eq_true h30), (eq_true h35), (condZ_t h35), (eq_true h36)]
                          refine callW_of (c_laws_heldShow g37) ?_
                          rcases ite_some h with ⟨h38, h⟩ | ⟨h38, h⟩
                          · cases h
                            simp -implicitDefEqProofs -dsimp only [go_sem, (eq_false h2), (eq_false h4), (eq_true h12), (condZ_t h12), (eq_true h13), (eq_true h16), (condZ_t h16), (eq_true h19), (condZ_t h19), (eq_false h22), (eq_true h24), (condZ_t h24), (eq_true h26), (eq_true h27), (eq_false h29), (eq_true h30), (eq_true h35), (condZ_t h35), (eq_true h36), (eq_true h38)]
                          · rcases ite_some h with ⟨h39, h⟩ | ⟨h39, h⟩
                            · cases h
                              simp -implicitDefEqProofs -dsimp only [go_sem, (eq_false h2), (eq_false h4), (eq_true h12), (condZ_t h12), (eq_true h13), (eq_true h16), (condZ_t h16), (eq_true h19), (condZ_t h19), (eq_false h22), (eq_true h24), (condZ_t h24), (eq_true h26), (eq_true h27), (eq_false h29), (eq_true h30), (eq_true h35), (condZ_t h35), (eq_true h36), (eq_false h38), (eq_true h39)]
                            · cases h
                              simp -implicitDefEqProofs -dsimp only [go_sem, (eq_false h2), (eq_false h4), (eq_true h12), (condZ_t h12), (eq_true h13), (eq_true h16), (condZ_t h16), (eq_true h19), (condZ_t h19), (eq_false h22), (eq_true h24), (condZ_t h24), (eq_true h26), (eq_true h27), (eq_false h29), (eq_true h30), (eq_true h35), (condZ_t h35), (eq_true h36), (eq_false h38), (eq_false h39)]
                        · cases h
                          simp -implicitDefEqProofs -dsimp only [go_sem, (eq_false h2), (eq_false h4), (eq_true h12), (condZ_t h12), (eq_true h13), (eq_true h16), (condZ_t h16), (eq_true h19), (condZ_t h19), (eq_false h22), (eq_true h24), (condZ_t h24), (eq_true h26), (eq_true h27), (eq_false h29), (eq_true h30), (eq_true h35), (condZ_t h35), (eq_false h36)]
                      · cases h
                        simp -implicitDefEqProofs -dsimp only [go_sem, (eq_false h2), (eq_false h4), (eq_true h12), (condZ_t h12), (eq_true h13), (eq_true h16), (condZ_t h16), (eq_true h19), (condZ_t h19), (eq_false h22), (eq_true h24), (condZ_t h24), (eq_true h26), (eq_true h27), (eq_false h29), (eq_true h30), (eq_false h35), (condZ_f h35)]
                    · cases h
                      simp -implicitDefEqProofs -dsimp only [go_sem, (eq_false h2), (eq_false h4), (eq_true h12), (condZ_t h12), (eq_true h13), (eq_true h16), (condZ_t h16), (eq_true h19), (condZ_t h19), (eq_false h22), (eq_true h24), (condZ_t h24), (eq_true h26), (eq_true h27), (eq_false h29), (eq_false h30)]
                · cases h
                  simp -implicitDefEqProofs -dsimp only [go_sem, (eq_false h2), (eq_false h4), (eq_true h12), (condZ_t h12), (eq_true h13), (eq_true h16), (condZ_t h16), (eq_true h19), (condZ_t h19), (eq_false h22), (eq_false h24), (condZ_f h24)]
            · cases h
              simp -implicitDefEqProofs -dsimp only [go_sem, (eq_false h2), (eq_false h4), (eq_true h12), (condZ_t h12), (eq_true h13), (eq_true h16), (condZ_t h16), (eq_false h19), (condZ_f h19)]
          · cases h
            simp -implicitDefEqProofs -dsimp only [go_sem, (eq_false h2), (eq_false h4), (eq_true h12), (condZ_t h12), (eq_true h13), (eq_false h16), (condZ_f h16)]
        · cases h
          simp -implicitDefEqProofs -dsimp only [go_sem, (eq_false h2), (eq_false h4), (eq_true h12), (condZ_t h12), (eq_false h13)]
      · cases h
        simp -implicitDefEqProofs -dsimp only [go_sem, (eq_false h2), (eq_false h4), (eq_false h12), (condZ_f h12)]
end Go.Proofs.YtgmiaokdnpaglaaW
