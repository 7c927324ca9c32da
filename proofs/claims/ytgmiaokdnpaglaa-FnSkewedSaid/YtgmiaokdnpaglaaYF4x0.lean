/- Functions. -/
import Derived.Test.YtgmiaokdnpaglaaYFK0
set_option linter.all false
set_option linter.unusedVariables false
set_option linter.unusedSimpArgs false
set_option maxRecDepth 100000
set_option maxHeartbeats 400000
namespace Go.Proofs.YtgmiaokdnpaglaaY
open Go
/- 95 loop.example/g00827/spec.l01New -/
def m_spec_l01New_L1_St (code : List Int) : (Int × Int) → St
  | (v3, i) => ⟨[(0, .sl (rowsOf (eK .u8) code)), (3, .lit (.int .i64 v3)), (4, .lit (.int .i64 i))], [], 2⟩
attribute [go_sem] m_spec_l01New_L1_St
def hi95 : Hint where
  acts := fun _ => []
  draws := fun
    | _ => ⟨.nil, [], []⟩
theorem hi95a (i : Nat) : hi95.acts i = [] := rfl
theorem hi95v (i : Nat) : hi95.views i = none := rfl
attribute [go_sem] hi95a hi95v Go.Proofs.Try.ntmps95 Go.Proofs.Try.results95
theorem c_spec_l01New {code : List Int} {res : GL01Cur} (h : m_spec_l01New code = some res) : CallOk Go.Proofs.Try.prog 95 [.sl (rowsOf (eK .u8) code)] [] (.ptr 20000 1 0 0) [(20000, 1, .var [.sl (rowsOf (eK .u8) res.b), .lit (.int .i64 res.i), .lit (.int .i64 res.h)])] := by
  refine callOk_of (ra := []) (md := mdT) hT (hi := hi95) Go.Proofs.Try.func95 rfl rfl (by decide +kernel) (by simp) ?_
  unfold m_spec_l01New at h
  obtain ⟨q1002, l1, h⟩ := obnd_some h
  simp -implicitDefEqProofs -dsimp only [go_sem]
  refine loopW_loopO (m1 := .mk) (m2 := .mk) [.nf [0, 3, 4] []] (m_spec_l01New_L1_St code) l1 ?_ ?_
  · simp -implicitDefEqProofs -dsimp only [go_sem]
  · intro nb2 sb2 bb2 b2 gb2
    obtain ⟨v3_1, i_1⟩ := sb2
    unfold m_spec_l01New_L1 at b2
    try dsimp only at b2
    rcases ite_some b2 with ⟨h3, b2⟩ | ⟨h3, b2⟩
    · rcases ite_some b2 with ⟨h4, b2⟩ | ⟨h4, b2⟩
      · obtain ⟨x1001, g5, b2⟩ := obnd_some b2
        obtain ⟨h6, h7, h8⟩ := getI_some g5
        cases b2
        simp -implicitDefEqProofs -dsimp only [go_sem, (eq_true h3), (eq_true h4), h6, h7, h8]
        refine next_of gb2 ?_
        simp -implicitDefEqProofs -dsimp only [go_sem, (eq_true h3), (eq_true h4), h6, h7, h8]
      · cases b2
        have e9 := (done_of gb2).symm
        subst e9
        try dsimp only at h
        cases h
        simp -implicitDefEqProofs -dsimp only [go_sem, (eq_true h3), (eq_false h4)]
    · cases b2
      have e10 := (done_of gb2).symm
      subst e10
      try dsimp only at h
      cases h
      simp -implicitDefEqProofs -dsimp only [go_sem, (eq_false h3)]
/- 98 loop.example/g00827/spec.l01Byte -/
def hi98 : Hint where
  acts := fun _ => []
  draws := fun
    | 2 => ⟨.cons ⟨0, false, []⟩ (.cons ⟨1, false, []⟩ (.cons ⟨2, false, []⟩ (.cons ⟨3, false, []⟩ (.cons ⟨4, false, []⟩ (.cons ⟨5, false, []⟩ (.cons ⟨6, false, []⟩ (.cons ⟨7, false, []⟩ (.cons ⟨8, false, []⟩ (.cons ⟨9, false, []⟩ (.cons ⟨10, false, []⟩ (.cons ⟨11, false, []⟩ (.cons ⟨12, false, []⟩ .nil)))))))))))), [[], [0], [0, 1], [0, 1, 2], [0, 1, 2, 3], [], [5], [5, 6], [5, 6, 7], [5, 6, 7, 8], [0, 1, 2, 3, 4, 5, 6, 7, 8, 9], [0, 1, 2, 3, 4, 5, 6, 7, 8, 9, 10], [0, 1, 2, 3, 4, 5, 6, 7, 8, 9, 10, 11]], [0, 1, 2, 3, 4, 5, 6, 7, 8, 9, 10, 11, 12]⟩
    | 3 => ⟨.cons ⟨0, false, []⟩ (.cons ⟨1, false, []⟩ (.cons ⟨2, false, []⟩ (.cons ⟨3, false, []⟩ (.cons ⟨4, false, []⟩ (.cons ⟨5, false, []⟩ (.cons ⟨6, false, []⟩ (.cons ⟨7, false, []⟩ (.cons ⟨8, false, []⟩ (.cons ⟨9, false, []⟩ .nil))))))))), [[], [0], [0, 1], [0, 1, 2], [], [4], [4, 5], [4, 5, 6], [4, 5, 6, 7], [0, 1, 2, 3, 4, 5, 6, 7, 8]], [0, 1, 2, 3, 4, 5, 6, 7, 8, 9]⟩
    | 4 => ⟨.cons ⟨0, false, []⟩ (.cons ⟨1, false, []⟩ (.cons ⟨2, false, []⟩ (.cons ⟨3, false, []⟩ (.cons ⟨4, false, []⟩ (.cons ⟨5, false, []⟩ (.cons ⟨6, false, []⟩ (.cons ⟨7, false, []⟩ (.cons ⟨8, false, []⟩ (.cons ⟨9, false, []⟩ (.cons ⟨10, false, []⟩ (.cons ⟨11, false, []⟩ (.cons ⟨12, false, []⟩ (.cons ⟨13, false, []⟩ (.cons ⟨14, false, []⟩ .nil)))))))))))))), [[], [], [1], [1, 2], [1, 2, 3], [], [5], [5, 6], [5, 6, 7], [1, 2, 3, 4, 5, 6, 7, 8], [1, 2, 3, 4, 5, 6, 7, 8, 9], [1, 2, 3, 4, 5, 6, 7, 8, 9, 10], [0, 1, 2, 3, 4, 5, 6, 7, 8, 9, 10, 11], [0, 1, 2, 3, 4, 5, 6, 7, 8, 9, 10, 11, 12], [0, 1, 2, 3, 4, 5, 6, 7, 8, 9, 10, 11, 12, 13]], [0, 1, 2, 3, 4, 5, 6, 7, 8, 9, 10, 11, 12, 13, 14]⟩
    | _ => ⟨.nil, [], []⟩
theorem hi98a (i : Nat) : hi98.acts i = [] := rfl
theorem hi98v (i : Nat) : hi98.views i = none := rfl
attribute [go_sem] hi98a hi98v Go.Proofs.Try.ntmps98 Go.Proofs.Try.results98
@[go_sem] theorem hi98d2 : (hi98.draws 2).order = .cons ⟨0, false, []⟩ (.cons ⟨1, false, []⟩ (.cons ⟨2, false, []⟩ (.cons ⟨3, false, []⟩ (.cons ⟨4, false, []⟩ (.cons ⟨5, false, []⟩ (.cons ⟨6, false, []⟩ (.cons ⟨7, false, []⟩ (.cons ⟨8, false, []⟩ (.cons ⟨9, false, []⟩ (.cons ⟨10, false, []⟩ (.cons ⟨11, false, []⟩ (.cons ⟨12, false, []⟩ .nil)))))))))))) := rfl
@[go_sem] theorem hi98d3 : (hi98.draws 3).order = .cons ⟨0, false, []⟩ (.cons ⟨1, false, []⟩ (.cons ⟨2, false, []⟩ (.cons ⟨3, false, []⟩ (.cons ⟨4, false, []⟩ (.cons ⟨5, false, []⟩ (.cons ⟨6, false, []⟩ (.cons ⟨7, false, []⟩ (.cons ⟨8, false, []⟩ (.cons ⟨9, false, []⟩ .nil))))))))) := rfl
@[go_sem] theorem hi98d4 : (hi98.draws 4).order = .cons ⟨0, false, []⟩ (.cons ⟨1, false, []⟩ (.cons ⟨2, false, []⟩ (.cons ⟨3, false, []⟩ (.cons ⟨4, false, []⟩ (.cons ⟨5, false, []⟩ (.cons ⟨6, false, []⟩ (.cons ⟨7, false, []⟩ (.cons ⟨8, false, []⟩ (.cons ⟨9, false, []⟩ (.cons ⟨10, false, []⟩ (.cons ⟨11, false, []⟩ (.cons ⟨12, false, []⟩ (.cons ⟨13, false, []⟩ (.cons ⟨14, false, []⟩ .nil)))))))))))))) := rfl
theorem c_spec_l01Byte {v0 : GL01Cur} {res : Int × GL01Cur} (h : m_spec_l01Byte v0 = some res) : CallOk Go.Proofs.Try.prog 98 [.ptr 10000 0 0 0] [(10000, 0, .var [.sl (rowsOf (eK .u8) v0.b), .lit (.int .i64 v0.i), .lit (.int .i64 v0.h)])] (.lit (.int .i64 res.1)) [(10000, 0, .var [.sl (rowsOf (eK .u8) res.2.b), .lit (.int .i64 res.2.i), .lit (.int .i64 res.2.h)])] := by
  refine callOk_of (ra := []) (md := mdT) hT (hi := hi98) Go.Proofs.Try.func98 rfl rfl (by decide +kernel) (by simp) ?_
  unfold m_spec_l01Byte at h
  rcases ite_some h with ⟨h1, h⟩ | ⟨h1, h⟩
  · obtain ⟨x1001, g2, h⟩ := obnd_some h
    obtain ⟨h3, h4, h5⟩ := getI_some g2
    cases h
    simp -implicitDefEqProofs -dsimp only [go_sem, (eq_true h1), h3, h4, h5]
  · cases h
    simp -implicitDefEqProofs -dsimp only [go_sem, (eq_false h1)]
/- 102 loop.example/g00827/spec.l01Below -/
def hi102 : Hint where
  acts := fun _ => []
  draws := fun
    | _ => ⟨.nil, [], []⟩
theorem hi102a (i : Nat) : hi102.acts i = [] := rfl
theorem hi102v (i : Nat) : hi102.views i = none := rfl
attribute [go_sem] hi102a hi102v Go.Proofs.Try.ntmps102 Go.Proofs.Try.results102
theorem c_spec_l01Below {v0 : GL01Cur} {n : Int} {res : Int × GL01Cur} (h : m_spec_l01Below v0 n = some res) : CallOk Go.Proofs.Try.prog 102 [.ptr 10000 0 0 0, .lit (.int .i64 n)] [(10000, 0, .var [.sl (rowsOf (eK .u8) v0.b), .lit (.int .i64 v0.i), .lit (.int .i64 v0.h)])] (.lit (.int .i64 res.1)) [(10000, 0, .var [.sl (rowsOf (eK .u8) res.2.b), .lit (.int .i64 res.2.i), .lit (.int .i64 res.2.h)])] := by
  refine callOk_of (ra := []) (md := mdT) hT (hi := hi102) Go.Proofs.Try.func102 rfl rfl (by decide +kernel) (by simp) ?_
  unfold m_spec_l01Below at h
  rcases ite_some h with ⟨h1, h⟩ | ⟨h1, h⟩
  · cases h
    simp -implicitDefEqProofs -dsimp only [go_sem, (eq_true h1)]
  · rcases ite_some h with ⟨h2, h⟩ | ⟨h2, h⟩
    · obtain ⟨r1001, g3, h⟩ := obnd_some h
      simp -implicitDefEqProofs -dsimp only [go_sem, (eq_false h1), (eq_true h2)]
      refine callW_of (c_spec_l01Byte g3) ?_
      obtain ⟨h4, h⟩ := chk_some h
      cases h
      simp -implicitDefEqProofs -dsimp only [go_sem, (eq_false h1), (eq_true h2), (eq_false h4)]
    · obtain ⟨r1002, g5, h⟩ := obnd_some h
      simp -implicitDefEqProofs -dsimp only [go_sem, (eq_false h1), (eq_false h2)]
      refine callW_of (c_spec_l01Byte g5) ?_
      obtain ⟨r1003, g6, h⟩ := obnd_some h
      simp -implicitDefEqProofs -dsimp only [go_sem, (eq_false h1), (eq_false h2)]
      refine callW_of (c_spec_l01Byte g6) ?_
      obtain ⟨r1004, g7, h⟩ := obnd_some h
      simp -implicitDefEqProofs -dsimp only [go_sem, (eq_false h1), (eq_false h2)]
      refine callW_of (c_spec_l01Byte g7) ?_
      obtain ⟨r1005, g8, h⟩ := obnd_some h
      simp -implicitDefEqProofs -dsimp only [go_sem, (eq_false h1), (eq_false h2)]
      refine callW_of (c_spec_l01Byte g8) ?_
      obtain ⟨h9, h⟩ := chk_some h
      cases h
      simp -implicitDefEqProofs -dsimp only [go_sem, (eq_false h1), (eq_false h2), (eq_false h9)]
/- 158 loop.example/g00827/spec.l08Name -/
def hi158 : Hint where
  acts := fun _ => []
  draws := fun
    | _ => ⟨.nil, [], []⟩
theorem hi158a (i : Nat) : hi158.acts i = [] := rfl
theorem hi158v (i : Nat) : hi158.views i = none := rfl
attribute [go_sem] hi158a hi158v Go.Proofs.Try.ntmps158 Go.Proofs.Try.results158
theorem c_spec_l08Name {i : Int} {res : ByteArray} (h : m_spec_l08Name i = some res) : CallOk Go.Proofs.Try.prog 158 [.lit (.int .i64 i)] [] (.lit (.string res)) [] := by
  refine callOk_of (ra := []) (md := mdT) hT (hi := hi158) Go.Proofs.Try.func158 rfl rfl (by decide +kernel) (by simp) ?_
  unfold m_spec_l08Name at h
  obtain ⟨x1001, g1, h⟩ := obnd_some h
  obtain ⟨h2, h3, h4⟩ := getI_some g1
  simp only [List.length_cons, List.length_nil, Nat.zero_add, Nat.reduceAdd] at h4
  cases h
  simp -implicitDefEqProofs -dsimp only [go_sem, h2, h3, h4]
/- 159 loop.example/g00827/spec.l01Once -/
def hi159 : Hint where
  acts := fun _ => []
  draws := fun
    | _ => ⟨.nil, [], []⟩
theorem hi159a (i : Nat) : hi159.acts i = [] := rfl
theorem hi159v (i : Nat) : hi159.views i = none := rfl
attribute [go_sem] hi159a hi159v Go.Proofs.Try.ntmps159 Go.Proofs.Try.results159
theorem c_spec_l01Once {v0 : GL01Cur} {n : Int} {res : Bool × GL01Cur} (h : m_spec_l01Once v0 n = some res) : CallOk Go.Proofs.Try.prog 159 [.ptr 10000 0 0 0, .lit (.int .i64 n)] [(10000, 0, .var [.sl (rowsOf (eK .u8) v0.b), .lit (.int .i64 v0.i), .lit (.int .i64 v0.h)])] (.lit (.bool res.1)) [(10000, 0, .var [.sl (rowsOf (eK .u8) res.2.b), .lit (.int .i64 res.2.i), .lit (.int .i64 res.2.h)])] := by
  refine callOk_of (ra := []) (md := mdT) hT (hi := hi159) Go.Proofs.Try.func159 rfl rfl (by decide +kernel) (by simp) ?_
  unfold m_spec_l01Once at h
  obtain ⟨r1001, g1, h⟩ := obnd_some h
  simp -implicitDefEqProofs -dsimp only [go_sem]
  refine callW_of (c_spec_l01Below g1) ?_
  cases h
  simp -implicitDefEqProofs -dsimp only [go_sem]
/- 160 loop.example/g00827/spec.l08More -/
def m_spec_l08More_L1_St (m : Int) (s_2 : Int) (h10001 : List GNode) : (Int × (List Int) × Int × Int × (List GTie)) → St
  | (k, v0_0, v0_1, v0_2, h10002) => ⟨[(0, .ptr 10000 0 0 0), (3, .ptr 192 1 0 0), (4, .ptr 256 1 0 0), (5, .lit (.int .i64 m)), (6, .lit (.int .i64 k))], [(10000, 0, .var [.sl (rowsOf (eK .u8) v0_0), .lit (.int .i64 v0_1), .lit (.int .i64 v0_2)]), (192, 1, .var [.ref 10001 0 0 h10001.length, .ref 10002 1 0 h10002.length, .lit (.int .i64 s_2)]), (10001, 0, .row true (rowsOf GNode.encO h10001)), (10002, 1, .row true (rowsOf GTie.enc h10002)), (256, 1, .var [.lit (.slice none 0 0), .lit (.slice none 0 0), .lit (.int .i64 0)])], 2⟩
attribute [go_sem] m_spec_l08More_L1_St
def hi160 : Hint where
  acts := fun _ => []
  draws := fun
    | 7 => ⟨.cons ⟨0, true, []⟩ (.cons ⟨1, true, []⟩ (.cons ⟨2, false, []⟩ (.cons ⟨3, false, []⟩ (.cons ⟨4, false, []⟩ (.cons ⟨5, false, []⟩ (.cons ⟨6, false, []⟩ (.cons ⟨7, false, []⟩ (.cons ⟨10, false, []⟩ (.cons ⟨12, false, []⟩ (.cons ⟨13, false, []⟩ (.cons ⟨14, false, []⟩ (.cons ⟨15, false, []⟩ (.cons ⟨8, false, [0, 1]⟩ (.cons ⟨9, false, []⟩ (.cons ⟨11, false, []⟩ (.cons ⟨16, false, [0, 1]⟩ (.cons ⟨17, false, []⟩ (.cons ⟨18, false, []⟩ (.cons ⟨19, false, [0, 1]⟩ (.cons ⟨20, false, []⟩ (.cons ⟨21, false, []⟩ (.cons ⟨22, false, []⟩ .nil)))))))))))))))))))))), [[], [0], [], [], [3], [], [], [6], [5, 6, 7], [3, 4, 5, 6, 7, 8], [], [3, 4, 5, 6, 7, 8, 9, 10], [], [], [13], [], [5, 6, 7, 8, 15], [5, 6, 7, 8, 13, 14, 15, 16], [2, 3, 4, 5, 6, 7, 8, 9, 10, 11, 12, 13, 14, 15, 16, 17], [2, 3, 4, 5, 6, 7, 8, 9, 10, 11, 12, 13, 14, 15, 16, 17, 18], [0, 1, 2, 3, 4, 5, 6, 7, 8, 9, 10, 11, 12, 13, 14, 15, 16, 17, 18, 19], [0, 1, 2, 3, 4, 5, 6, 7, 8, 9, 10, 11, 12, 13, 14, 15, 16, 17, 18, 19, 20], [0, 1, 2, 3, 4, 5, 6, 7, 8, 9, 10, 11, 12, 13, 14, 15, 16, 17, 18, 19, 20, 21]], [0, 1, 2, 3, 4, 5, 6, 7, 8, 9, 10, 11, 12, 13, 14, 15, 16, 17, 18, 19, 20, 21, 22]⟩
    | _ => ⟨.nil, [], []⟩
theorem hi160a (i : Nat) : hi160.acts i = [] := rfl
theorem hi160v (i : Nat) : hi160.views i = none := rfl
attribute [go_sem] hi160a hi160v Go.Proofs.Try.ntmps160 Go.Proofs.Try.results160
@[go_sem] theorem hi160d7 : (hi160.draws 7).order = .cons ⟨0, true, []⟩ (.cons ⟨1, true, []⟩ (.cons ⟨2, false, []⟩ (.cons ⟨3, false, []⟩ (.cons ⟨4, false, []⟩ (.cons ⟨5, false, []⟩ (.cons ⟨6, false, []⟩ (.cons ⟨7, false, []⟩ (.cons ⟨10, false, []⟩ (.cons ⟨12, false, []⟩ (.cons ⟨13, false, []⟩ (.cons ⟨14, false, []⟩ (.cons ⟨15, false, []⟩ (.cons ⟨8, false, [0, 1]⟩ (.cons ⟨9, false, []⟩ (.cons ⟨11, false, []⟩ (.cons ⟨16, false, [0, 1]⟩ (.cons ⟨17, false, []⟩ (.cons ⟨18, false, []⟩ (.cons ⟨19, false, [0, 1]⟩ (.cons ⟨20, false, []⟩ (.cons ⟨21, false, []⟩ (.cons ⟨22, false, []⟩ .nil)))))))))))))))))))))) := rfl
theorem c_spec_l08More {v0 : GL01Cur} {s : GShow} {res : GShow × GL01Cur × (List GNode)} (h : m_spec_l08More v0 s = some res) : CallOk Go.Proofs.Try.prog 160 [.ptr 10000 0 0 0, .agg [.ref 10001 0 0 s.nodes.length, .ref 10002 0 0 s.ties.length, .lit (.int .i64 s.horizon)]] [(10000, 0, .var [.sl (rowsOf (eK .u8) v0.b), .lit (.int .i64 v0.i), .lit (.int .i64 v0.h)]), (10001, 0, .row true (rowsOf GNode.encO s.nodes)), (10002, 0, .row true (rowsOf GTie.enc s.ties))] (.agg [.ref 10001 0 0 res.2.2.length, .ref 20000 1 0 res.1.ties.length, .lit (.int .i64 res.1.horizon)]) [(10000, 0, .var [.sl (rowsOf (eK .u8) res.2.1.b), .lit (.int .i64 res.2.1.i), .lit (.int .i64 res.2.1.h)]), (10001, 0, .row true (rowsOf GNode.encO res.2.2)), (20000, 1, .row true (rowsOf GTie.enc res.1.ties))] := by
  refine callOk_of (ra := [.homeCell 256 0, .homeCell 256 1]) (md := mdT) hT (hi := hi160) Go.Proofs.Try.func160 rfl rfl (by decide +kernel) (by simp) ?_
  unfold m_spec_l08More at h
  obtain ⟨r1001, g1, h⟩ := obnd_some h
  simp -implicitDefEqProofs -dsimp only [go_sem]
  refine callW_of (c_spec_l01Below g1) ?_
  obtain ⟨q1006, l2, h⟩ := obnd_some h
  simp -implicitDefEqProofs -dsimp only [go_sem]
  refine loopW_loopO (m1 := .mk) (m2 := .mk) [.nfo [0, 3, 4, 5, 6] [10000, 192, 10001, 10002, 256] [10002]] (m_spec_l08More_L1_St ((s.nodes.length : Nat) : Int) s.horizon s.nodes) l2 ?_ ?_
  · simp -implicitDefEqProofs -dsimp only [go_sem]
  · intro nb3 sb3 bb3 b3 gb3
    obtain ⟨k_1, v0_0_1, v0_1_1, v0_2_1, h10002_1⟩ := sb3
    unfold m_spec_l08More_L1 at b3
    try dsimp only at b3
    rcases ite_some b3 with ⟨h4, b3⟩ | ⟨h4, b3⟩
    · obtain ⟨r1002, g5, b3⟩ := obnd_some b3
      simp -implicitDefEqProofs -dsimp only [go_sem, (eq_true h4)]
      refine callW_of (c_spec_l01Below g5) ?_
      obtain ⟨r1003, g6, b3⟩ := obnd_some b3
      simp -implicitDefEqProofs -dsimp only [go_sem, (eq_true h4)]
      refine callW_of (c_spec_l01Below g6) ?_
      obtain ⟨r1004, g7, b3⟩ := obnd_some b3
      simp -implicitDefEqProofs -dsimp only [go_sem, (eq_true h4)]
      refine callW_of (c_spec_l01Below g7) ?_
      obtain ⟨h8, b3⟩ := chk_some b3
      obtain ⟨r1005, g9, b3⟩ := obnd_some b3
      simp -implicitDefEqProofs -dsimp only [go_sem, (eq_true h4), (eq_false h8)]
      refine callW_of (c_spec_l01Below g9) ?_
      obtain ⟨h10, b3⟩ := chk_some b3
      obtain ⟨h11, b3⟩ := chk_some b3
      cases b3
      simp -implicitDefEqProofs -dsimp only [go_sem, (eq_true h4), (eq_false h8), (eq_true h10), (eq_true h11)]
      refine next_of gb3 ?_
      simp -implicitDefEqProofs -dsimp only [go_sem, (eq_true h4), (eq_false h8), (eq_true h10), (eq_true h11)]
    · cases b3
      have e12 := (done_of gb3).symm
      subst e12
      try dsimp only at h
      cases h
      simp -implicitDefEqProofs -dsimp only [go_sem, (eq_false h4)]
/- 94 loop.example/g00827/spec.l08Plain -/
def m_spec_l08Plain_L1_St (s_2 : Int) : (Int × (List GNode) × (List Int) × Int × Int × (List GTie)) → St
  | (n, h512, v0_0, v0_1, v0_2, h100012289) => ⟨[(0, .ptr 10000 0 0 0), (2, .ptr 128 1 0 0), (3, .ptr 192 1 0 0), (4, .lit (.int .i64 n))], [(10000, 0, .var [.sl (rowsOf (eK .u8) v0_0), .lit (.int .i64 v0_1), .lit (.int .i64 v0_2)]), (128, 1, .var [.lit (.slice none 0 0), .lit (.slice none 0 0), .lit (.int .i64 0)]), (192, 1, .var [.ref 512 1 0 h512.length, .ref 100012289 1 0 h100012289.length, .lit (.int .i64 s_2)]), (512, 1, .row true (rowsOf GNode.encO h512)), (100012289, 1, .row true (rowsOf GTie.enc h100012289))], 2⟩
attribute [go_sem] m_spec_l08Plain_L1_St
def hi94 : Hint where
  acts := fun _ => []
  draws := fun
    | 7 => ⟨.cons ⟨0, true, []⟩ (.cons ⟨1, true, []⟩ (.cons ⟨2, false, []⟩ (.cons ⟨3, false, [0, 1]⟩ (.cons ⟨4, false, []⟩ (.cons ⟨5, false, [0, 1]⟩ (.cons ⟨6, false, []⟩ (.cons ⟨7, false, []⟩ (.cons ⟨8, false, []⟩ .nil)))))))), [[], [0], [], [2], [2, 3], [2, 3, 4], [0, 1, 2, 3, 4, 5], [0, 1, 2, 3, 4, 5, 6], [0, 1, 2, 3, 4, 5, 6, 7]], [0, 1, 2, 3, 4, 5, 6, 7, 8]⟩
    | 8 => ⟨.cons ⟨0, true, []⟩ (.cons ⟨1, true, []⟩ (.cons ⟨2, false, []⟩ (.cons ⟨3, false, []⟩ (.cons ⟨5, false, []⟩ (.cons ⟨6, false, []⟩ (.cons ⟨7, false, []⟩ (.cons ⟨8, false, []⟩ (.cons ⟨4, false, [0, 1]⟩ (.cons ⟨9, false, [0, 1]⟩ (.cons ⟨10, false, []⟩ (.cons ⟨11, false, []⟩ (.cons ⟨12, false, [0, 1]⟩ (.cons ⟨13, false, []⟩ (.cons ⟨14, false, []⟩ (.cons ⟨15, false, []⟩ .nil))))))))))))))), [[], [0], [], [], [2, 3], [], [], [], [], [2, 3, 4, 8], [2, 3, 4, 7, 8, 9], [2, 3, 4, 5, 6, 7, 8, 9, 10], [2, 3, 4, 5, 6, 7, 8, 9, 10, 11], [0, 1, 2, 3, 4, 5, 6, 7, 8, 9, 10, 11, 12], [0, 1, 2, 3, 4, 5, 6, 7, 8, 9, 10, 11, 12, 13], [0, 1, 2, 3, 4, 5, 6, 7, 8, 9, 10, 11, 12, 13, 14]], [0, 1, 2, 3, 4, 5, 6, 7, 8, 9, 10, 11, 12, 13, 14, 15]⟩
    | 11 => ⟨.cons ⟨0, true, []⟩ (.cons ⟨1, true, []⟩ (.cons ⟨2, false, []⟩ (.cons ⟨3, false, []⟩ (.cons ⟨4, false, [0, 1]⟩ (.cons ⟨5, false, []⟩ (.cons ⟨6, false, [0, 1]⟩ (.cons ⟨7, false, []⟩ (.cons ⟨8, false, []⟩ (.cons ⟨9, false, []⟩ .nil))))))))), [[], [0], [], [2], [2, 3], [2, 3, 4], [2, 3, 4, 5], [0, 1, 2, 3, 4, 5, 6], [0, 1, 2, 3, 4, 5, 6, 7], [0, 1, 2, 3, 4, 5, 6, 7, 8]], [0, 1, 2, 3, 4, 5, 6, 7, 8, 9]⟩
    | 12 => ⟨.cons ⟨0, true, []⟩ (.cons ⟨1, true, []⟩ (.cons ⟨2, false, []⟩ (.cons ⟨3, false, []⟩ (.cons ⟨4, false, []⟩ (.cons ⟨5, false, []⟩ (.cons ⟨6, false, []⟩ (.cons ⟨7, false, []⟩ (.cons ⟨8, false, [0, 1]⟩ (.cons ⟨9, false, []⟩ (.cons ⟨10, false, []⟩ (.cons ⟨11, false, [0, 1]⟩ (.cons ⟨12, false, []⟩ (.cons ⟨13, false, []⟩ (.cons ⟨14, false, []⟩ .nil)))))))))))))), [[], [0], [], [], [3], [], [], [], [7], [6, 7, 8], [2, 3, 4, 5, 6, 7, 8, 9], [2, 3, 4, 5, 6, 7, 8, 9, 10], [0, 1, 2, 3, 4, 5, 6, 7, 8, 9, 10, 11], [0, 1, 2, 3, 4, 5, 6, 7, 8, 9, 10, 11, 12], [0, 1, 2, 3, 4, 5, 6, 7, 8, 9, 10, 11, 12, 13]], [0, 1, 2, 3, 4, 5, 6, 7, 8, 9, 10, 11, 12, 13, 14]⟩
    | _ => ⟨.nil, [], []⟩
theorem hi94a (i : Nat) : hi94.acts i = [] := rfl
theorem hi94v (i : Nat) : hi94.views i = none := rfl
attribute [go_sem] hi94a hi94v Go.Proofs.Try.ntmps94 Go.Proofs.Try.results94
@[go_sem] theorem hi94d7 : (hi94.draws 7).order = .cons ⟨0, true, []⟩ (.cons ⟨1, true, []⟩ (.cons ⟨2, false, []⟩ (.cons ⟨3, false, [0, 1]⟩ (.cons ⟨4, false, []⟩ (.cons ⟨5, false, [0, 1]⟩ (.cons ⟨6, false, []⟩ (.cons ⟨7, false, []⟩ (.cons ⟨8, false, []⟩ .nil)))))))) := rfl
@[go_sem] theorem hi94d8 : (hi94.draws 8).order = .cons ⟨0, true, []⟩ (.cons ⟨1, true, []⟩ (.cons ⟨2, false, []⟩ (.cons ⟨3, false, []⟩ (.cons ⟨5, false, []⟩ (.cons ⟨6, false, []⟩ (.cons ⟨7, false, []⟩ (.cons ⟨8, false, []⟩ (.cons ⟨4, false, [0, 1]⟩ (.cons ⟨9, false, [0, 1]⟩ (.cons ⟨10, false, []⟩ (.cons ⟨11, false, []⟩ (.cons ⟨12, false, [0, 1]⟩ (.cons ⟨13, false, []⟩ (.cons ⟨14, false, []⟩ (.cons ⟨15, false, []⟩ .nil))))))))))))))) := rfl
@[go_sem] theorem hi94d11 : (hi94.draws 11).order = .cons ⟨0, true, []⟩ (.cons ⟨1, true, []⟩ (.cons ⟨2, false, []⟩ (.cons ⟨3, false, []⟩ (.cons ⟨4, false, [0, 1]⟩ (.cons ⟨5, false, []⟩ (.cons ⟨6, false, [0, 1]⟩ (.cons ⟨7, false, []⟩ (.cons ⟨8, false, []⟩ (.cons ⟨9, false, []⟩ .nil))))))))) := rfl
@[go_sem] theorem hi94d12 : (hi94.draws 12).order = .cons ⟨0, true, []⟩ (.cons ⟨1, true, []⟩ (.cons ⟨2, false, []⟩ (.cons ⟨3, false, []⟩ (.cons ⟨4, false, []⟩ (.cons ⟨5, false, []⟩ (.cons ⟨6, false, []⟩ (.cons ⟨7, false, []⟩ (.cons ⟨8, false, [0, 1]⟩ (.cons ⟨9, false, []⟩ (.cons ⟨10, false, []⟩ (.cons ⟨11, false, [0, 1]⟩ (.cons ⟨12, false, []⟩ (.cons ⟨13, false, []⟩ (.cons ⟨14, false, []⟩ .nil)))))))))))))) := rfl
theorem c_spec_l08Plain {v0 : GL01Cur} {res : GShow × GL01Cur} (h : m_spec_l08Plain v0 = some res) : CallOk Go.Proofs.Try.prog 94 [.ptr 10000 0 0 0] [(10000, 0, .var [.sl (rowsOf (eK .u8) v0.b), .lit (.int .i64 v0.i), .lit (.int .i64 v0.h)])] (.agg [.ref 20000 1 0 res.1.nodes.length, .ref 20001 1 0 res.1.ties.length, .lit (.int .i64 res.1.horizon)]) [(10000, 0, .var [.sl (rowsOf (eK .u8) res.2.b), .lit (.int .i64 res.2.i), .lit (.int .i64 res.2.h)]), (20000, 1, .row true (rowsOf GNode.encO res.1.nodes)), (20001, 1, .row true (rowsOf GTie.enc res.1.ties))] := by
  refine callOk_of (ra := [.homeCell 128 0, .homeCell 128 1]) (md := mdT) hT (hi := hi94) Go.Proofs.Try.func94 rfl rfl (by decide +kernel) (by simp) ?_
  unfold m_spec_l08Plain at h
  obtain ⟨r1001, g1, h⟩ := obnd_some h
  simp -implicitDefEqProofs -dsimp only [go_sem]
  refine callW_of (c_spec_l01Below g1) ?_
  obtain ⟨r1002, g2, h⟩ := obnd_some h
  simp -implicitDefEqProofs -dsimp only [go_sem]
  refine callW_of (c_spec_l01Below g2) ?_
  obtain ⟨q1012, l3, h⟩ := obnd_some h
  simp -implicitDefEqProofs -dsimp only [go_sem]
  refine loopW_loopO (m1 := .mk) (m2 := .mk) [.homeCell 192 1, .nf [0, 2, 3, 4] [10000, 128, 192, 512, 100012289]] (m_spec_l08Plain_L1_St (IntKind.wrap .i64 (4 + r1001.1))) l3 ?_ ?_
  · simp -implicitDefEqProofs -dsimp only [go_sem]
  · intro nb4 sb4 bb4 b4 gb4
    obtain ⟨n_1, h512_1, v0_0_1, v0_1_1, v0_2_1, h100012289_1⟩ := sb4
    unfold m_spec_l08Plain_L1 at b4
    try dsimp only at b4
    rcases ite_some b4 with ⟨h5, b4⟩ | ⟨h5, b4⟩
    · obtain ⟨r1003, g6, b4⟩ := obnd_some b4
      simp -implicitDefEqProofs -dsimp only [go_sem, (eq_true h5)]
      refine callW_of (c_spec_l01Below g6) ?_
      obtain ⟨r1004, g7, b4⟩ := obnd_some b4
      simp -implicitDefEqProofs -dsimp only [go_sem, (eq_true h5)]
      refine callW_of (c_spec_l08Name g7) ?_
      obtain ⟨h8, b4⟩ := chk_some b4
      obtain ⟨h9, b4⟩ := chk_some b4
      obtain ⟨r1005, g10, b4⟩ := obnd_some b4
      simp -implicitDefEqProofs -dsimp only [go_sem, (eq_true h5), (eq_true h8), (eq_true h9)]
      refine callW_of (c_spec_l01Below g10) ?_
      obtain ⟨r1006, g11, b4⟩ := obnd_some b4
      simp -implicitDefEqProofs -dsimp only [go_sem, (eq_true h5), (eq_true h8), (eq_true h9)]
      refine callW_of (c_spec_l01Below g11) ?_
      obtain ⟨h12, b4⟩ := chk_some b4
      obtain ⟨h13, b4⟩ := chk_some b4
      obtain ⟨r1007, g14, b4⟩ := obnd_some b4
      simp -implicitDefEqProofs -dsimp only [go_sem, (eq_true h5), (eq_true h8), (eq_true h9), (eq_true h12), (eq_true h13)]
      refine callW_of (c_spec_l01Once g14) ?_
      rcases ite_some b4 with ⟨h15, b4⟩ | ⟨h15, b4⟩
      · rcases ite_some b4 with ⟨h16, b4⟩ | ⟨h16, b4⟩
        · obtain ⟨r1008, g17, b4⟩ := obnd_some b4
          simp -implicitDefEqProofs -dsimp only [go_sem, (eq_true h5), (eq_true h8), (eq_true h9), (eq_true h12), (eq_true h13), (eq_true h15), (condZ_t h15), (eq_true h16)]
          refine callW_of (c_spec_l01Below g17) ?_
          obtain ⟨r1009, g18, b4⟩ := obnd_some b4
          simp -implicitDefEqProofs -dsimp only [go_sem, (eq_true h5), (eq_true h8), (eq_true h9), (eq_true h12), (eq_true h13), (eq_true h15), (condZ_t h15), (eq_true h16)]
          refine callW_of (c_spec_l08Name g18) ?_
          obtain ⟨h19, b4⟩ := chk_some b4
          try simp -implicitDefEqProofs -dsimp only [go_sem] at h19
          obtain ⟨h20, b4⟩ := chk_some b4
          try simp -implicitDefEqProofs -dsimp only [go_sem] at h20
          obtain ⟨r1010, g21, b4⟩ := obnd_some b4
          simp -implicitDefEqProofs -dsimp only [go_sem, (eq_true h5), (eq_true h8), (eq_true h9), (eq_true h12), (eq_true h13), (eq_true h15), (condZ_t h15), (eq_true h16), (eq_true h19), (eq_true h20)]
          refine callW_of (c_spec_l01Below g21) ?_
          obtain ⟨h22, b4⟩ := chk_some b4
          try simp -implicitDefEqProofs -dsimp only [go_sem] at h22
          obtain ⟨h23, b4⟩ := chk_some b4
          try simp -implicitDefEqProofs -dsimp only [go_sem] at h23
          cases b4
          simp -implicitDefEqProofs -dsimp only [go_sem, (eq_true h5), (eq_true h8), (eq_true h9), (eq_true h12), (eq_true h13), (eq_true h15), (condZ_t h15), (eq_true h16), (eq_true h19), (eq_true h20), (eq_true h22), (eq_true h23)]
          refine next_of gb4 ?_
          simp -implicitDefEqProofs -dsimp only [go_sem, (eq_true h5), (eq_true h8), (eq_true h9), (eq_true h12), (eq_true h13), (eq_true h15), (condZ_t h15), (eq_true h16), (eq_true h19), (eq_true h20), (eq_true h22), (eq_true h23)]
        · cases b4
          simp -implicitDefEqProofs -dsimp only [go_sem, (eq_true h5), (eq_true h8), (eq_true h9), (eq_true h12), (eq_true h13), (eq_true h15), (condZ_t h15), (eq_false h16)]
          refine next_of gb4 ?_
          simp -implicitDefEqProofs -dsimp only [go_sem, (eq_true h5), (eq_true h8), (eq_true h9), (eq_true h12), (eq_true h13), (eq_true h15), (condZ_t h15), (eq_false h16)]
      · cases b4
        simp -implicitDefEqProofs -dsimp only [go_sem, (eq_true h5), (eq_true h8), (eq_true h9), (eq_true h12), (eq_true h13), (eq_false h15), (condZ_f h15)]
        refine next_of gb4 ?_
        simp -implicitDefEqProofs -dsimp only [go_sem, (eq_true h5), (eq_true h8), (eq_true h9), (eq_true h12), (eq_true h13), (eq_false h15), (condZ_f h15)]
    · cases b4
      have e24 := (done_of gb4).symm
      subst e24
      try dsimp only at h
      obtain ⟨r1011, g25, h⟩ := obnd_some h
      simp -implicitDefEqProofs -dsimp only [go_sem, (eq_false h5)]
      refine callW_of (c_spec_l08More g25) ?_
      cases h
      simp -implicitDefEqProofs -dsimp only [go_sem, (eq_false h5)]
/- 28 loop.example/g00827/spec.MakePlain -/
def hi28 : Hint where
  acts := fun _ => []
  draws := fun
    | _ => ⟨.nil, [], []⟩
theorem hi28a (i : Nat) : hi28.acts i = [] := rfl
theorem hi28v (i : Nat) : hi28.views i = none := rfl
attribute [go_sem] hi28a hi28v Go.Proofs.Try.ntmps28 Go.Proofs.Try.results28
theorem c_spec_MakePlain {code : List Int} {res : GShow} (h : m_spec_MakePlain code = some res) : CallOk Go.Proofs.Try.prog 28 [.sl (rowsOf (eK .u8) code)] [] (.agg [.ref 20000 1 0 res.nodes.length, .ref 20001 1 0 res.ties.length, .lit (.int .i64 res.horizon)]) [(20000, 1, .row true (rowsOf GNode.encO res.nodes)), (20001, 1, .row true (rowsOf GTie.enc res.ties))] := by
  refine callOk_of (ra := [.homeCell 128 0, .homeCell 128 1]) (md := mdT) hT (hi := hi28) Go.Proofs.Try.func28 rfl rfl (by decide +kernel) (by simp) ?_
  unfold m_spec_MakePlain at h
  obtain ⟨r1001, g1, h⟩ := obnd_some h
  simp -implicitDefEqProofs -dsimp only [go_sem]
  refine callW_of (c_spec_l01New g1) ?_
  obtain ⟨r1002, g2, h⟩ := obnd_some h
  simp -implicitDefEqProofs -dsimp only [go_sem]
  refine callW_of (c_spec_l08Plain g2) ?_
  cases h
  simp -implicitDefEqProofs -dsimp only [go_sem]
/- 162 loop.example/g00827/impl.freeTie$1 -/
def hi162 : Hint where
  acts := fun _ => []
  draws := fun
    | _ => ⟨.nil, [], []⟩
theorem hi162a (i : Nat) : hi162.acts i = [] := rfl
theorem hi162v (i : Nat) : hi162.views i = none := rfl
attribute [go_sem] hi162a hi162v Go.Proofs.Try.ntmps162 Go.Proofs.Try.results162
theorem c_impl_freeTie_c1 {t : GTie} {node : Int} {res : Bool} (h : m_impl_freeTie_c1 t node = some res) : CallOk Go.Proofs.Try.prog 162 [.agg [.lit (.int .i64 t.from_), .lit (.int .i64 t.to), .lit (.int .i64 t.low), .lit (.int .i64 t.high), .lit (.bool t.free)], .loc [.lit (.int .i64 node)]] [] (.lit (.bool res)) [] := by
  refine callOk_of (ra := []) (md := mdT) hT (hi := hi162) Go.Proofs.Try.func162 rfl rfl (by decide +kernel) (by simp) ?_
  unfold m_impl_freeTie_c1 at h
  rcases ite_some h with ⟨h1, h⟩ | ⟨h1, h⟩
  · cases h
    simp -implicitDefEqProofs -dsimp only [go_sem, (eq_true h1), (condZ_t h1)]
  · cases h
    simp -implicitDefEqProofs -dsimp only [go_sem, (eq_false h1), (condZ_f h1)]
/- 96 loop.example/g00827/impl.freeTie -/
def hi96 : Hint where
  acts := fun _ => []
  draws := fun
    | _ => ⟨.nil, [], []⟩
theorem hi96a (i : Nat) : hi96.acts i = [] := rfl
theorem hi96v (i : Nat) : hi96.views i = none := rfl
attribute [go_sem] hi96a hi96v Go.Proofs.Try.ntmps96 Go.Proofs.Try.results96
theorem c_impl_freeTie {s : GShow} {node : Int} {res : Int} (h : m_impl_freeTie s node = some res) : CallOk Go.Proofs.Try.prog 96 [.agg [.sl (rowsOf GNode.encS s.nodes), .sl (rowsOf GTie.enc s.ties), .lit (.int .i64 s.horizon)], .lit (.int .i64 node)] [] (.lit (.int .i64 res)) [] := by
  refine callOk_of (ra := []) (md := mdT) hT (hi := hi96) Go.Proofs.Try.func96 rfl rfl (by decide +kernel) (by simp) ?_
  unfold m_impl_freeTie at h
  obtain ⟨r1001, g1, h⟩ := obnd_some h
  simp -implicitDefEqProofs -dsimp only [go_sem]
  refine callW_of (c_slices_IndexFunc_Tie (by exact fun _ _ hr => c_impl_freeTie_c1 hr) (by refine ⟨fun _ => ?_, fun _ => ?_⟩ <;> simp only [go_sem]) (by rfl) g1) ?_
  cases h
  simp -implicitDefEqProofs -dsimp only [go_sem]
/- 29 loop.example/g00827/impl.FreeTie -/
def hi29 : Hint where
  acts := fun _ => []
  draws := fun
    | _ => ⟨.nil, [], []⟩
theorem hi29a (i : Nat) : hi29.acts i = [] := rfl
theorem hi29v (i : Nat) : hi29.views i = none := rfl
attribute [go_sem] hi29a hi29v Go.Proofs.Try.ntmps29 Go.Proofs.Try.results29
theorem c_impl_FreeTie {s : GShow} {node : Int} {res : Int} (h : m_impl_FreeTie s node = some res) : CallOk Go.Proofs.Try.prog 29 [.agg [.sl (rowsOf GNode.encS s.nodes), .sl (rowsOf GTie.enc s.ties), .lit (.int .i64 s.horizon)], .lit (.int .i64 node)] [] (.lit (.int .i64 res)) [] := by
  refine callOk_of (ra := []) (md := mdT) hT (hi := hi29) Go.Proofs.Try.func29 rfl rfl (by decide +kernel) (by simp) ?_
  unfold m_impl_FreeTie at h
  obtain ⟨r1001, g1, h⟩ := obnd_some h
  simp -implicitDefEqProofs -dsimp only [go_sem]
  refine callW_of (c_impl_ShowOk g1) ?_
  rcases ite_some h with ⟨h2, h⟩ | ⟨h2, h⟩
  · obtain ⟨r1002, g3, h⟩ := obnd_some h
    simp -implicitDefEqProofs -dsimp only [go_sem, (eq_true h2), (condZ_t h2)]
    refine callW_of (c_impl_freeTie g3) ?_
    cases h
    simp -implicitDefEqProofs -dsimp only [go_sem, (eq_true h2), (condZ_t h2)]
  · cases h
    simp -implicitDefEqProofs -dsimp only [go_sem, (eq_false h2), (condZ_f h2)]
/- 30 loop.example/g00827/laws.has -/
def m_laws_has_L1_St (n : Int) (v7 : List Int) (v8 : Int) (v9 : Int) : St := ⟨[(1, .lit (.int .i64 n)), (7, .sl (rowsOf eI v7)), (8, .lit (.int .i64 v8)), (9, .lit (.int .i64 v9))], [], 2⟩
attribute [go_sem] m_laws_has_L1_St
def hi30 : Hint where
  acts := fun _ => []
  draws := fun
    | _ => ⟨.nil, [], []⟩
theorem hi30a (i : Nat) : hi30.acts i = [] := rfl
theorem hi30v (i : Nat) : hi30.views i = none := rfl
attribute [go_sem] hi30a hi30v Go.Proofs.Try.ntmps30 Go.Proofs.Try.results30
theorem c_laws_has {l : List Int} {n : Int} {res : Bool} (h : m_laws_has l n = some res) : CallOk Go.Proofs.Try.prog 30 [.sl (rowsOf eI l), .lit (.int .i64 n)] [] (.lit (.bool res)) [] := by
  refine callOk_of (ra := []) (md := mdT) hT (hi := hi30) Go.Proofs.Try.func30 rfl rfl (by decide +kernel) (by simp) ?_
  unfold m_laws_has at h
  obtain ⟨q1002, l1, h⟩ := obnd_some h
  simp -implicitDefEqProofs -dsimp only [go_sem]
  refine loopW_loopO (m1 := .mk) (m2 := .mk) [.nf [1, 7, 8, 9] []] (m_laws_has_L1_St n l ((l.length : Nat) : Int)) l1 ?_ ?_
  · simp -implicitDefEqProofs -dsimp only [go_sem]
  · intro nb2 sb2 bb2 b2 gb2
    obtain ⟨v9_1, eb2⟩ : ∃ v, v = sb2 := ⟨_, rfl⟩; subst eb2
    unfold m_laws_has_L1 at b2
    try dsimp only at b2
    rcases ite_some b2 with ⟨h3, b2⟩ | ⟨h3, b2⟩
    · obtain ⟨x1001, g4, b2⟩ := obnd_some b2
      obtain ⟨h5, h6, h7⟩ := getI_some g4
      rcases ite_some b2 with ⟨h8, b2⟩ | ⟨h8, b2⟩
      · cases b2
        have e9 := (done_of gb2).symm
        subst e9
        try dsimp only at h
        cases h
        simp -implicitDefEqProofs -dsimp only [go_sem, (eq_true h3), h5, h6, h7, (eq_true h8)]
      · cases b2
        simp -implicitDefEqProofs -dsimp only [go_sem, (eq_true h3), h5, h6, h7, (eq_false h8)]
        refine next_of gb2 ?_
        simp -implicitDefEqProofs -dsimp only [go_sem, (eq_true h3), h5, h6, h7, (eq_false h8)]
    · cases b2
      have e10 := (done_of gb2).symm
      subst e10
      try dsimp only at h
      cases h
      simp -implicitDefEqProofs -dsimp only [go_sem, (eq_false h3)]
/- 97 loop.example/g00827/spec.l29New -/
def m_spec_l29New_L1_St (n : Int) : (Int × (List Int) × Int × Int) → St
  | (i, v5_0, v5_1, v5_2) => ⟨[(1, .lit (.int .i64 n)), (5, .ptr 512 1 0 0), (6, .lit (.int .i64 i))], [(512, 1, .var [.sl (rowsOf (eK .u8) v5_0), .lit (.int .i64 v5_1), .lit (.int .i64 v5_2)])], 2⟩
attribute [go_sem] m_spec_l29New_L1_St
def hi97 : Hint where
  acts := fun _ => []
  draws := fun
    | _ => ⟨.nil, [], []⟩
theorem hi97a (i : Nat) : hi97.acts i = [] := rfl
theorem hi97v (i : Nat) : hi97.views i = none := rfl
attribute [go_sem] hi97a hi97v Go.Proofs.Try.ntmps97 Go.Proofs.Try.results97
theorem c_spec_l29New {code : List Int} {n : Int} {res : GL01Cur} (h : m_spec_l29New code n = some res) : CallOk Go.Proofs.Try.prog 97 [.sl (rowsOf (eK .u8) code), .lit (.int .i64 n)] [] (.ptr 20000 1 0 0) [(20000, 1, .var [.sl (rowsOf (eK .u8) res.b), .lit (.int .i64 res.i), .lit (.int .i64 res.h)])] := by
  refine callOk_of (ra := []) (md := mdT) hT (hi := hi97) Go.Proofs.Try.func97 rfl rfl (by decide +kernel) (by simp) ?_
  unfold m_spec_l29New at h
  obtain ⟨r1001, g1, h⟩ := obnd_some h
  simp -implicitDefEqProofs -dsimp only [go_sem]
  refine callW_of (c_spec_l01New g1) ?_
  obtain ⟨q1003, l2, h⟩ := obnd_some h
  simp -implicitDefEqProofs -dsimp only [go_sem]
  refine loopW_loopO (m1 := .mk) (m2 := .mk) [.nf [1, 5, 6] [512]] (m_spec_l29New_L1_St n) l2 ?_ ?_
  · simp -implicitDefEqProofs -dsimp only [go_sem]
  · intro nb3 sb3 bb3 b3 gb3
    obtain ⟨i_1, v5_0_1, v5_1_1, v5_2_1⟩ := sb3
    unfold m_spec_l29New_L1 at b3
    try dsimp only at b3
    rcases ite_some b3 with ⟨h4, b3⟩ | ⟨h4, b3⟩
    · obtain ⟨r1002, g5, b3⟩ := obnd_some b3
      simp -implicitDefEqProofs -dsimp only [go_sem, (eq_true h4)]
      refine callW_of (c_spec_l01Byte g5) ?_
      cases b3
      simp -implicitDefEqProofs -dsimp only [go_sem, (eq_true h4)]
      refine next_of gb3 ?_
      simp -implicitDefEqProofs -dsimp only [go_sem, (eq_true h4)]
    · cases b3
      have e6 := (done_of gb3).symm
      subst e6
      try dsimp only at h
      cases h
      simp -implicitDefEqProofs -dsimp only [go_sem, (eq_false h4)]
/- 31 loop.example/g00827/spec.MakeNum -/
def hi31 : Hint where
  acts := fun _ => []
  draws := fun
    | _ => ⟨.nil, [], []⟩
theorem hi31a (i : Nat) : hi31.acts i = [] := rfl
theorem hi31v (i : Nat) : hi31.views i = none := rfl
attribute [go_sem] hi31a hi31v Go.Proofs.Try.ntmps31 Go.Proofs.Try.results31
theorem c_spec_MakeNum {code : List Int} {n : Int} {res : Int} (h : m_spec_MakeNum code n = some res) : CallOk Go.Proofs.Try.prog 31 [.sl (rowsOf (eK .u8) code), .lit (.int .i64 n)] [] (.lit (.int .i64 res)) [] := by
  refine callOk_of (ra := []) (md := mdT) hT (hi := hi31) Go.Proofs.Try.func31 rfl rfl (by decide +kernel) (by simp) ?_
  unfold m_spec_MakeNum at h
  obtain ⟨r1001, g1, h⟩ := obnd_some h
  simp -implicitDefEqProofs -dsimp only [go_sem]
  refine callW_of (c_spec_l29New g1) ?_
  obtain ⟨r1002, g2, h⟩ := obnd_some h
  simp -implicitDefEqProofs -dsimp only [go_sem]
  refine callW_of (c_spec_l01Byte g2) ?_
  obtain ⟨r1003, g3, h⟩ := obnd_some h
  simp -implicitDefEqProofs -dsimp only [go_sem]
  refine callW_of (c_spec_l01Byte g3) ?_
  cases h
  simp -implicitDefEqProofs -dsimp only [go_sem]
/- 99 loop.example/g00827/impl.isUpTo -/
def hi99 : Hint where
  acts := fun _ => []
  draws := fun
    | _ => ⟨.nil, [], []⟩
theorem hi99a (i : Nat) : hi99.acts i = [] := rfl
theorem hi99v (i : Nat) : hi99.views i = none := rfl
attribute [go_sem] hi99a hi99v Go.Proofs.Try.ntmps99 Go.Proofs.Try.results99
theorem c_impl_isUpTo {n : Int} {most : Int} {res : Bool} (h : m_impl_isUpTo n most = some res) : CallOk Go.Proofs.Try.prog 99 [.lit (.int .i64 n), .lit (.int .i64 most)] [] (.lit (.bool res)) [] := by
  refine callOk_of (ra := []) (md := mdT) hT (hi := hi99) Go.Proofs.Try.func99 rfl rfl (by decide +kernel) (by simp) ?_
  unfold m_impl_isUpTo at h
  rcases ite_some h with ⟨h1, h⟩ | ⟨h1, h⟩
  · cases h
    simp -implicitDefEqProofs -dsimp only [go_sem, (eq_true h1)]
  · cases h
    simp -implicitDefEqProofs -dsimp only [go_sem, (eq_false h1)]
/- 163 slices.Clone[[]loop.example/g00827/impl.Tie,loop.example/g00827/impl.Tie] -/
def hi163 : Hint where
  acts := fun _ => []
  draws := fun
    | _ => ⟨.nil, [], []⟩
theorem hi163a (i : Nat) : hi163.acts i = [] := rfl
theorem hi163v (i : Nat) : hi163.views i = none := rfl
attribute [go_sem] hi163a hi163v Go.Proofs.Try.ntmps163 Go.Proofs.Try.results163
theorem c_slices_Clone_Tie {v0 : List GTie} {res : List GTie} (h : m_slices_Clone_Tie v0 = some res) : CallOk Go.Proofs.Try.prog 163 [.sl (rowsOf GTie.enc v0)] [] (.ref 20000 1 0 res.length) [(20000, 1, .row true (rowsOf GTie.enc res))] := by
  refine callOk_of (ra := [.home 2]) (md := mdT) hT (hi := hi163) Go.Proofs.Try.func163 rfl rfl (by decide +kernel) (by simp) ?_
  unfold m_slices_Clone_Tie at h
  rcases nilQ_some h with ⟨h1, h3, h2⟩ | ⟨h1, h3⟩
  · cases h3
    simp -implicitDefEqProofs -dsimp only [go_sem, h1]
  · obtain ⟨h4, h3⟩ := chk_some h3
    obtain ⟨h5, h3⟩ := chk_some h3
    cases h3
    simp -implicitDefEqProofs -dsimp only [go_sem, evIsNil_ne h1, (eq_true h4), (eq_true h5)]
/- 88 slices.Clone[[]int,int] -/
def hi88 : Hint where
  acts := fun _ => []
  draws := fun
    | _ => ⟨.nil, [], []⟩
theorem hi88a (i : Nat) : hi88.acts i = [] := rfl
theorem hi88v (i : Nat) : hi88.views i = none := rfl
attribute [go_sem] hi88a hi88v Go.Proofs.Try.ntmps88 Go.Proofs.Try.results88
theorem c_slices_Clone_int {v0 : List Int} {res : List Int} (h : m_slices_Clone_int v0 = some res) : CallOk Go.Proofs.Try.prog 88 [.sl (rowsOf eI v0)] [] (.ref 20000 1 0 res.length) [(20000, 1, .row true (rowsOf eI res))] := by
  refine callOk_of (ra := [.home 2]) (md := mdT) hT (hi := hi88) Go.Proofs.Try.func88 rfl rfl (by decide +kernel) (by simp) ?_
  unfold m_slices_Clone_int at h
  rcases nilQ_some h with ⟨h1, h3, h2⟩ | ⟨h1, h3⟩
  · cases h3
    simp -implicitDefEqProofs -dsimp only [go_sem, h1]
  · obtain ⟨h4, h3⟩ := chk_some h3
    obtain ⟨h5, h3⟩ := chk_some h3
    cases h3
    simp -implicitDefEqProofs -dsimp only [go_sem, evIsNil_ne h1, (eq_true h4), (eq_true h5)]
/- 101 loop.example/g00827/impl.copyShow -/
def m_impl_copyShow_L1_St (v13 : List GNode) (v14 : Int) (out_2 : Int) (h512 : List GTie) : (Int × (List GNode)) → St
  | (v15, h100012288) => ⟨[(2, .ptr 128 1 0 0), (3, .ptr 192 1 0 0), (13, .sl (rowsOf GNode.encS v13)), (14, .lit (.int .i64 v14)), (15, .lit (.int .i64 v15))], [(128, 1, .var [.lit (.slice none 0 0), .lit (.slice none 0 0), .lit (.int .i64 0)]), (192, 1, .var [.ref 100012288 1 0 h100012288.length, .ref 512 1 0 h512.length, .lit (.int .i64 out_2)]), (100012288, 1, .row true (rowsOf GNode.encO h100012288)), (512, 1, .row true (rowsOf GTie.enc h512))], 2⟩
attribute [go_sem] m_impl_copyShow_L1_St
def hi101 : Hint where
  acts := fun _ => []
  draws := fun
    | 1 => ⟨.cons ⟨0, true, []⟩ (.cons ⟨1, true, []⟩ (.cons ⟨3, true, []⟩ (.cons ⟨4, true, []⟩ (.fork (.cons ⟨2, false, [3, 4]⟩ (.cons ⟨5, false, []⟩ (.cons ⟨6, false, [0, 1, 3, 4]⟩ (.cons ⟨7, false, []⟩ .nil)))) (.cons ⟨6, false, [0, 1, 3, 4]⟩ (.cons ⟨2, false, [3, 4]⟩ (.cons ⟨5, false, []⟩ (.cons ⟨7, false, []⟩ .nil)))))))), [[], [0], [0, 1], [], [3], [0, 1, 2, 3, 4], [], [0, 1, 2, 3, 4, 5, 6]], [0, 1, 2, 3, 4, 5, 6, 7]⟩
    | _ => ⟨.nil, [], []⟩
theorem hi101a (i : Nat) : hi101.acts i = [] := rfl
theorem hi101v (i : Nat) : hi101.views i = none := rfl
attribute [go_sem] hi101a hi101v Go.Proofs.Try.ntmps101 Go.Proofs.Try.results101
@[go_sem] theorem hi101d1 : (hi101.draws 1).order = .cons ⟨0, true, []⟩ (.cons ⟨1, true, []⟩ (.cons ⟨3, true, []⟩ (.cons ⟨4, true, []⟩ (.fork (.cons ⟨2, false, [3, 4]⟩ (.cons ⟨5, false, []⟩ (.cons ⟨6, false, [0, 1, 3, 4]⟩ (.cons ⟨7, false, []⟩ .nil)))) (.cons ⟨6, false, [0, 1, 3, 4]⟩ (.cons ⟨2, false, [3, 4]⟩ (.cons ⟨5, false, []⟩ (.cons ⟨7, false, []⟩ .nil)))))))) := rfl
theorem c_impl_copyShow {s : GShow} {res : GShow} (h : m_impl_copyShow s = some res) : CallOk Go.Proofs.Try.prog 101 [.agg [.sl (rowsOf GNode.encS s.nodes), .sl (rowsOf GTie.enc s.ties), .lit (.int .i64 s.horizon)]] [] (.agg [.ref 20000 1 0 res.nodes.length, .ref 20001 1 0 res.ties.length, .lit (.int .i64 res.horizon)]) [(20000, 1, .row true (rowsOf GNode.encO res.nodes)), (20001, 1, .row true (rowsOf GTie.enc res.ties))] := by
  refine callOk_of (ra := [.homeCell 128 0, .homeCell 128 1]) (md := mdT) hT (hi := hi101) Go.Proofs.Try.func101 rfl rfl (by decide +kernel) (by simp) ?_
  unfold m_impl_copyShow at h
  try simp -implicitDefEqProofs -dsimp only [go_sem]
  refine zforkI ?_ ?_
  · obtain ⟨r1001, g1, h⟩ := obnd_some h
    simp -implicitDefEqProofs -dsimp only [go_sem]
    refine callW_of (c_slices_Clone_Tie g1) ?_
    obtain ⟨q1004, l2, h⟩ := obnd_some h
    simp -implicitDefEqProofs -dsimp only [go_sem]
    refine loopW_loopO (m1 := .mk) (m2 := .mk) [.homeCell 192 0, .nf [2, 3, 13, 14, 15] [128, 192, 100012288, 512]] (m_impl_copyShow_L1_St s.nodes ((s.nodes.length : Nat) : Int) s.horizon r1001) l2 ?_ ?_
    · simp -implicitDefEqProofs -dsimp only [go_sem]
    · intro nb3 sb3 bb3 b3 gb3
      obtain ⟨v15_1, h100012288_1⟩ := sb3
      unfold m_impl_copyShow_L1 at b3
      try dsimp only at b3
      rcases ite_some b3 with ⟨h4, b3⟩ | ⟨h4, b3⟩
      · obtain ⟨x1002, g5, b3⟩ := obnd_some b3
        obtain ⟨h6, h7, h8⟩ := getI_some g5
        obtain ⟨r1003, g9, b3⟩ := obnd_some b3
        simp -implicitDefEqProofs -dsimp only [go_sem, (eq_true h4), h6, h7, h8]
        refine callW_of (c_slices_Clone_int g9) ?_
        obtain ⟨h10, b3⟩ := chk_some b3
        obtain ⟨h11, b3⟩ := chk_some b3
        cases b3
        simp -implicitDefEqProofs -dsimp only [go_sem, (eq_true h4), h6, h7, h8, (eq_true h10), (eq_true h11)]
        refine next_of gb3 ?_
        simp -implicitDefEqProofs -dsimp only [go_sem, (eq_true h4), h6, h7, h8, (eq_true h10), (eq_true h11)]
      · cases b3
        have e12 := (done_of gb3).symm
        subst e12
        try dsimp only at h
        cases h
        simp -implicitDefEqProofs -dsimp only [go_sem, (eq_false h4)]
  · obtain ⟨r1005, g13, h⟩ := obnd_some h
    simp -implicitDefEqProofs -dsimp only [go_sem]
    refine callW_of (c_slices_Clone_Tie g13) ?_
    obtain ⟨q1008, l14, h⟩ := obnd_some h
    simp -implicitDefEqProofs -dsimp only [go_sem]
    refine loopW_loopO (m1 := .mk) (m2 := .mk) [.homeCell 192 0, .nf [2, 3, 13, 14, 15] [128, 192, 100012288, 512]] (m_impl_copyShow_L1_St s.nodes ((s.nodes.length : Nat) : Int) s.horizon r1005) l14 ?_ ?_
    · simp -implicitDefEqProofs -dsimp only [go_sem]
    · intro nb15 sb15 bb15 b15 gb15
      obtain ⟨v15_2, h100012288_2⟩ := sb15
      unfold m_impl_copyShow_L1 at b15
      try dsimp only at b15
      rcases ite_some b15 with ⟨h16, b15⟩ | ⟨h16, b15⟩
      · obtain ⟨x1006, g17, b15⟩ := obnd_some b15
        obtain ⟨h18, h19, h20⟩ := getI_some g17
        obtain ⟨r1007, g21, b15⟩ := obnd_some b15
        simp -implicitDefEqProofs -dsimp only [go_sem, (eq_true h16), h18, h19, h20]
        refine callW_of (c_slices_Clone_int g21) ?_
        obtain ⟨h22, b15⟩ := chk_some b15
        obtain ⟨h23, b15⟩ := chk_some b15
        cases b15
        simp -implicitDefEqProofs -dsimp only [go_sem, (eq_true h16), h18, h19, h20, (eq_true h22), (eq_true h23)]
        refine next_of gb15 ?_
        simp -implicitDefEqProofs -dsimp only [go_sem, (eq_true h16), h18, h19, h20, (eq_true h22), (eq_true h23)]
      · cases b15
        have e24 := (done_of gb15).symm
        subst e24
        try dsimp only at h
        cases h
        simp -implicitDefEqProofs -dsimp only [go_sem, (eq_false h16)]
/- 32 loop.example/g00827/impl.SkewShow -/
def m_impl_SkewShow_L1_St (second : List Int) (by_ : Int) (v23 : Int) (s_0 : List GNode) (s_1 : List GTie) (s_2 : Int) (v24 : Int) : St := ⟨[(1, .sl (rowsOf eI second)), (2, .lit (.int .i64 by_)), (3, .ptr 192 1 0 0), (6, .ptr 384 1 0 0), (22, .sl (rowsOf eI second)), (23, .lit (.int .i64 v23)), (24, .lit (.int .i64 v24))], [(192, 1, .var [.sl (rowsOf GNode.encS s_0), .sl (rowsOf GTie.enc s_1), .lit (.int .i64 s_2)]), (384, 1, .var [.lit (.slice none 0 0), .lit (.slice none 0 0), .lit (.int .i64 0)])], 2⟩
attribute [go_sem] m_impl_SkewShow_L1_St
def m_impl_SkewShow_L2_St (second : List Int) (by_ : Int) (v54 : Int) (out_2 : Int) (h3264 : List GNode) : (Int × (List GTie)) → St
  | (v55, v53) => ⟨[(1, .sl (rowsOf eI second)), (2, .lit (.int .i64 by_)), (6, .ptr 384 1 0 0), (10, .ptr 640 1 0 0), (53, .ref 3265 1 0 v53.length), (54, .lit (.int .i64 v54)), (55, .lit (.int .i64 v55))], [(384, 1, .var [.lit (.slice none 0 0), .lit (.slice none 0 0), .lit (.int .i64 0)]), (640, 1, .var [.ref 3264 1 0 h3264.length, .ref 3265 1 0 v53.length, .lit (.int .i64 out_2)]), (3264, 1, .row true (rowsOf GNode.encO h3264)), (3265, 1, .row true (rowsOf GTie.enc v53))], 2⟩
attribute [go_sem] m_impl_SkewShow_L2_St
def hi32 : Hint where
  acts := fun _ => []
  draws := fun
    | 13 => ⟨.cons ⟨0, false, []⟩ (.cons ⟨1, false, []⟩ (.cons ⟨2, false, []⟩ (.cons ⟨4, false, []⟩ (.cons ⟨5, true, []⟩ (.cons ⟨6, true, []⟩ (.cons ⟨3, false, [5, 6]⟩ (.cons ⟨7, false, []⟩ (.cons ⟨8, false, []⟩ .nil)))))))), [[], [], [1], [0, 1, 2], [], [], [5], [0, 1, 2, 3, 4, 5, 6], [0, 1, 2, 3, 4, 5, 6, 7]], [0, 1, 2, 3, 4, 5, 6, 7, 8]⟩
    | 16 => ⟨.cons ⟨0, false, []⟩ (.cons ⟨1, false, []⟩ (.cons ⟨2, false, []⟩ (.cons ⟨3, true, []⟩ (.cons ⟨4, true, []⟩ (.cons ⟨5, false, []⟩ (.cons ⟨6, false, []⟩ (.cons ⟨7, false, []⟩ (.cons ⟨8, false, []⟩ (.cons ⟨9, false, []⟩ (.cons ⟨10, true, []⟩ (.cons ⟨11, true, []⟩ (.cons ⟨12, false, []⟩ (.cons ⟨13, false, []⟩ (.cons ⟨14, false, []⟩ (.cons ⟨15, false, []⟩ (.cons ⟨16, false, [3, 4, 10, 11]⟩ (.cons ⟨17, false, []⟩ (.cons ⟨18, false, []⟩ (.cons ⟨19, false, []⟩ .nil))))))))))))))))))), [[], [0], [], [], [3], [], [], [6], [], [6, 7, 8], [], [10], [], [10, 11, 12], [0, 1, 2, 6, 7, 8, 9], [0, 1, 2, 6, 7, 8, 9, 14], [0, 1, 2, 6, 7, 8, 9, 14, 15], [0, 1, 2, 3, 4, 5, 6, 7, 8, 9, 10, 11, 12, 13, 14, 15, 16], [0, 1, 2, 3, 4, 5, 6, 7, 8, 9, 10, 11, 12, 13, 14, 15, 16, 17], [0, 1, 2, 3, 4, 5, 6, 7, 8, 9, 10, 11, 12, 13, 14, 15, 16, 17, 18]], [0, 1, 2, 10, 11, 12, 3, 4, 5, 6, 13, 14, 15, 16, 7, 8, 9, 17, 18, 19]⟩
    | _ => ⟨.nil, [], []⟩
theorem hi32a (i : Nat) : hi32.acts i = [] := rfl
theorem hi32v (i : Nat) : hi32.views i = none := rfl
attribute [go_sem] hi32a hi32v Go.Proofs.Try.ntmps32 Go.Proofs.Try.results32
@[go_sem] theorem hi32d13 : (hi32.draws 13).order = .cons ⟨0, false, []⟩ (.cons ⟨1, false, []⟩ (.cons ⟨2, false, []⟩ (.cons ⟨4, false, []⟩ (.cons ⟨5, true, []⟩ (.cons ⟨6, true, []⟩ (.cons ⟨3, false, [5, 6]⟩ (.cons ⟨7, false, []⟩ (.cons ⟨8, false, []⟩ .nil)))))))) := rfl
@[go_sem] theorem hi32d16 : (hi32.draws 16).order = .cons ⟨0, false, []⟩ (.cons ⟨1, false, []⟩ (.cons ⟨2, false, []⟩ (.cons ⟨3, true, []⟩ (.cons ⟨4, true, []⟩ (.cons ⟨5, false, []⟩ (.cons ⟨6, false, []⟩ (.cons ⟨7, false, []⟩ (.cons ⟨8, false, []⟩ (.cons ⟨9, false, []⟩ (.cons ⟨10, true, []⟩ (.cons ⟨11, true, []⟩ (.cons ⟨12, false, []⟩ (.cons ⟨13, false, []⟩ (.cons ⟨14, false, []⟩ (.cons ⟨15, false, []⟩ (.cons ⟨16, false, [3, 4, 10, 11]⟩ (.cons ⟨17, false, []⟩ (.cons ⟨18, false, []⟩ (.cons ⟨19, false, []⟩ .nil))))))))))))))))))) := rfl
theorem c_impl_SkewShow {s : GShow} {second : List Int} {by_ : Int} {res : GShow × Bool} (h : m_impl_SkewShow s second by_ = some res) : CallOk Go.Proofs.Try.prog 32 [.agg [.sl (rowsOf GNode.encS s.nodes), .sl (rowsOf GTie.enc s.ties), .lit (.int .i64 s.horizon)], .sl (rowsOf eI second), .lit (.int .i64 by_)] [] (.tup [.agg [.ref 20000 1 0 res.1.nodes.length, .ref 20001 1 0 res.1.ties.length, .lit (.int .i64 res.1.horizon)], .lit (.bool res.2)]) [(20000, 1, .row true (rowsOf GNode.encO res.1.nodes)), (20001, 1, .row true (rowsOf GTie.enc res.1.ties))] := by
  refine callOk_of (ra := [.homeCell 384 0, .homeCell 384 1]) (md := mdT) hT (hi := hi32) Go.Proofs.Try.func32 rfl rfl (by decide +kernel) (by simp) ?_
  unfold m_impl_SkewShow at h
  obtain ⟨r1001, g1, h⟩ := obnd_some h
  simp -implicitDefEqProofs -dsimp only [go_sem]
  refine callW_of (c_impl_ShowOk g1) ?_
  rcases ite_some h with ⟨h2, h⟩ | ⟨h2, h⟩
  · obtain ⟨r1002, g3, h⟩ := obnd_some h
    simp -implicitDefEqProofs -dsimp only [go_sem, (eq_true h2), (condZ_t h2)]
    refine callW_of (c_impl_isUpTo g3) ?_
    rcases ite_some h with ⟨h4, h⟩ | ⟨h4, h⟩
    · obtain ⟨q1013, l5, h⟩ := obnd_some h
      simp -implicitDefEqProofs -dsimp only [go_sem, (eq_true h2), (condZ_t h2), (eq_true h4), (condZ_t h4)]
      refine loopW_loopO (m1 := .mk) (m2 := .mk) [.nf [1, 2, 3, 6, 22, 23, 24] [192, 384]] (m_impl_SkewShow_L1_St second by_ ((second.length : Nat) : Int) s.nodes s.ties s.horizon) l5 ?_ ?_
      · simp -implicitDefEqProofs -dsimp only [go_sem, (eq_true h2), (condZ_t h2), (eq_true h4), (condZ_t h4)]
      · intro nb6 sb6 bb6 b6 gb6
        obtain ⟨v24_1, eb6⟩ : ∃ v, v = sb6 := ⟨_, rfl⟩; subst eb6
        unfold m_impl_SkewShow_L1 at b6
        try dsimp only at b6
        rcases ite_some b6 with ⟨h7, b6⟩ | ⟨h7, b6⟩
        · obtain ⟨x1003, g8, b6⟩ := obnd_some b6
          obtain ⟨h9, h10, h11⟩ := getI_some g8
          obtain ⟨r1004, g12, b6⟩ := obnd_some b6
          simp -implicitDefEqProofs -dsimp only [go_sem, (eq_true h2), (condZ_t h2), (eq_true h4), (condZ_t h4), (eq_true h7), h9, h10, h11]
          refine callW_of (c_impl_isNode g12) ?_
          rcases ite_some b6 with ⟨h13, b6⟩ | ⟨h13, b6⟩
          · rcases ite_some b6 with ⟨h14, b6⟩ | ⟨h14, b6⟩
            · obtain ⟨x1005, g15, b6⟩ := obnd_some b6
              obtain ⟨h16, h17, h18⟩ := getI_some g15
              rcases ite_some b6 with ⟨h19, b6⟩ | ⟨h19, b6⟩
              · cases b6
                have e20 := (done_of gb6).symm
                subst e20
                try dsimp only at h
                cases h
                simp -implicitDefEqProofs -dsimp only [go_sem, (eq_true h2), (condZ_t h2), (eq_true h4), (condZ_t h4), (eq_true h7), h9, h10, h11, (eq_true h13), (condZ_t h13), (eq_true h14), h16, h17, h18, (eq_true h19)]
              · cases b6
                simp -implicitDefEqProofs -dsimp only [go_sem, (eq_true h2), (condZ_t h2), (eq_true h4), (condZ_t h4), (eq_true h7), h9, h10, h11, (eq_true h13), (condZ_t h13), (eq_true h14), h16, h17, h18, (eq_false h19)]
                refine next_of gb6 ?_
                simp -implicitDefEqProofs -dsimp only [go_sem, (eq_true h2), (condZ_t h2), (eq_true h4), (condZ_t h4), (eq_true h7), h9, h10, h11, (eq_true h13), (condZ_t h13), (eq_true h14), h16, h17, h18, (eq_false h19)]
            · cases b6
              simp -implicitDefEqProofs -dsimp only [go_sem, (eq_true h2), (condZ_t h2), (eq_true h4), (condZ_t h4), (eq_true h7), h9, h10, h11, (eq_true h13), (condZ_t h13), (eq_false h14)]
              refine next_of gb6 ?_
              simp -implicitDefEqProofs -dsimp only [go_sem, (eq_true h2), (condZ_t h2), (eq_true h4), (condZ_t h4), (eq_true h7), h9, h10, h11, (eq_true h13), (condZ_t h13), (eq_false h14)]
          · cases b6
            have e21 := (done_of gb6).symm
            subst e21
            try dsimp only at h
            cases h
            simp -implicitDefEqProofs -dsimp only [go_sem, (eq_true h2), (condZ_t h2), (eq_true h4), (condZ_t h4), (eq_true h7), h9, h10, h11, (eq_false h13), (condZ_f h13)]
        · cases b6
          have e22 := (done_of gb6).symm
          subst e22
          try dsimp only at h
          obtain ⟨r1006, g23, h⟩ := obnd_some h
          simp -implicitDefEqProofs -dsimp only [go_sem, (eq_true h2), (condZ_t h2), (eq_true h4), (condZ_t h4), (eq_false h7)]
          refine callW_of (c_impl_copyShow g23) ?_
          obtain ⟨q1012, l24, h⟩ := obnd_some h
          simp -implicitDefEqProofs -dsimp only [go_sem, (eq_true h2), (condZ_t h2), (eq_true h4), (condZ_t h4), (eq_false h7)]
          refine loopW_loopO (m1 := .mk) (m2 := .mk) [.nf [1, 2, 6, 10, 53, 54, 55] [384, 640, 3264, 3265]] (m_impl_SkewShow_L2_St second by_ ((r1006.ties.length : Nat) : Int) r1006.horizon r1006.nodes) l24 ?_ ?_
          · simp -implicitDefEqProofs -dsimp only [go_sem, (eq_true h2), (condZ_t h2), (eq_true h4), (condZ_t h4), (eq_false h7)]
          · intro nb25 sb25 bb25 b25 gb25
            obtain ⟨v55_2, v53_2⟩ := sb25
            unfold m_impl_SkewShow_L2 at b25
            try dsimp only at b25
            rcases ite_some b25 with ⟨h26, b25⟩ | ⟨h26, b25⟩
            · obtain ⟨x1007, g27, b25⟩ := obnd_some b25
              obtain ⟨h28, h29, h30⟩ := getI_some g27
              obtain ⟨r1008, g31, b25⟩ := obnd_some b25
              simp -implicitDefEqProofs -dsimp only [go_sem, (eq_true h2), (condZ_t h2), (eq_true h4), (condZ_t h4), (eq_false h7), (eq_true h26), h28, h29, h30]
              refine callW_of (c_slices_Contains_int g31) ?_
              obtain ⟨r1009, g32, b25⟩ := obnd_some b25
              simp -implicitDefEqProofs -dsimp only [go_sem, (eq_true h2), (condZ_t h2), (eq_true h4), (condZ_t h4), (eq_false h7), (eq_true h26), h28, h29, h30]
              refine callW_of (c_slices_Contains_int g32) ?_
              rcases ite_some b25 with ⟨h33, b25⟩ | ⟨h33, b25⟩
              · cases b25
                simp -implicitDefEqProofs -dsimp only [go_sem, (eq_true h2), (condZ_t h2), (eq_true h4), (condZ_t h4), (eq_false h7), (eq_true h26), h28, h29, h30, (eq_true h33)]
                refine next_of gb25 ?_
                simp -implicitDefEqProofs -dsimp only [go_sem, (eq_true h2), (condZ_t h2), (eq_true h4), (condZ_t h4), (eq_false h7), (eq_true h26), h28, h29, h30, (eq_true h33)]
              · rcases ite_some b25 with ⟨h34, b25⟩ | ⟨h34, b25⟩
                · cases b25
                  have e35 := (done_of gb25).symm
                  subst e35
                  try dsimp only at h
                  cases h
                  simp -implicitDefEqProofs -dsimp only [go_sem, (eq_true h2), (condZ_t h2), (eq_true h4), (condZ_t h4), (eq_false h7), (eq_true h26), h28, h29, h30, (eq_false h33), (eq_true h34), (condZ_t h34)]
                · obtain ⟨x1010, g36, b25⟩ := obnd_some b25
                  obtain ⟨h37, h38, h39⟩ := getI_some g36
                  cases b25
                  simp -implicitDefEqProofs -dsimp only [go_sem, (eq_true h2), (condZ_t h2), (eq_true h4), (condZ_t h4), (eq_false h7), (eq_true h26), h28, h29, h30, (eq_false h33), (eq_false h34), (condZ_f h34), h37, h38, h39]
                  refine next_of gb25 ?_
                  simp -implicitDefEqProofs -dsimp only [go_sem, (eq_true h2), (condZ_t h2), (eq_true h4), (condZ_t h4), (eq_false h7), (eq_true h26), h28, h29, h30, (eq_false h33), (eq_false h34), (condZ_f h34), h37, h38, h39]
            · cases b25
              have e40 := (done_of gb25).symm
              subst e40
              try dsimp only at h
              obtain ⟨r1011, g41, h⟩ := obnd_some h
              simp -implicitDefEqProofs -dsimp only [go_sem, (eq_true h2), (condZ_t h2), (eq_true h4), (condZ_t h4), (eq_false h7), (eq_false h26)]
              refine callW_of (c_impl_ShowOk g41) ?_
              rcases ite_some h with ⟨h42, h⟩ | ⟨h42, h⟩
              · cases h
                simp -implicitDefEqProofs -dsimp only [go_sem, (eq_true h2), (condZ_t h2), (eq_true h4), (condZ_t h4), (eq_false h7), (eq_false h26), (eq_true h42), (condZ_t h42)]
              · cases h
                simp -implicitDefEqProofs -dsimp only [go_sem, (eq_true h2), (condZ_t h2), (eq_true h4), (condZ_t h4), (eq_false h7), (eq_false h26), (eq_false h42), (condZ_f h42)]
    · cases h
      simp -implicitDefEqProofs -dsimp only [go_sem, (eq_true h2), (condZ_t h2), (eq_false h4), (condZ_f h4)]
  · cases h
    simp -implicitDefEqProofs -dsimp only [go_sem, (eq_false h2), (condZ_f h2)]
/- 33 loop.example/g00827/spec.MakeTimes -/
def m_spec_MakeTimes_L1_St (n : Int) : ((List Int) × Int × Int × (List Int)) → St
  | (v7_0, v7_1, v7_2, t) => ⟨[(2, .lit (.int .i64 n)), (7, .ptr 704 1 0 0), (8, .ref 768 1 0 t.length)], [(704, 1, .var [.sl (rowsOf (eK .u8) v7_0), .lit (.int .i64 v7_1), .lit (.int .i64 v7_2)]), (768, 1, .row true (rowsOf eI t))], 2⟩
attribute [go_sem] m_spec_MakeTimes_L1_St
def hi33 : Hint where
  acts := fun _ => []
  draws := fun
    | _ => ⟨.nil, [], []⟩
theorem hi33a (i : Nat) : hi33.acts i = [] := rfl
theorem hi33v (i : Nat) : hi33.views i = none := rfl
attribute [go_sem] hi33a hi33v Go.Proofs.Try.ntmps33 Go.Proofs.Try.results33
theorem c_spec_MakeTimes {code : List Int} {at_ : Int} {n : Int} {res : List Int} (h : m_spec_MakeTimes code at_ n = some res) : CallOk Go.Proofs.Try.prog 33 [.sl (rowsOf (eK .u8) code), .lit (.int .i64 at_), .lit (.int .i64 n)] [] (.ref 20000 1 0 res.length) [(20000, 1, .row true (rowsOf eI res))] := by
  refine callOk_of (ra := [.home 6]) (md := mdT) hT (hi := hi33) Go.Proofs.Try.func33 rfl rfl (by decide +kernel) (by simp) ?_
  unfold m_spec_MakeTimes at h
  obtain ⟨r1001, g1, h⟩ := obnd_some h
  simp -implicitDefEqProofs -dsimp only [go_sem]
  refine callW_of (c_spec_l29New g1) ?_
  obtain ⟨q1003, l2, h⟩ := obnd_some h
  simp -implicitDefEqProofs -dsimp only [go_sem]
  refine loopW_loopO (m1 := .mk) (m2 := .mk) [.nf [2, 7, 8] [704, 768]] (m_spec_MakeTimes_L1_St n) l2 ?_ ?_
  · simp -implicitDefEqProofs -dsimp only [go_sem]
  · intro nb3 sb3 bb3 b3 gb3
    obtain ⟨v7_0_1, v7_1_1, v7_2_1, t_1⟩ := sb3
    unfold m_spec_MakeTimes_L1 at b3
    try dsimp only at b3
    rcases ite_some b3 with ⟨h4, b3⟩ | ⟨h4, b3⟩
    · obtain ⟨r1002, g5, b3⟩ := obnd_some b3
      simp -implicitDefEqProofs -dsimp only [go_sem, (eq_true h4)]
      refine callW_of (c_spec_l01Below g5) ?_
      obtain ⟨h6, b3⟩ := chk_some b3
      obtain ⟨h7, b3⟩ := chk_some b3
      cases b3
      simp -implicitDefEqProofs -dsimp only [go_sem, (eq_true h4), (eq_true h6), (eq_true h7)]
      refine next_of gb3 ?_
      simp -implicitDefEqProofs -dsimp only [go_sem, (eq_true h4), (eq_true h6), (eq_true h7)]
    · cases b3
      have e8 := (done_of gb3).symm
      subst e8
      try dsimp only at h
      cases h
      simp -implicitDefEqProofs -dsimp only [go_sem, (eq_false h4)]
/- 22 loop.example/g00827/impl.ShiftTimes -/
def m_impl_ShiftTimes_L1_St (second : List Int) (by_ : Int) (v20 : List Int) (v21 : Int) : (Int × (List Int)) → St
  | (v22, out) => ⟨[(2, .sl (rowsOf eI second)), (3, .lit (.int .i64 by_)), (9, .ref 1216 1 0 out.length), (20, .sl (rowsOf eI v20)), (21, .lit (.int .i64 v21)), (22, .lit (.int .i64 v22))], [(1216, 1, .row true (rowsOf eI out))], 2⟩
attribute [go_sem] m_impl_ShiftTimes_L1_St
def hi22 : Hint where
  acts := fun _ => []
  draws := fun
    | _ => ⟨.nil, [], []⟩
theorem hi22a (i : Nat) : hi22.acts i = [] := rfl
theorem hi22v (i : Nat) : hi22.views i = none := rfl
attribute [go_sem] hi22a hi22v Go.Proofs.Try.ntmps22 Go.Proofs.Try.results22
theorem c_impl_ShiftTimes {s : GShow} {times : List Int} {second : List Int} {by_ : Int} {res : List Int} (h : m_impl_ShiftTimes s times second by_ = some res) : CallOk Go.Proofs.Try.prog 22 [.agg [.sl (rowsOf GNode.encS s.nodes), .sl (rowsOf GTie.enc s.ties), .lit (.int .i64 s.horizon)], .sl (rowsOf eI times), .sl (rowsOf eI second), .lit (.int .i64 by_)] [] (.ref 20000 1 0 res.length) [(20000, 1, .row true (rowsOf eI res))] := by
  refine callOk_of (ra := [.home 8]) (md := mdT) hT (hi := hi22) Go.Proofs.Try.func22 rfl rfl (by decide +kernel) (by simp) ?_
  unfold m_impl_ShiftTimes at h
  rcases ite_some h with ⟨h1, h⟩ | ⟨h1, h⟩
  · obtain ⟨r1001, g2, h⟩ := obnd_some h
    simp -implicitDefEqProofs -dsimp only [go_sem, (eq_true h1)]
    refine callW_of (c_slices_Clone_int g2) ?_
    obtain ⟨q1005, l3, h⟩ := obnd_some h
    simp -implicitDefEqProofs -dsimp only [go_sem, (eq_true h1)]
    refine loopW_loopO (m1 := .mk) (m2 := .mk) [.nf [2, 3, 9, 20, 21, 22] [1216]] (m_impl_ShiftTimes_L1_St second by_ times ((times.length : Nat) : Int)) l3 ?_ ?_
    · simp -implicitDefEqProofs -dsimp only [go_sem, (eq_true h1)]
    · intro nb4 sb4 bb4 b4 gb4
      obtain ⟨v22_1, out_1⟩ := sb4
      unfold m_impl_ShiftTimes_L1 at b4
      try dsimp only at b4
      rcases ite_some b4 with ⟨h5, b4⟩ | ⟨h5, b4⟩
      · obtain ⟨x1002, g6, b4⟩ := obnd_some b4
        obtain ⟨h7, h8, h9⟩ := getI_some g6
        rcases ite_some b4 with ⟨h10, b4⟩ | ⟨h10, b4⟩
        · cases b4
          simp -implicitDefEqProofs -dsimp only [go_sem, (eq_true h1), (eq_true h5), h7, h8, h9, (eq_true h10)]
          refine next_of gb4 ?_
          simp -implicitDefEqProofs -dsimp only [go_sem, (eq_true h1), (eq_true h5), h7, h8, h9, (eq_true h10)]
        · obtain ⟨r1003, g11, b4⟩ := obnd_some b4
          simp -implicitDefEqProofs -dsimp only [go_sem, (eq_true h1), (eq_true h5), h7, h8, h9, (eq_false h10)]
          refine callW_of (c_slices_Contains_int g11) ?_
          rcases ite_some b4 with ⟨h12, b4⟩ | ⟨h12, b4⟩
          · obtain ⟨x1004, g13, b4⟩ := obnd_some b4
            obtain ⟨h14, h15, h16⟩ := getI_some g13
            cases b4
            simp -implicitDefEqProofs -dsimp only [go_sem, (eq_true h1), (eq_true h5), h7, h8, h9, (eq_false h10), (eq_true h12), (condZ_t h12), h14, h15, h16]
            refine next_of gb4 ?_
            simp -implicitDefEqProofs -dsimp only [go_sem, (eq_true h1), (eq_true h5), h7, h8, h9, (eq_false h10), (eq_true h12), (condZ_t h12), h14, h15, h16]
          · cases b4
            simp -implicitDefEqProofs -dsimp only [go_sem, (eq_true h1), (eq_true h5), h7, h8, h9, (eq_false h10), (eq_false h12), (condZ_f h12)]
            refine next_of gb4 ?_
            simp -implicitDefEqProofs -dsimp only [go_sem, (eq_true h1), (eq_true h5), h7, h8, h9, (eq_false h10), (eq_false h12), (condZ_f h12)]
      · cases b4
        have e17 := (done_of gb4).symm
        subst e17
        try dsimp only at h
        cases h
        simp -implicitDefEqProofs -dsimp only [go_sem, (eq_true h1), (eq_false h5)]
  · cases h
    simp -implicitDefEqProofs -dsimp only [go_sem, (eq_false h1)]
/- 36 loop.example/g00827/impl.MarginOf -/
def hi36 : Hint where
  acts := fun _ => []
  draws := fun
    | 4 => ⟨.cons ⟨0, false, []⟩ (.cons ⟨1, false, []⟩ (.cons ⟨2, false, []⟩ (.cons ⟨3, false, []⟩ (.cons ⟨4, false, []⟩ (.cons ⟨5, false, []⟩ (.cons ⟨6, false, []⟩ (.cons ⟨7, false, []⟩ (.cons ⟨8, false, []⟩ (.cons ⟨9, false, []⟩ (.cons ⟨10, false, []⟩ (.cons ⟨11, false, []⟩ .nil))))))))))), [[], [], [1], [0, 1, 2], [0, 1, 2, 3], [], [], [6], [5, 6, 7], [5, 6, 7, 8], [0, 1, 2, 3, 4], [0, 1, 2, 3, 4, 5, 6, 7, 8, 9, 10]], [0, 1, 2, 3, 4, 6, 7, 8, 9, 10, 5, 11]⟩
    | _ => ⟨.nil, [], []⟩
theorem hi36a (i : Nat) : hi36.acts i = [] := rfl
theorem hi36v (i : Nat) : hi36.views i = none := rfl
attribute [go_sem] hi36a hi36v Go.Proofs.Try.ntmps36 Go.Proofs.Try.results36
@[go_sem] theorem hi36d4 : (hi36.draws 4).order = .cons ⟨0, false, []⟩ (.cons ⟨1, false, []⟩ (.cons ⟨2, false, []⟩ (.cons ⟨3, false, []⟩ (.cons ⟨4, false, []⟩ (.cons ⟨5, false, []⟩ (.cons ⟨6, false, []⟩ (.cons ⟨7, false, []⟩ (.cons ⟨8, false, []⟩ (.cons ⟨9, false, []⟩ (.cons ⟨10, false, []⟩ (.cons ⟨11, false, []⟩ .nil))))))))))) := rfl
theorem c_impl_MarginOf {s : GShow} {times : List Int} {tie : Int} {res : Int} (h : m_impl_MarginOf s times tie = some res) : CallOk Go.Proofs.Try.prog 36 [.agg [.sl (rowsOf GNode.encS s.nodes), .sl (rowsOf GTie.enc s.ties), .lit (.int .i64 s.horizon)], .sl (rowsOf eI times), .lit (.int .i64 tie)] [] (.lit (.int .i64 res)) [] := by
  refine callOk_of (ra := []) (md := mdT) hT (hi := hi36) Go.Proofs.Try.func36 rfl rfl (by decide +kernel) (by simp) ?_
  unfold m_impl_MarginOf at h
  obtain ⟨r1001, g1, h⟩ := obnd_some h
  simp -implicitDefEqProofs -dsimp only [go_sem]
  refine callW_of (c_impl_areShown g1) ?_
  rcases ite_some h with ⟨h2, h⟩ | ⟨h2, h⟩
  · obtain ⟨r1002, g3, h⟩ := obnd_some h
    simp -implicitDefEqProofs -dsimp only [go_sem, (eq_true h2), (condZ_t h2)]
    refine callW_of (c_impl_isNode g3) ?_
    rcases ite_some h with ⟨h4, h⟩ | ⟨h4, h⟩
    · obtain ⟨x1003, g5, h⟩ := obnd_some h
      obtain ⟨h6, h7, h8⟩ := getI_some g5
      obtain ⟨x1004, g9, h⟩ := obnd_some h
      obtain ⟨h10, h11, h12⟩ := getI_some g9
      obtain ⟨x1005, g13, h⟩ := obnd_some h
      obtain ⟨h14, h15, h16⟩ := getI_some g13
      rcases ite_some h with ⟨h17, h⟩ | ⟨h17, h⟩
      · cases h
        simp -implicitDefEqProofs -dsimp only [go_sem, (eq_true h2), (condZ_t h2), (eq_true h4), (condZ_t h4), h6, h7, h8, h10, h11, h12, h14, h15, h16, (eq_true h17)]
      · rcases ite_some h with ⟨h18, h⟩ | ⟨h18, h⟩
        · cases h
          simp -implicitDefEqProofs -dsimp only [go_sem, (eq_true h2), (condZ_t h2), (eq_true h4), (condZ_t h4), h6, h7, h8, h10, h11, h12, h14, h15, h16, (eq_false h17), (eq_true h18)]
        · cases h
          simp -implicitDefEqProofs -dsimp only [go_sem, (eq_true h2), (condZ_t h2), (eq_true h4), (condZ_t h4), h6, h7, h8, h10, h11, h12, h14, h15, h16, (eq_false h17), (eq_false h18)]
    · cases h
      simp -implicitDefEqProofs -dsimp only [go_sem, (eq_true h2), (condZ_t h2), (eq_false h4), (condZ_f h4)]
  · cases h
    simp -implicitDefEqProofs -dsimp only [go_sem, (eq_false h2), (condZ_f h2)]
/- 4 loop.example/g00827/laws.FnSkewed -/
def m_laws_FnSkewed_L1_St (code : List Int) (s_2 : Int) (h1088 : List GNode) (h1089 : List GTie) : (Int × (List Int)) → St
  | (i, second) => ⟨[(0, .sl (rowsOf (eK .u8) code)), (3, .ptr 192 1 0 0), (4, .ref 1152 1 0 second.length), (5, .lit (.int .i64 i))], [(192, 1, .var [.ref 1088 1 0 h1088.length, .ref 1089 1 0 h1089.length, .lit (.int .i64 s_2)]), (1088, 1, .row true (rowsOf GNode.encO h1088)), (1089, 1, .row true (rowsOf GTie.enc h1089)), (1152, 1, .row true (rowsOf eI second))], 2⟩
attribute [go_sem] m_laws_FnSkewed_L1_St
def m_laws_FnSkewed_L2_St (v102 : Int) (s_2 : Int) (h1088 : List GNode) (h1089 : List GTie) (second : List Int) (t : List Int) (late : List Int) (v103 : Int) : St := ⟨[(3, .ptr 192 1 0 0), (4, .ref 1152 1 0 second.length), (9, .ref 4288 1 0 t.length), (10, .ref 6336 1 0 late.length), (102, .lit (.int .i64 v102)), (103, .lit (.int .i64 v103))], [(192, 1, .var [.ref 1088 1 0 h1088.length, .ref 1089 1 0 h1089.length, .lit (.int .i64 s_2)]), (1088, 1, .row true (rowsOf GNode.encO h1088)), (1089, 1, .row true (rowsOf GTie.enc h1089)), (1152, 1, .row true (rowsOf eI second)), (4288, 1, .row true (rowsOf eI t)), (6336, 1, .row true (rowsOf eI late))], 2⟩
attribute [go_sem] m_laws_FnSkewed_L2_St
def hi4 : Hint where
  acts := fun _ => []
  draws := fun
    | 16 => ⟨.cons ⟨0, false, []⟩ (.cons ⟨1, false, []⟩ (.cons ⟨4, true, []⟩ (.cons ⟨5, false, []⟩ (.cons ⟨2, false, [4]⟩ (.cons ⟨3, true, []⟩ (.cons ⟨6, false, [3]⟩ (.cons ⟨7, false, []⟩ (.cons ⟨8, false, []⟩ (.cons ⟨9, false, []⟩ .nil))))))))), [[], [], [0, 1], [0, 1, 2], [], [], [0, 1, 2, 4, 5], [0, 1, 2, 4, 5, 6], [0, 1, 2, 3, 4, 5, 6, 7], [0, 1, 2, 3, 4, 5, 6, 7, 8]], [0, 1, 2, 3, 4, 5, 6, 7, 8, 9]⟩
    | 22 => ⟨.cons ⟨0, false, []⟩ (.cons ⟨1, false, []⟩ (.cons ⟨2, false, []⟩ (.cons ⟨3, false, []⟩ (.cons ⟨4, false, []⟩ (.cons ⟨5, false, []⟩ (.cons ⟨6, false, []⟩ (.cons ⟨7, false, []⟩ (.cons ⟨8, false, []⟩ (.cons ⟨9, false, []⟩ (.cons ⟨10, false, []⟩ (.cons ⟨11, false, []⟩ (.cons ⟨12, false, []⟩ (.cons ⟨13, false, []⟩ (.cons ⟨14, false, []⟩ (.cons ⟨15, false, []⟩ (.cons ⟨16, false, []⟩ (.cons ⟨17, false, []⟩ (.cons ⟨18, false, []⟩ (.cons ⟨19, false, []⟩ (.cons ⟨20, false, []⟩ (.cons ⟨21, false, []⟩ (.cons ⟨23, false, []⟩ (.cons ⟨24, true, []⟩ (.cons ⟨25, true, []⟩ (.cons ⟨26, false, []⟩ (.cons ⟨27, true, []⟩ (.cons ⟨28, true, []⟩ (.cons ⟨29, true, []⟩ (.cons ⟨22, false, [24, 25, 27, 28, 29]⟩ (.cons ⟨30, false, []⟩ (.cons ⟨31, false, []⟩ (.cons ⟨32, false, []⟩ (.cons ⟨33, false, []⟩ .nil))))))))))))))))))))))))))))))))), [[], [0], [0, 1], [0, 1, 2], [0, 1, 2, 3], [0, 1, 2, 3, 4], [0, 1, 2, 3, 4, 5], [0, 1, 2, 3, 4, 5, 6], [0, 1, 2, 3, 4, 5], [0, 1, 2, 3, 4, 5, 6, 7, 8], [0, 1, 2, 3, 4, 5, 6, 7, 8, 9], [0, 1, 2, 3, 4, 5, 6, 7, 8, 9, 10], [0, 1, 2, 3, 4, 5, 6, 7, 8, 9, 10, 11], [0, 1, 2, 3, 4, 5, 6, 7, 8, 9, 10, 11, 12], [0, 1, 2, 3, 4, 5, 6, 7, 8, 9, 10, 11, 12, 13], [0, 1, 2, 3, 4, 5, 6, 7, 8, 9, 10, 11, 12, 13, 14], [0, 1, 2, 3, 4, 5, 6, 7, 8, 9, 10, 11, 12, 13, 14], [0, 1, 2, 3, 4, 5, 6, 7, 8, 9, 10, 11, 12, 13, 14, 16], [0, 1, 2, 3, 4, 5, 6, 7, 8, 9, 10, 11, 12, 13, 14], [0, 1, 2, 3, 4, 5, 6, 7, 8, 9, 10, 11, 12, 13, 14, 16, 17, 18], [0, 1, 2, 3, 4, 5, 6, 7, 8, 9, 10, 11, 12, 13, 14, 16, 17, 18, 19], [0, 1, 2, 3, 4, 5, 6, 7, 8, 9, 10, 11, 12, 13, 14, 16, 17, 18, 19, 20], [0, 1, 2, 3, 4, 5, 6, 7, 8, 9, 10, 11, 12, 13, 14, 15, 16, 17, 18, 19, 20, 21], [0, 1, 2, 3, 4, 5, 6, 7, 8, 9, 10, 11, 12, 13, 14], [0, 1, 2, 3, 4, 5, 6, 7, 8, 9, 10, 11, 12, 13, 14], [0, 1, 2, 3, 4, 5, 6, 7, 8, 9, 10, 11, 12, 13, 14, 24], [0, 1, 2, 3, 4, 5, 6, 7, 8, 9, 10, 11, 12, 13, 14], [0, 1, 2, 3, 4, 5, 6, 7, 8, 9, 10, 11, 12, 13, 14, 24, 25, 26], [0, 1, 2, 3, 4, 5, 6, 7, 8, 9, 10, 11, 12, 13, 14, 24, 25, 26, 27], [0, 1, 2, 3, 4, 5, 6, 7, 8, 9, 10, 11, 12, 13, 14, 24, 25, 26, 27, 28], [0, 1, 2, 3, 4, 5, 6, 7, 8, 9, 10, 11, 12, 13, 14, 15, 16, 17, 18, 19, 20, 21, 22, 23, 24, 25, 26, 27, 28, 29], [0, 1, 2, 3, 4, 5, 6, 7, 8, 9, 10, 11, 12, 13, 14, 15, 16, 17, 18, 19, 20, 21, 22, 23, 24, 25, 26, 27, 28, 29, 30], [0, 1, 2, 3, 4, 5, 6, 7, 8, 9, 10, 11, 12, 13, 14, 15, 16, 17, 18, 19, 20, 21, 22, 23, 24, 25, 26, 27, 28, 29, 30, 31], [0, 1, 2, 3, 4, 5, 6, 7, 8, 9, 10, 11, 12, 13, 14, 15, 16, 17, 18, 19, 20, 21, 22, 23, 24, 25, 26, 27, 28, 29, 30, 31, 32]], [0, 1, 2, 3, 4, 5, 6, 7, 8, 9, 10, 11, 12, 13, 14, 15, 16, 17, 18, 19, 20, 21, 22, 23, 24, 25, 26, 27, 28, 29, 30, 31, 32, 33]⟩
    | _ => ⟨.nil, [], []⟩
theorem hi4a (i : Nat) : hi4.acts i = [] := rfl
theorem hi4v (i : Nat) : hi4.views i = none := rfl
attribute [go_sem] hi4a hi4v Go.Proofs.Try.ntmps4 Go.Proofs.Try.results4
@[go_sem] theorem hi4d16 : (hi4.draws 16).order = .cons ⟨0, false, []⟩ (.cons ⟨1, false, []⟩ (.cons ⟨4, true, []⟩ (.cons ⟨5, false, []⟩ (.cons ⟨2, false, [4]⟩ (.cons ⟨3, true, []⟩ (.cons ⟨6, false, [3]⟩ (.cons ⟨7, false, []⟩ (.cons ⟨8, false, []⟩ (.cons ⟨9, false, []⟩ .nil))))))))) := rfl
@[go_sem] theorem hi4d22 : (hi4.draws 22).order = .cons ⟨0, false, []⟩ (.cons ⟨1, false, []⟩ (.cons ⟨2, false, []⟩ (.cons ⟨3, false, []⟩ (.cons ⟨4, false, []⟩ (.cons ⟨5, false, []⟩ (.cons ⟨6, false, []⟩ (.cons ⟨7, false, []⟩ (.cons ⟨8, false, []⟩ (.cons ⟨9, false, []⟩ (.cons ⟨10, false, []⟩ (.cons ⟨11, false, []⟩ (.cons ⟨12, false, []⟩ (.cons ⟨13, false, []⟩ (.cons ⟨14, false, []⟩ (.cons ⟨15, false, []⟩ (.cons ⟨16, false, []⟩ (.cons ⟨17, false, []⟩ (.cons ⟨18, false, []⟩ (.cons ⟨19, false, []⟩ (.cons ⟨20, false, []⟩ (.cons ⟨21, false, []⟩ (.cons ⟨23, false, []⟩ (.cons ⟨24, true, []⟩ (.cons ⟨25, true, []⟩ (.cons ⟨26, false, []⟩ (.cons ⟨27, true, []⟩ (.cons ⟨28, true, []⟩ (.cons ⟨29, true, []⟩ (.cons ⟨22, false, [24, 25, 27, 28, 29]⟩ (.cons ⟨30, false, []⟩ (.cons ⟨31, false, []⟩ (.cons ⟨32, false, []⟩ (.cons ⟨33, false, []⟩ .nil))))))))))))))))))))))))))))))))) := rfl
theorem c_laws_FnSkewed {code : List Int} {res : Bool} (h : m_laws_FnSkewed code = some res) : CallOk Go.Proofs.Try.prog 4 [.sl (rowsOf (eK .u8) code)] [] (.lit (.bool res)) [] := by
  refine callOk_of (ra := []) (md := mdT) hT (hi := hi4) Go.Proofs.Try.func4 rfl rfl (by decide +kernel) (by simp) ?_
  unfold m_laws_FnSkewed at h
  rcases ite_some h with ⟨h1, h⟩ | ⟨h1, h⟩
  · cases h
    simp -implicitDefEqProofs -dsimp only [go_sem, (eq_true h1)]
  · obtain ⟨r1001, g2, h⟩ := obnd_some h
    simp -implicitDefEqProofs -dsimp only [go_sem, (eq_false h1)]
    refine callW_of (c_spec_MakePlain g2) ?_
    obtain ⟨q1021, l3, h⟩ := obnd_some h
    simp -implicitDefEqProofs -dsimp only [go_sem, (eq_false h1)]
    refine loopW_loopO (m1 := .mk) (m2 := .mk) [.nf [0, 3, 4, 5] [192, 1088, 1089, 1152]] (m_laws_FnSkewed_L1_St code r1001.horizon r1001.nodes r1001.ties) l3 ?_ ?_
    · simp -implicitDefEqProofs -dsimp only [go_sem, (eq_false h1)]
    · intro nb4 sb4 bb4 b4 gb4
      obtain ⟨i_1, second_1⟩ := sb4
      unfold m_laws_FnSkewed_L1 at b4
      try dsimp only at b4
      rcases ite_some b4 with ⟨h5, b4⟩ | ⟨h5, b4⟩
      · obtain ⟨r1002, g6, b4⟩ := obnd_some b4
        simp -implicitDefEqProofs -dsimp only [go_sem, (eq_false h1), (eq_true h5)]
        refine callW_of (c_impl_FreeTie g6) ?_
        rcases ite_some b4 with ⟨h7, b4⟩ | ⟨h7, b4⟩
        · obtain ⟨x1003, g8, b4⟩ := obnd_some b4
          obtain ⟨h9, h10, h11⟩ := getI_some g8
          obtain ⟨r1004, g12, b4⟩ := obnd_some b4
          simp -implicitDefEqProofs -dsimp only [go_sem, (eq_false h1), (eq_true h5), (eq_true h7), h9, h10, h11]
          refine callW_of (c_laws_has g12) ?_
          rcases ite_some b4 with ⟨h13, b4⟩ | ⟨h13, b4⟩
          · obtain ⟨h14, b4⟩ := chk_some b4
            obtain ⟨h15, b4⟩ := chk_some b4
            cases b4
            simp -implicitDefEqProofs -dsimp only [go_sem, (eq_false h1), (eq_true h5), (eq_true h7), h9, h10, h11, (eq_true h13), (condZ_t h13), (eq_true h14), (eq_true h15)]
            refine next_of gb4 ?_
            simp -implicitDefEqProofs -dsimp only [go_sem, (eq_false h1), (eq_true h5), (eq_true h7), h9, h10, h11, (eq_true h13), (condZ_t h13), (eq_true h14), (eq_true h15)]
          · rcases ite_some b4 with ⟨h16, b4⟩ | ⟨h16, b4⟩
            · obtain ⟨r1005, g17, b4⟩ := obnd_some b4
              simp -implicitDefEqProofs -dsimp only [go_sem, (eq_false h1), (eq_true h5), (eq_true h7), h9, h10, h11, (eq_false h13), (condZ_f h13), (eq_true h16)]
              refine callW_of (c_spec_MakeNum g17) ?_
              rcases ite_some b4 with ⟨h18, b4⟩ | ⟨h18, b4⟩
              · obtain ⟨h19, b4⟩ := chk_some b4
                obtain ⟨h20, b4⟩ := chk_some b4
                cases b4
                simp -implicitDefEqProofs -dsimp only [go_sem, (eq_false h1), (eq_true h5), (eq_true h7), h9, h10, h11, (eq_false h13), (condZ_f h13), (eq_true h16), (eq_true h18), (eq_true h19), (eq_true h20)]
                refine next_of gb4 ?_
                simp -implicitDefEqProofs -dsimp only [go_sem, (eq_false h1), (eq_true h5), (eq_true h7), h9, h10, h11, (eq_false h13), (condZ_f h13), (eq_true h16), (eq_true h18), (eq_true h19), (eq_true h20)]
              · cases b4
                simp -implicitDefEqProofs -dsimp only [go_sem, (eq_false h1), (eq_true h5), (eq_true h7), h9, h10, h11, (eq_false h13), (condZ_f h13), (eq_true h16), (eq_false h18)]
                refine next_of gb4 ?_
                simp -implicitDefEqProofs -dsimp only [go_sem, (eq_false h1), (eq_true h5), (eq_true h7), h9, h10, h11, (eq_false h13), (condZ_f h13), (eq_true h16), (eq_false h18)]
            · cases b4
              simp -implicitDefEqProofs -dsimp only [go_sem, (eq_false h1), (eq_true h5), (eq_true h7), h9, h10, h11, (eq_false h13), (condZ_f h13), (eq_false h16)]
              refine next_of gb4 ?_
              simp -implicitDefEqProofs -dsimp only [go_sem, (eq_false h1), (eq_true h5), (eq_true h7), h9, h10, h11, (eq_false h13), (condZ_f h13), (eq_false h16)]
        · rcases ite_some b4 with ⟨h21, b4⟩ | ⟨h21, b4⟩
          · obtain ⟨r1006, g22, b4⟩ := obnd_some b4
            simp -implicitDefEqProofs -dsimp only [go_sem, (eq_false h1), (eq_true h5), (eq_false h7), (eq_true h21)]
            refine callW_of (c_spec_MakeNum g22) ?_
            rcases ite_some b4 with ⟨h23, b4⟩ | ⟨h23, b4⟩
            · obtain ⟨h24, b4⟩ := chk_some b4
              obtain ⟨h25, b4⟩ := chk_some b4
              cases b4
              simp -implicitDefEqProofs -dsimp only [go_sem, (eq_false h1), (eq_true h5), (eq_false h7), (eq_true h21), (eq_true h23), (eq_true h24), (eq_true h25)]
              refine next_of gb4 ?_
              simp -implicitDefEqProofs -dsimp only [go_sem, (eq_false h1), (eq_true h5), (eq_false h7), (eq_true h21), (eq_true h23), (eq_true h24), (eq_true h25)]
            · cases b4
              simp -implicitDefEqProofs -dsimp only [go_sem, (eq_false h1), (eq_true h5), (eq_false h7), (eq_true h21), (eq_false h23)]
              refine next_of gb4 ?_
              simp -implicitDefEqProofs -dsimp only [go_sem, (eq_false h1), (eq_true h5), (eq_false h7), (eq_true h21), (eq_false h23)]
          · cases b4
            simp -implicitDefEqProofs -dsimp only [go_sem, (eq_false h1), (eq_true h5), (eq_false h7), (eq_false h21)]
            refine next_of gb4 ?_
            simp -implicitDefEqProofs -dsimp only [go_sem, (eq_false h1), (eq_true h5), (eq_false h7), (eq_false h21)]
      · cases b4
        have e26 := (done_of gb4).symm
        subst e26
        try dsimp only at h
        obtain ⟨r1007, g27, h⟩ := obnd_some h
        simp -implicitDefEqProofs -dsimp only [go_sem, (eq_false h1), (eq_false h5)]
        refine callW_of (c_impl_SkewShow g27) ?_
        obtain ⟨r1008, g28, h⟩ := obnd_some h
        simp -implicitDefEqProofs -dsimp only [go_sem, (eq_false h1), (eq_false h5)]
        refine callW_of (c_spec_MakeTimes g28) ?_
        rcases ite_some h with ⟨h29, h⟩ | ⟨h29, h⟩
        · obtain ⟨r1009, g30, h⟩ := obnd_some h
          simp -implicitDefEqProofs -dsimp only [go_sem, (eq_false h1), (eq_false h5), (eq_true h29), (condZ_t h29)]
          refine callW_of (c_impl_BrokenTies g30) ?_
          rcases ite_some h with ⟨h31, h⟩ | ⟨h31, h⟩
          · obtain ⟨r1010, g32, h⟩ := obnd_some h
            simp -implicitDefEqProofs -dsimp only [go_sem, (eq_false h1), (eq_false h5), (eq_true h29), (condZ_t h29), (eq_true h31)]
            refine callW_of (c_impl_BrokenTies g32) ?_
            obtain ⟨r1011, g33, h⟩ := obnd_some h
            simp -implicitDefEqProofs -dsimp only [go_sem, (eq_false h1), (eq_false h5), (eq_true h29), (condZ_t h29), (eq_true h31)]
            refine callW_of (c_impl_BrokenTies g33) ?_
            cases h
            simp -implicitDefEqProofs -dsimp only [go_sem, (eq_false h1), (eq_false h5), (eq_true h29), (condZ_t h29), (eq_true h31)]
          · obtain ⟨r1012, g34, h⟩ := obnd_some h
            simp -implicitDefEqProofs -dsimp only [go_sem, (eq_false h1), (eq_false h5), (eq_true h29), (condZ_t h29), (eq_false h31)]
            refine callW_of (c_impl_ShiftTimes g34) ?_
            obtain ⟨q1018, l35, h⟩ := obnd_some h
            simp -implicitDefEqProofs -dsimp only [go_sem, (eq_false h1), (eq_false h5), (eq_true h29), (condZ_t h29), (eq_false h31)]
            refine loopW_loopO (m1 := .mk) (m2 := .mk) [.nf [3, 4, 9, 10, 102, 103] [192, 1088, 1089, 1152, 4288, 6336]] (m_laws_FnSkewed_L2_St ((r1001.ties.length : Nat) : Int) r1001.horizon r1001.nodes r1001.ties second_1 r1008 r1012) l35 ?_ ?_
            · simp -implicitDefEqProofs -dsimp only [go_sem, (eq_false h1), (eq_false h5), (eq_true h29), (condZ_t h29), (eq_false h31)]
            · intro nb36 sb36 bb36 b36 gb36
              obtain ⟨v103_2, eb36⟩ : ∃ v, v = sb36 := ⟨_, rfl⟩; subst eb36
              unfold m_laws_FnSkewed_L2 at b36
              try dsimp only at b36
              rcases ite_some b36 with ⟨h37, b36⟩ | ⟨h37, b36⟩
              · obtain ⟨r1013, g38, b36⟩ := obnd_some b36
                simp -implicitDefEqProofs -dsimp only [go_sem, (eq_false h1), (eq_false h5), (eq_true h29), (condZ_t h29), (eq_false h31), (eq_true h37)]
                refine callW_of (c_impl_MarginOf g38) ?_
                rcases ite_some b36 with ⟨h39, b36⟩ | ⟨h39, b36⟩
                · cases b36
                  have e40 := (done_of gb36).symm
                  subst e40
                  try dsimp only at h
                  cases h
                  simp -implicitDefEqProofs -dsimp only [go_sem, (eq_false h1), (eq_false h5), (eq_true h29), (condZ_t h29), (eq_false h31), (eq_true h37), (eq_true h39)]
                · rcases ite_some b36 with ⟨h41, b36⟩ | ⟨h41, b36⟩
                  · obtain ⟨x1014, g42, b36⟩ := obnd_some b36
                    obtain ⟨h43, h44, h45⟩ := getI_some g42
                    rcases ite_some b36 with ⟨h46, b36⟩ | ⟨h46, b36⟩
                    · cases b36
                      simp -implicitDefEqProofs -dsimp only [go_sem, (eq_false h1), (eq_false h5), (eq_true h29), (condZ_t h29), (eq_false h31), (eq_true h37), (eq_false h39), (eq_true h41), h43, h44, h45, (eq_true h46), (condZ_t h46)]
                      refine next_of gb36 ?_
                      simp -implicitDefEqProofs -dsimp only [go_sem, (eq_false h1), (eq_false h5), (eq_true h29), (condZ_t h29), (eq_false h31), (eq_true h37), (eq_false h39), (eq_true h41), h43, h44, h45, (eq_true h46), (condZ_t h46)]
                    · obtain ⟨r1015, g47, b36⟩ := obnd_some b36
                      simp -implicitDefEqProofs -dsimp only [go_sem, (eq_false h1), (eq_false h5), (eq_true h29), (condZ_t h29), (eq_false h31), (eq_true h37), (eq_false h39), (eq_true h41), h43, h44, h45, (eq_false h46), (condZ_f h46)]
                      refine callW_of (c_laws_has g47) ?_
                      obtain ⟨r1016, g48, b36⟩ := obnd_some b36
                      simp -implicitDefEqProofs -dsimp only [go_sem, (eq_false h1), (eq_false h5), (eq_true h29), (condZ_t h29), (eq_false h31), (eq_true h37), (eq_false h39), (eq_true h41), h43, h44, h45, (eq_false h46), (condZ_f h46)]
                      refine callW_of (c_laws_has g48) ?_
                      rcases ite_some b36 with ⟨h49, b36⟩ | ⟨h49, b36⟩
                      · cases b36
                        simp -implicitDefEqProofs -dsimp only [go_sem, (eq_false h1), (eq_false h5), (eq_true h29), (condZ_t h29), (eq_false h31), (eq_true h37), (eq_false h39), (eq_true h41), h43, h44, h45, (eq_false h46), (condZ_f h46), (eq_true h49)]
                        refine next_of gb36 ?_
                        simp -implicitDefEqProofs -dsimp only [go_sem, (eq_false h1), (eq_false h5), (eq_true h29), (condZ_t h29), (eq_false h31), (eq_true h37), (eq_false h39), (eq_true h41), h43, h44, h45, (eq_false h46), (condZ_f h46), (eq_true h49)]
                      · cases b36
                        have e50 := (done_of gb36).symm
                        subst e50
                        try dsimp only at h
                        cases h
                        simp -implicitDefEqProofs -dsimp only [go_sem, (eq_false h1), (eq_false h5), (eq_true h29), (condZ_t h29), (eq_false h31), (eq_true h37), (eq_false h39), (eq_true h41), h43, h44, h45, (eq_false h46), (condZ_f h46), (eq_false h49)]
                  · cases b36
                    simp -implicitDefEqProofs -dsimp only [go_sem, (eq_false h1), (eq_false h5), (eq_true h29), (condZ_t h29), (eq_false h31), (eq_true h37), (eq_false h39), (eq_false h41)]
                    refine next_of gb36 ?_
                    simp -implicitDefEqProofs -dsimp only [go_sem, (eq_false h1), (eq_false h5), (eq_true h29), (condZ_t h29), (eq_false h31), (eq_true h37), (eq_false h39), (eq_false h41)]
              · cases b36
                have e51 := (done_of gb36).symm
                subst e51
                try dsimp only at h
                obtain ⟨r1017, g52, h⟩ := obnd_some h
                simp -implicitDefEqProofs -dsimp only [go_sem, (eq_false h1), (eq_false h5), (eq_true h29), (condZ_t h29), (eq_false h31), (eq_false h37)]
                refine callW_of (c_impl_BrokenTies g52) ?_
                rcases ite_some h with ⟨h53, h⟩ | ⟨h53, h⟩
                · cases h
                  simp -implicitDefEqProofs -dsimp only [go_sem, (eq_false h1), (eq_false h5), (eq_true h29), (condZ_t h29), (eq_false h31), (eq_false h37), (eq_true h53)]
                · cases h
                  simp -implicitDefEqProofs -dsimp only [go_sem, (eq_false h1), (eq_false h5), (eq_true h29), (condZ_t h29), (eq_false h31), (eq_false h37), (eq_false h53)]
        · obtain ⟨r1019, g54, h⟩ := obnd_some h
          simp -implicitDefEqProofs -dsimp only [go_sem, (eq_false h1), (eq_false h5), (eq_false h29), (condZ_f h29)]
          refine callW_of (c_impl_ShowOk g54) ?_
          rcases ite_some h with ⟨h55, h⟩ | ⟨h55, h⟩
          · obtain ⟨r1020, g56, h⟩ := obnd_some h
            simp -implicitDefEqProofs -dsimp only [go_sem, (eq_false h1), (eq_false h5), (eq_false h29), (condZ_f h29), (eq_true h55), (condZ_t h55)]
            refine callW_of (c_impl_ShiftTimes g56) ?_
            cases h
            simp -implicitDefEqProofs -dsimp only [go_sem, (eq_false h1), (eq_false h5), (eq_false h29), (condZ_f h29), (eq_true h55), (condZ_t h55)]
          · cases h
            simp -implicitDefEqProofs -dsimp only [go_sem, (eq_false h1), (eq_false h5), (eq_false h29), (condZ_f h29), (eq_false h55), (condZ_f h55)]
end Go.Proofs.YtgmiaokdnpaglaaY
