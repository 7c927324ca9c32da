/- Functions. -/
import Derived.Test.YtgmiaokdnpaglaaXFK0
set_option linter.all false
set_option linter.unusedVariables false
set_option linter.unusedSimpArgs false
set_option maxRecDepth 100000
set_option maxHeartbeats 400000
namespace Go.Proofs.YtgmiaokdnpaglaaX
open Go
/- 63 loop.example/g00827/laws.szState -/
def hi63 : Hint where
  acts := fun _ => []
  draws := fun
    | _ => ⟨.nil, [], []⟩
theorem hi63a (i : Nat) : hi63.acts i = [] := rfl
theorem hi63v (i : Nat) : hi63.views i = none := rfl
attribute [go_sem] hi63a hi63v Go.Proofs.Try.ntmps63 Go.Proofs.Try.results63
theorem c_laws_szState {a : GState} {left : Int} {res : Int} (h : m_laws_szState a left = some res) : CallOk Go.Proofs.Try.prog 63 [.agg [.lit (.int .i64 a.now), .sl (rowsOf eI a.times), .sl (rowsOf eI a.values)], .lit (.int .i64 left)] [] (.lit (.int .i64 res)) [] := by
  refine callOk_of (ra := []) (md := mdT) hT (hi := hi63) Go.Proofs.Try.func63 rfl rfl (by decide +kernel) (by simp) ?_
  unfold m_laws_szState at h
  obtain ⟨r1001, g1, h⟩ := obnd_some h
  simp -implicitDefEqProofs -dsimp only [go_sem]
  refine callW_of (c_laws_szIntS g1) ?_
  rcases ite_some h with ⟨h2, h⟩ | ⟨h2, h⟩
  · cases h
    simp -implicitDefEqProofs -dsimp only [go_sem, (eq_true h2)]
  · obtain ⟨r1002, g3, h⟩ := obnd_some h
    simp -implicitDefEqProofs -dsimp only [go_sem, (eq_false h2)]
    refine callW_of (c_laws_szIntS g3) ?_
    rcases ite_some h with ⟨h4, h⟩ | ⟨h4, h⟩
    · cases h
      simp -implicitDefEqProofs -dsimp only [go_sem, (eq_false h2), (eq_true h4)]
    · cases h
      simp -implicitDefEqProofs -dsimp only [go_sem, (eq_false h2), (eq_false h4)]
/- 73 loop.example/g00827/laws.szChoice -/
def hi73 : Hint where
  acts := fun _ => []
  draws := fun
    | _ => ⟨.nil, [], []⟩
theorem hi73a (i : Nat) : hi73.acts i = [] := rfl
theorem hi73v (i : Nat) : hi73.views i = none := rfl
attribute [go_sem] hi73a hi73v Go.Proofs.Try.ntmps73 Go.Proofs.Try.results73
theorem c_laws_szChoice {a : GChoice} {left : Int} {res : Int} (h : m_laws_szChoice a left = some res) : CallOk Go.Proofs.Try.prog 73 [.agg [.sl (rowsOf eI a.lengths), .sl (rowsOf eI a.values)], .lit (.int .i64 left)] [] (.lit (.int .i64 res)) [] := by
  refine callOk_of (ra := []) (md := mdT) hT (hi := hi73) Go.Proofs.Try.func73 rfl rfl (by decide +kernel) (by simp) ?_
  unfold m_laws_szChoice at h
  obtain ⟨r1001, g1, h⟩ := obnd_some h
  simp -implicitDefEqProofs -dsimp only [go_sem]
  refine callW_of (c_laws_szIntS g1) ?_
  rcases ite_some h with ⟨h2, h⟩ | ⟨h2, h⟩
  · cases h
    simp -implicitDefEqProofs -dsimp only [go_sem, (eq_true h2)]
  · obtain ⟨r1002, g3, h⟩ := obnd_some h
    simp -implicitDefEqProofs -dsimp only [go_sem, (eq_false h2)]
    refine callW_of (c_laws_szIntS g3) ?_
    rcases ite_some h with ⟨h4, h⟩ | ⟨h4, h⟩
    · cases h
      simp -implicitDefEqProofs -dsimp only [go_sem, (eq_false h2), (eq_true h4)]
    · cases h
      simp -implicitDefEqProofs -dsimp only [go_sem, (eq_false h2), (eq_false h4)]
/- 65 loop.example/g00827/laws.toState -/
def hi65 : Hint where
  acts := fun _ => []
  draws := fun
    | _ => ⟨.nil, [], []⟩
theorem hi65a (i : Nat) : hi65.acts i = [] := rfl
theorem hi65v (i : Nat) : hi65.views i = none := rfl
attribute [go_sem] hi65a hi65v Go.Proofs.Try.ntmps65 Go.Proofs.Try.results65
theorem c_laws_toState {a : GState} {res : GState} (h : m_laws_toState a = some res) : CallOk Go.Proofs.Try.prog 65 [.agg [.lit (.int .i64 a.now), .sl (rowsOf eI a.times), .sl (rowsOf eI a.values)]] [] (.agg [.lit (.int .i64 res.now), .ref 20000 1 0 res.times.length, .ref 20001 1 0 res.values.length]) [(20000, 1, .row true (rowsOf eI res.times)), (20001, 1, .row true (rowsOf eI res.values))] := by
  refine callOk_of (ra := [.homeCell 128 1, .homeCell 128 2]) (md := mdT) hT (hi := hi65) Go.Proofs.Try.func65 rfl rfl (by decide +kernel) (by simp) ?_
  unfold m_laws_toState at h
  obtain ⟨r1001, g1, h⟩ := obnd_some h
  simp -implicitDefEqProofs -dsimp only [go_sem]
  refine callW_of (c_laws_toIntS g1) ?_
  obtain ⟨r1002, g2, h⟩ := obnd_some h
  simp -implicitDefEqProofs -dsimp only [go_sem]
  refine callW_of (c_laws_toIntS g2) ?_
  cases h
  simp -implicitDefEqProofs -dsimp only [go_sem]
/- 75 loop.example/g00827/laws.toChoice -/
def hi75 : Hint where
  acts := fun _ => []
  draws := fun
    | _ => ⟨.nil, [], []⟩
theorem hi75a (i : Nat) : hi75.acts i = [] := rfl
theorem hi75v (i : Nat) : hi75.views i = none := rfl
attribute [go_sem] hi75a hi75v Go.Proofs.Try.ntmps75 Go.Proofs.Try.results75
theorem c_laws_toChoice {a : GChoice} {res : GChoice} (h : m_laws_toChoice a = some res) : CallOk Go.Proofs.Try.prog 75 [.agg [.sl (rowsOf eI a.lengths), .sl (rowsOf eI a.values)]] [] (.agg [.ref 20000 1 0 res.lengths.length, .ref 20001 1 0 res.values.length]) [(20000, 1, .row true (rowsOf eI res.lengths)), (20001, 1, .row true (rowsOf eI res.values))] := by
  refine callOk_of (ra := [.homeCell 128 0, .homeCell 128 1]) (md := mdT) hT (hi := hi75) Go.Proofs.Try.func75 rfl rfl (by decide +kernel) (by simp) ?_
  unfold m_laws_toChoice at h
  obtain ⟨r1001, g1, h⟩ := obnd_some h
  simp -implicitDefEqProofs -dsimp only [go_sem]
  refine callW_of (c_laws_toIntS g1) ?_
  obtain ⟨r1002, g2, h⟩ := obnd_some h
  simp -implicitDefEqProofs -dsimp only [go_sem]
  refine callW_of (c_laws_toIntS g2) ?_
  cases h
  simp -implicitDefEqProofs -dsimp only [go_sem]
/- 187 loop.example/g00827/spec.ValuesOk -/
def m_spec_ValuesOk_L1_St (v : List Int) (v6 : Int) (v7 : Int) : St := ⟨[(0, .sl (rowsOf eI v)), (5, .sl (rowsOf eI v)), (6, .lit (.int .i64 v6)), (7, .lit (.int .i64 v7))], [], 2⟩
attribute [go_sem] m_spec_ValuesOk_L1_St
def hi187 : Hint where
  acts := fun _ => []
  draws := fun
    | _ => ⟨.nil, [], []⟩
theorem hi187a (i : Nat) : hi187.acts i = [] := rfl
theorem hi187v (i : Nat) : hi187.views i = none := rfl
attribute [go_sem] hi187a hi187v Go.Proofs.Try.ntmps187 Go.Proofs.Try.results187
theorem c_spec_ValuesOk {v : List Int} {res : Bool} (h : m_spec_ValuesOk v = some res) : CallOk Go.Proofs.Try.prog 187 [.sl (rowsOf eI v)] [] (.lit (.bool res)) [] := by
  refine callOk_of (ra := []) (md := mdT) hT (hi := hi187) Go.Proofs.Try.func187 rfl rfl (by decide +kernel) (by simp) ?_
  unfold m_spec_ValuesOk at h
  obtain ⟨q1003, l1, h⟩ := obnd_some h
  simp -implicitDefEqProofs -dsimp only [go_sem]
  refine loopW_loopO (m1 := .mk) (m2 := .mk) [.nf [0, 5, 6, 7] []] (m_spec_ValuesOk_L1_St v ((v.length : Nat) : Int)) l1 ?_ ?_
  · simp -implicitDefEqProofs -dsimp only [go_sem]
  · intro nb2 sb2 bb2 b2 gb2
    obtain ⟨v7_1, eb2⟩ : ∃ v, v = sb2 := ⟨_, rfl⟩; subst eb2
    unfold m_spec_ValuesOk_L1 at b2
    try dsimp only at b2
    rcases ite_some b2 with ⟨h3, b2⟩ | ⟨h3, b2⟩
    · obtain ⟨x1001, g4, b2⟩ := obnd_some b2
      obtain ⟨h5, h6, h7⟩ := getI_some g4
      obtain ⟨r1002, g8, b2⟩ := obnd_some b2
      simp -implicitDefEqProofs -dsimp only [go_sem, (eq_true h3), h5, h6, h7]
      refine callW_of (c_spec_l01In g8) ?_
      rcases ite_some b2 with ⟨h9, b2⟩ | ⟨h9, b2⟩
      · cases b2
        simp -implicitDefEqProofs -dsimp only [go_sem, (eq_true h3), h5, h6, h7, (eq_true h9), (condZ_t h9)]
        refine next_of gb2 ?_
        simp -implicitDefEqProofs -dsimp only [go_sem, (eq_true h3), h5, h6, h7, (eq_true h9), (condZ_t h9)]
      · cases b2
        have e10 := done_of gb2
        subst e10
        try dsimp only at h
        cases h
        simp -implicitDefEqProofs -dsimp only [go_sem, (eq_true h3), h5, h6, h7, (eq_false h9), (condZ_f h9)]
    · cases b2
      have e11 := done_of gb2
      subst e11
      try dsimp only at h
      cases h
      simp -implicitDefEqProofs -dsimp only [go_sem, (eq_false h3)]
/- 136 loop.example/g00827/spec.StateOk -/
def m_spec_StateOk_L1_St (v44 : List Int) (v45 : Int) (s_0 : List GNode) (s_1 : List GTie) (s_2 : Int) (v3_0 : Int) (v3_2 : List Int) (v46 : Int) : St := ⟨[(2, .ptr 128 1 0 0), (3, .ptr 192 1 0 0), (44, .sl (rowsOf eI v44)), (45, .lit (.int .i64 v45)), (46, .lit (.int .i64 v46))], [(128, 1, .var [.sl (rowsOf GNode.encS s_0), .sl (rowsOf GTie.enc s_1), .lit (.int .i64 s_2)]), (192, 1, .var [.lit (.int .i64 v3_0), .sl (rowsOf eI v44), .sl (rowsOf eI v3_2)])], 2⟩
attribute [go_sem] m_spec_StateOk_L1_St
def m_spec_StateOk_L2_St (s_0 : List GNode) (s_1 : List GTie) (s_2 : Int) (v3_0 : Int) (v3_1 : List Int) (v3_2 : List Int) (p : Int) : St := ⟨[(2, .ptr 128 1 0 0), (3, .ptr 192 1 0 0), (7, .lit (.int .i64 p))], [(128, 1, .var [.sl (rowsOf GNode.encS s_0), .sl (rowsOf GTie.enc s_1), .lit (.int .i64 s_2)]), (192, 1, .var [.lit (.int .i64 v3_0), .sl (rowsOf eI v3_1), .sl (rowsOf eI v3_2)])], 2⟩
attribute [go_sem] m_spec_StateOk_L2_St
def hi136 : Hint where
  acts := fun _ => []
  draws := fun
    | 13 => ⟨.cons ⟨0, false, []⟩ (.cons ⟨1, false, []⟩ (.cons ⟨2, false, []⟩ (.cons ⟨3, false, []⟩ (.cons ⟨4, false, []⟩ (.cons ⟨5, false, []⟩ (.cons ⟨6, false, []⟩ (.cons ⟨7, false, []⟩ (.cons ⟨8, false, []⟩ (.cons ⟨9, false, []⟩ (.cons ⟨10, false, []⟩ (.cons ⟨11, false, []⟩ (.cons ⟨12, false, []⟩ (.cons ⟨13, false, []⟩ (.cons ⟨14, false, []⟩ (.cons ⟨15, false, []⟩ (.cons ⟨16, false, []⟩ (.cons ⟨17, false, []⟩ .nil))))))))))))))))), [[], [0], [], [2], [0, 1, 2, 3], [0, 1, 2, 3, 4], [0, 1, 2, 3, 4, 5], [], [7], [7, 8], [7, 8, 9], [7, 8, 9, 10], [7, 8, 9], [7, 8, 9, 10, 11, 12], [7, 8, 9, 10, 11, 12, 13], [7, 8, 9, 10, 11, 12, 13, 14], [7, 8, 9, 10, 11, 12, 13, 14, 15], [0, 1, 2, 3, 4, 5, 6, 7, 8, 9, 10, 11, 12, 13, 14, 15, 16]], [0, 1, 2, 3, 4, 5, 6, 7, 8, 9, 10, 11, 12, 13, 14, 15, 16, 17]⟩
    | _ => ⟨.nil, [], []⟩
theorem hi136a (i : Nat) : hi136.acts i = [] := rfl
theorem hi136v (i : Nat) : hi136.views i = none := rfl
attribute [go_sem] hi136a hi136v Go.Proofs.Try.ntmps136 Go.Proofs.Try.results136
@[go_sem] theorem hi136d13 : (hi136.draws 13).order = .cons ⟨0, false, []⟩ (.cons ⟨1, false, []⟩ (.cons ⟨2, false, []⟩ (.cons ⟨3, false, []⟩ (.cons ⟨4, false, []⟩ (.cons ⟨5, false, []⟩ (.cons ⟨6, false, []⟩ (.cons ⟨7, false, []⟩ (.cons ⟨8, false, []⟩ (.cons ⟨9, false, []⟩ (.cons ⟨10, false, []⟩ (.cons ⟨11, false, []⟩ (.cons ⟨12, false, []⟩ (.cons ⟨13, false, []⟩ (.cons ⟨14, false, []⟩ (.cons ⟨15, false, []⟩ (.cons ⟨16, false, []⟩ (.cons ⟨17, false, []⟩ .nil))))))))))))))))) := rfl
theorem c_spec_StateOk {s : GShow} {v1 : GState} {res : Bool} (h : m_spec_StateOk s v1 = some res) : CallOk Go.Proofs.Try.prog 136 [.agg [.sl (rowsOf GNode.encS s.nodes), .sl (rowsOf GTie.enc s.ties), .lit (.int .i64 s.horizon)], .agg [.lit (.int .i64 v1.now), .sl (rowsOf eI v1.times), .sl (rowsOf eI v1.values)]] [] (.lit (.bool res)) [] := by
  refine callOk_of (ra := []) (md := mdT) hT (hi := hi136) Go.Proofs.Try.func136 rfl rfl (by decide +kernel) (by simp) ?_
  unfold m_spec_StateOk at h
  obtain ⟨r1001, g1, h⟩ := obnd_some h
  simp -implicitDefEqProofs -dsimp only [go_sem]
  refine callW_of (c_spec_ShowOk g1) ?_
  rcases ite_some h with ⟨h2, h⟩ | ⟨h2, h⟩
  · obtain ⟨r1002, g3, h⟩ := obnd_some h
    simp -implicitDefEqProofs -dsimp only [go_sem, (eq_true h2), (condZ_t h2)]
    refine callW_of (c_spec_l01In g3) ?_
    rcases ite_some h with ⟨h4, h⟩ | ⟨h4, h⟩
    · rcases ite_some h with ⟨h5, h⟩ | ⟨h5, h⟩
      · obtain ⟨x1003, g6, h⟩ := obnd_some h
        obtain ⟨h8, h9⟩ := getI_nat (k := 0) g6
        rcases ite_some h with ⟨h10, h⟩ | ⟨h10, h⟩
        · obtain ⟨r1004, g11, h⟩ := obnd_some h
          simp -implicitDefEqProofs -dsimp only [go_sem, (eq_true h2), (condZ_t h2), (eq_true h4), (condZ_t h4), (eq_true h5), h8, h9, (eq_true h10)]
          refine callW_of (c_spec_ValuesOk g11) ?_
          rcases ite_some h with ⟨h12, h⟩ | ⟨h12, h⟩
          · obtain ⟨q1011, l13, h⟩ := obnd_some h
            simp -implicitDefEqProofs -dsimp only [go_sem, (eq_true h2), (condZ_t h2), (eq_true h4), (condZ_t h4), (eq_true h5), h8, h9, (eq_true h10), (eq_true h12), (condZ_t h12)]
            refine loopW_loopO (m1 := .mk) (m2 := .mk) [.nf [2, 3, 44, 45, 46] [128, 192]] (m_spec_StateOk_L1_St v1.times ((v1.times.length : Nat) : Int) s.nodes s.ties s.horizon v1.now v1.values) l13 ?_ ?_
            · simp -implicitDefEqProofs -dsimp only [go_sem, (eq_true h2), (condZ_t h2), (eq_true h4), (condZ_t h4), (eq_true h5), h8, h9, (eq_true h10), (eq_true h12), (condZ_t h12)]
            · intro nb14 sb14 bb14 b14 gb14
              obtain ⟨v46_1, eb14⟩ : ∃ v, v = sb14 := ⟨_, rfl⟩; subst eb14
              unfold m_spec_StateOk_L1 at b14
              try dsimp only at b14
              rcases ite_some b14 with ⟨h15, b14⟩ | ⟨h15, b14⟩
              · obtain ⟨x1005, g16, b14⟩ := obnd_some b14
                obtain ⟨h17, h18, h19⟩ := getI_some g16
                rcases ite_some b14 with ⟨h20, b14⟩ | ⟨h20, b14⟩
                · obtain ⟨r1006, g21, b14⟩ := obnd_some b14
                  simp -implicitDefEqProofs -dsimp only [go_sem, (eq_true h2), (condZ_t h2), (eq_true h4), (condZ_t h4), (eq_true h5), h8, h9, (eq_true h10), (eq_true h12), (condZ_t h12), (eq_true h15), h17, h18, h19, (eq_true h20)]
                  refine callW_of (c_spec_l01In g21) ?_
                  rcases ite_some b14 with ⟨h22, b14⟩ | ⟨h22, b14⟩
                  · cases b14
                    simp -implicitDefEqProofs -dsimp only [go_sem, (eq_true h2), (condZ_t h2), (eq_true h4), (condZ_t h4), (eq_true h5), h8, h9, (eq_true h10), (eq_true h12), (condZ_t h12), (eq_true h15), h17, h18, h19, (eq_true h20), (eq_true h22), (condZ_t h22)]
                    refine next_of gb14 ?_
                    simp -implicitDefEqProofs -dsimp only [go_sem, (eq_true h2), (condZ_t h2), (eq_true h4), (condZ_t h4), (eq_true h5), h8, h9, (eq_true h10), (eq_true h12), (condZ_t h12), (eq_true h15), h17, h18, h19, (eq_true h20), (eq_true h22), (condZ_t h22)]
                  · cases b14
                    have e23 := done_of gb14
                    subst e23
                    try dsimp only at h
                    cases h
                    simp -implicitDefEqProofs -dsimp only [go_sem, (eq_true h2), (condZ_t h2), (eq_true h4), (condZ_t h4), (eq_true h5), h8, h9, (eq_true h10), (eq_true h12), (condZ_t h12), (eq_true h15), h17, h18, h19, (eq_true h20), (eq_false h22), (condZ_f h22)]
                · cases b14
                  simp -implicitDefEqProofs -dsimp only [go_sem, (eq_true h2), (condZ_t h2), (eq_true h4), (condZ_t h4), (eq_true h5), h8, h9, (eq_true h10), (eq_true h12), (condZ_t h12), (eq_true h15), h17, h18, h19, (eq_false h20)]
                  refine next_of gb14 ?_
                  simp -implicitDefEqProofs -dsimp only [go_sem, (eq_true h2), (condZ_t h2), (eq_true h4), (condZ_t h4), (eq_true h5), h8, h9, (eq_true h10), (eq_true h12), (condZ_t h12), (eq_true h15), h17, h18, h19, (eq_false h20)]
              · cases b14
                have e24 := done_of gb14
                subst e24
                try dsimp only at h
                obtain ⟨q1010, l25, h⟩ := obnd_some h
                simp -implicitDefEqProofs -dsimp only [go_sem, (eq_true h2), (condZ_t h2), (eq_true h4), (condZ_t h4), (eq_true h5), h8, h9, (eq_true h10), (eq_true h12), (condZ_t h12), (eq_false h15)]
                refine loopW_loopO (m1 := .mk) (m2 := .mk) [.nf [2, 3, 7] [128, 192]] (m_spec_StateOk_L2_St s.nodes s.ties s.horizon v1.now v1.times v1.values) l25 ?_ ?_
                · simp -implicitDefEqProofs -dsimp only [go_sem, (eq_true h2), (condZ_t h2), (eq_true h4), (condZ_t h4), (eq_true h5), h8, h9, (eq_true h10), (eq_true h12), (condZ_t h12), (eq_false h15)]
                · intro nb26 sb26 bb26 b26 gb26
                  obtain ⟨p_2, eb26⟩ : ∃ v, v = sb26 := ⟨_, rfl⟩; subst eb26
                  unfold m_spec_StateOk_L2 at b26
                  try dsimp only at b26
                  rcases ite_some b26 with ⟨h27, b26⟩ | ⟨h27, b26⟩
                  · obtain ⟨r1007, g28, b26⟩ := obnd_some b26
                    simp -implicitDefEqProofs -dsimp only [go_sem, (eq_true h2), (condZ_t h2), (eq_true h4), (condZ_t h4), (eq_true h5), h8, h9, (eq_true h10), (eq_true h12), (condZ_t h12), (eq_false h15), (eq_true h27)]
                    refine callW_of (c_spec_l08Watcher g28) ?_
                    obtain ⟨x1008, g29, b26⟩ := obnd_some b26
                    obtain ⟨h30, h31, h32⟩ := getI_some g29
                    rcases ite_some b26 with ⟨h33, b26⟩ | ⟨h33, b26⟩
                    · obtain ⟨x1009, g34, b26⟩ := obnd_some b26
                      obtain ⟨h35, h36, h37⟩ := getI_some g34
                      rcases ite_some b26 with ⟨h38, b26⟩ | ⟨h38, b26⟩
                      · cases b26
                        simp -implicitDefEqProofs -dsimp only [go_sem, (eq_true h2), (condZ_t h2), (eq_true h4), (condZ_t h4), (eq_true h5), h8, h9, (eq_true h10), (eq_true h12), (condZ_t h12), (eq_false h15), (eq_true h27), h30, h31, h32, (eq_true h33), h35, h36, h37, (eq_true h38)]
                        refine next_of gb26 ?_
                        simp -implicitDefEqProofs -dsimp only [go_sem, (eq_true h2), (condZ_t h2), (eq_true h4), (condZ_t h4), (eq_true h5), h8, h9, (eq_true h10), (eq_true h12), (condZ_t h12), (eq_false h15), (eq_true h27), h30, h31, h32, (eq_true h33), h35, h36, h37, (eq_true h38)]
                      · cases b26
                        have e39 := done_of gb26
                        subst e39
                        try dsimp only at h
                        cases h
                        simp -implicitDefEqProofs -dsimp only [go_sem, (eq_true h2), (condZ_t h2), (eq_true h4), (condZ_t h4), (eq_true h5), h8, h9, (eq_true h10), (eq_true h12), (condZ_t h12), (eq_false h15), (eq_true h27), h30, h31, h32, (eq_true h33), h35, h36, h37, (eq_false h38)]
                    · rcases ite_some b26 with ⟨h40, b26⟩ | ⟨h40, b26⟩
                      · cases b26
                        simp -implicitDefEqProofs -dsimp only [go_sem, (eq_true h2), (condZ_t h2), (eq_true h4), (condZ_t h4), (eq_true h5), h8, h9, (eq_true h10), (eq_true h12), (condZ_t h12), (eq_false h15), (eq_true h27), h30, h31, h32, (eq_false h33), (eq_true h40)]
                        refine next_of gb26 ?_
                        simp -implicitDefEqProofs -dsimp only [go_sem, (eq_true h2), (condZ_t h2), (eq_true h4), (condZ_t h4), (eq_true h5), h8, h9, (eq_true h10), (eq_true h12), (condZ_t h12), (eq_false h15), (eq_true h27), h30, h31, h32, (eq_false h33), (eq_true h40)]
                      · cases b26
                        have e41 := done_of gb26
                        subst e41
                        try dsimp only at h
                        cases h
                        simp -implicitDefEqProofs -dsimp only [go_sem, (eq_true h2), (condZ_t h2), (eq_true h4), (condZ_t h4), (eq_true h5), h8, h9, (eq_true h10), (eq_true h12), (condZ_t h12), (eq_false h15), (eq_true h27), h30, h31, h32, (eq_false h33), (eq_false h40)]
                  · cases b26
                    have e42 := done_of gb26
                    subst e42
                    try dsimp only at h
                    cases h
                    simp -implicitDefEqProofs -dsimp only [go_sem, (eq_true h2), (condZ_t h2), (eq_true h4), (condZ_t h4), (eq_true h5), h8, h9, (eq_true h10), (eq_true h12), (condZ_t h12), (eq_false h15), (eq_false h27)]
          · cases h
            simp -implicitDefEqProofs -dsimp only [go_sem, (eq_true h2), (condZ_t h2), (eq_true h4), (condZ_t h4), (eq_true h5), h8, h9, (eq_true h10), (eq_false h12), (condZ_f h12)]
        · cases h
          simp -implicitDefEqProofs -dsimp only [go_sem, (eq_true h2), (condZ_t h2), (eq_true h4), (condZ_t h4), (eq_true h5), h8, h9, (eq_false h10)]
      · cases h
        simp -implicitDefEqProofs -dsimp only [go_sem, (eq_true h2), (condZ_t h2), (eq_true h4), (condZ_t h4), (eq_false h5)]
    · cases h
      simp -implicitDefEqProofs -dsimp only [go_sem, (eq_true h2), (condZ_t h2), (eq_false h4), (condZ_f h4)]
  · cases h
    simp -implicitDefEqProofs -dsimp only [go_sem, (eq_false h2), (condZ_f h2)]
/- 137 loop.example/g00827/spec.l10Free -/
def m_spec_l10Free_L1_St (v8 : List GTie) (v9 : Int) : (Int × (List Int)) → St
  | (v10, out) => ⟨[(3, .ref 384 1 0 out.length), (8, .sl (rowsOf GTie.enc v8)), (9, .lit (.int .i64 v9)), (10, .lit (.int .i64 v10))], [(384, 1, .row true (rowsOf eI out))], 2⟩
attribute [go_sem] m_spec_l10Free_L1_St
def hi137 : Hint where
  acts := fun _ => []
  draws := fun
    | _ => ⟨.nil, [], []⟩
theorem hi137a (i : Nat) : hi137.acts i = [] := rfl
theorem hi137v (i : Nat) : hi137.views i = none := rfl
attribute [go_sem] hi137a hi137v Go.Proofs.Try.ntmps137 Go.Proofs.Try.results137
theorem c_spec_l10Free {s : GShow} {res : List Int} (h : m_spec_l10Free s = some res) : CallOk Go.Proofs.Try.prog 137 [.agg [.sl (rowsOf GNode.encS s.nodes), .sl (rowsOf GTie.enc s.ties), .lit (.int .i64 s.horizon)]] [] (.ref 20000 1 0 res.length) [(20000, 1, .row true (rowsOf eI res))] := by
  refine callOk_of (ra := [.home 2]) (md := mdT) hT (hi := hi137) Go.Proofs.Try.func137 rfl rfl (by decide +kernel) (by simp) ?_
  unfold m_spec_l10Free at h
  obtain ⟨q1002, l1, h⟩ := obnd_some h
  simp -implicitDefEqProofs -dsimp only [go_sem]
  refine loopW_loopO (m1 := .mk) (m2 := .mk) [.nf [3, 8, 9, 10] [384]] (m_spec_l10Free_L1_St s.ties ((s.ties.length : Nat) : Int)) l1 ?_ ?_
  · simp -implicitDefEqProofs -dsimp only [go_sem]
  · intro nb2 sb2 bb2 b2 gb2
    obtain ⟨v10_1, out_1⟩ := sb2
    unfold m_spec_l10Free_L1 at b2
    try dsimp only at b2
    rcases ite_some b2 with ⟨h3, b2⟩ | ⟨h3, b2⟩
    · obtain ⟨x1001, g4, b2⟩ := obnd_some b2
      obtain ⟨h5, h6, h7⟩ := getI_some g4
      rcases ite_some b2 with ⟨h8, b2⟩ | ⟨h8, b2⟩
      · obtain ⟨h9, b2⟩ := chk_some b2
        obtain ⟨h10, b2⟩ := chk_some b2
        cases b2
        simp -implicitDefEqProofs -dsimp only [go_sem, (eq_true h3), h5, h6, h7, (eq_true h8), (condZ_t h8), (eq_true h9), (eq_true h10)]
        refine next_of gb2 ?_
        simp -implicitDefEqProofs -dsimp only [go_sem, (eq_true h3), h5, h6, h7, (eq_true h8), (condZ_t h8), (eq_true h9), (eq_true h10)]
      · cases b2
        simp -implicitDefEqProofs -dsimp only [go_sem, (eq_true h3), h5, h6, h7, (eq_false h8), (condZ_f h8)]
        refine next_of gb2 ?_
        simp -implicitDefEqProofs -dsimp only [go_sem, (eq_true h3), h5, h6, h7, (eq_false h8), (condZ_f h8)]
    · cases b2
      have e11 := done_of gb2
      subst e11
      try dsimp only at h
      cases h
      simp -implicitDefEqProofs -dsimp only [go_sem, (eq_false h3)]
/- 139 loop.example/g00827/spec.ChoiceOk -/
def m_spec_ChoiceOk_L1_St (v28 : Int) (s_0 : List GNode) (s_1 : List GTie) (s_2 : Int) (v3_0 : List Int) (v3_1 : List Int) (v27 : List Int) (v29 : Int) : St := ⟨[(2, .ptr 128 1 0 0), (3, .ptr 192 1 0 0), (27, .ref 896 1 0 v27.length), (28, .lit (.int .i64 v28)), (29, .lit (.int .i64 v29))], [(128, 1, .var [.sl (rowsOf GNode.encS s_0), .sl (rowsOf GTie.enc s_1), .lit (.int .i64 s_2)]), (192, 1, .var [.sl (rowsOf eI v3_0), .sl (rowsOf eI v3_1)]), (896, 1, .row true (rowsOf eI v27))], 2⟩
attribute [go_sem] m_spec_ChoiceOk_L1_St
def m_spec_ChoiceOk_L2_St (v55 : List Int) (v56 : Int) (s_0 : List GNode) (s_1 : List GTie) (s_2 : Int) (v57 : Int) : St := ⟨[(2, .ptr 128 1 0 0), (55, .sl (rowsOf eI v55)), (56, .lit (.int .i64 v56)), (57, .lit (.int .i64 v57))], [(128, 1, .var [.sl (rowsOf GNode.encS s_0), .sl (rowsOf GTie.enc s_1), .lit (.int .i64 s_2)])], 2⟩
attribute [go_sem] m_spec_ChoiceOk_L2_St
def hi139 : Hint where
  acts := fun _ => []
  draws := fun
    | 9 => ⟨.cons ⟨0, false, []⟩ (.cons ⟨1, false, []⟩ (.cons ⟨2, false, []⟩ (.cons ⟨3, false, []⟩ (.cons ⟨4, false, []⟩ (.cons ⟨5, false, []⟩ (.cons ⟨6, false, []⟩ (.cons ⟨7, false, []⟩ (.cons ⟨8, false, []⟩ (.cons ⟨9, false, []⟩ (.cons ⟨10, false, []⟩ (.cons ⟨11, false, []⟩ (.cons ⟨12, false, []⟩ (.cons ⟨13, false, []⟩ (.cons ⟨14, false, []⟩ (.cons ⟨15, false, []⟩ (.cons ⟨16, false, []⟩ (.cons ⟨17, false, []⟩ (.cons ⟨18, false, []⟩ .nil)))))))))))))))))), [[], [0], [], [0, 1, 2], [0, 1, 2, 3], [], [5], [], [5, 6, 7], [5, 6, 7, 8], [5, 6, 7, 8, 9], [], [11], [], [11, 12, 13], [11, 12, 13, 14], [11, 12, 13, 14, 15], [0, 1, 2, 3, 4, 5, 6, 7, 8, 9, 10, 11, 12, 13, 14, 15, 16], [0, 1, 2, 3, 4, 5, 6, 7, 8, 9, 10, 11, 12, 13, 14, 15, 16, 17]], [0, 1, 2, 3, 4, 5, 6, 7, 8, 9, 10, 11, 12, 13, 14, 15, 16, 17, 18]⟩
    | _ => ⟨.nil, [], []⟩
theorem hi139a (i : Nat) : hi139.acts i = [] := rfl
theorem hi139v (i : Nat) : hi139.views i = none := rfl
attribute [go_sem] hi139a hi139v Go.Proofs.Try.ntmps139 Go.Proofs.Try.results139
@[go_sem] theorem hi139d9 : (hi139.draws 9).order = .cons ⟨0, false, []⟩ (.cons ⟨1, false, []⟩ (.cons ⟨2, false, []⟩ (.cons ⟨3, false, []⟩ (.cons ⟨4, false, []⟩ (.cons ⟨5, false, []⟩ (.cons ⟨6, false, []⟩ (.cons ⟨7, false, []⟩ (.cons ⟨8, false, []⟩ (.cons ⟨9, false, []⟩ (.cons ⟨10, false, []⟩ (.cons ⟨11, false, []⟩ (.cons ⟨12, false, []⟩ (.cons ⟨13, false, []⟩ (.cons ⟨14, false, []⟩ (.cons ⟨15, false, []⟩ (.cons ⟨16, false, []⟩ (.cons ⟨17, false, []⟩ (.cons ⟨18, false, []⟩ .nil)))))))))))))))))) := rfl
theorem c_spec_ChoiceOk {s : GShow} {v1 : GChoice} {res : Bool} (h : m_spec_ChoiceOk s v1 = some res) : CallOk Go.Proofs.Try.prog 139 [.agg [.sl (rowsOf GNode.encS s.nodes), .sl (rowsOf GTie.enc s.ties), .lit (.int .i64 s.horizon)], .agg [.sl (rowsOf eI v1.lengths), .sl (rowsOf eI v1.values)]] [] (.lit (.bool res)) [] := by
  refine callOk_of (ra := []) (md := mdT) hT (hi := hi139) Go.Proofs.Try.func139 rfl rfl (by decide +kernel) (by simp) ?_
  unfold m_spec_ChoiceOk at h
  obtain ⟨r1001, g1, h⟩ := obnd_some h
  simp -implicitDefEqProofs -dsimp only [go_sem]
  refine callW_of (c_spec_ShowOk g1) ?_
  rcases ite_some h with ⟨h2, h⟩ | ⟨h2, h⟩
  · obtain ⟨r1002, g3, h⟩ := obnd_some h
    simp -implicitDefEqProofs -dsimp only [go_sem, (eq_true h2), (condZ_t h2)]
    refine callW_of (c_spec_l10Free g3) ?_
    rcases ite_some h with ⟨h4, h⟩ | ⟨h4, h⟩
    · rcases ite_some h with ⟨h5, h⟩ | ⟨h5, h⟩
      · obtain ⟨q1011, l6, h⟩ := obnd_some h
        simp -implicitDefEqProofs -dsimp only [go_sem, (eq_true h2), (condZ_t h2), (eq_true h4), (eq_true h5)]
        refine loopW_loopO (m1 := .mk) (m2 := .mk) [.nf [2, 3, 27, 28, 29] [128, 192, 896]] (m_spec_ChoiceOk_L1_St ((r1002.length : Nat) : Int) s.nodes s.ties s.horizon v1.lengths v1.values r1002) l6 ?_ ?_
        · simp -implicitDefEqProofs -dsimp only [go_sem, (eq_true h2), (condZ_t h2), (eq_true h4), (eq_true h5)]
        · intro nb7 sb7 bb7 b7 gb7
          obtain ⟨v29_1, eb7⟩ : ∃ v, v = sb7 := ⟨_, rfl⟩; subst eb7
          unfold m_spec_ChoiceOk_L1 at b7
          try dsimp only at b7
          rcases ite_some b7 with ⟨h8, b7⟩ | ⟨h8, b7⟩
          · obtain ⟨x1003, g9, b7⟩ := obnd_some b7
            obtain ⟨h10, h11, h12⟩ := getI_some g9
            obtain ⟨x1004, g13, b7⟩ := obnd_some b7
            obtain ⟨h14, h15, h16⟩ := getI_some g13
            obtain ⟨x1005, g17, b7⟩ := obnd_some b7
            obtain ⟨h18, h19, h20⟩ := getI_some g17
            obtain ⟨r1006, g21, b7⟩ := obnd_some b7
            simp -implicitDefEqProofs -dsimp only [go_sem, (eq_true h2), (condZ_t h2), (eq_true h4), (eq_true h5), (eq_true h8), h10, h11, h12, h14, h15, h16, h18, h19, h20]
            refine callW_of (c_spec_l01In g21) ?_
            rcases ite_some b7 with ⟨h22, b7⟩ | ⟨h22, b7⟩
            · cases b7
              simp -implicitDefEqProofs -dsimp only [go_sem, (eq_true h2), (condZ_t h2), (eq_true h4), (eq_true h5), (eq_true h8), h10, h11, h12, h14, h15, h16, h18, h19, h20, (eq_true h22), (condZ_t h22)]
              refine next_of gb7 ?_
              simp -implicitDefEqProofs -dsimp only [go_sem, (eq_true h2), (condZ_t h2), (eq_true h4), (eq_true h5), (eq_true h8), h10, h11, h12, h14, h15, h16, h18, h19, h20, (eq_true h22), (condZ_t h22)]
            · cases b7
              have e23 := done_of gb7
              subst e23
              try dsimp only at h
              cases h
              simp -implicitDefEqProofs -dsimp only [go_sem, (eq_true h2), (condZ_t h2), (eq_true h4), (eq_true h5), (eq_true h8), h10, h11, h12, h14, h15, h16, h18, h19, h20, (eq_false h22), (condZ_f h22)]
          · cases b7
            have e24 := done_of gb7
            subst e24
            try dsimp only at h
            obtain ⟨q1010, l25, h⟩ := obnd_some h
            simp -implicitDefEqProofs -dsimp only [go_sem, (eq_true h2), (condZ_t h2), (eq_true h4), (eq_true h5), (eq_false h8)]
            refine loopW_loopO (m1 := .mk) (m2 := .mk) [.nf [2, 55, 56, 57] [128]] (m_spec_ChoiceOk_L2_St v1.values ((v1.values.length : Nat) : Int) s.nodes s.ties s.horizon) l25 ?_ ?_
            · simp -implicitDefEqProofs -dsimp only [go_sem, (eq_true h2), (condZ_t h2), (eq_true h4), (eq_true h5), (eq_false h8)]
            · intro nb26 sb26 bb26 b26 gb26
              obtain ⟨v57_2, eb26⟩ : ∃ v, v = sb26 := ⟨_, rfl⟩; subst eb26
              unfold m_spec_ChoiceOk_L2 at b26
              try dsimp only at b26
              rcases ite_some b26 with ⟨h27, b26⟩ | ⟨h27, b26⟩
              · obtain ⟨x1007, g28, b26⟩ := obnd_some b26
                obtain ⟨h29, h30, h31⟩ := getI_some g28
                rcases ite_some b26 with ⟨h32, b26⟩ | ⟨h32, b26⟩
                · rcases ite_some b26 with ⟨h33, b26⟩ | ⟨h33, b26⟩
                  · obtain ⟨r1008, g34, b26⟩ := obnd_some b26
                    simp -implicitDefEqProofs -dsimp only [go_sem, (eq_true h2), (condZ_t h2), (eq_true h4), (eq_true h5), (eq_false h8), (eq_true h27), h29, h30, h31, (eq_true h32), (eq_true h33)]
                    refine callW_of (c_spec_l08Watcher g34) ?_
                    rcases ite_some b26 with ⟨h35, b26⟩ | ⟨h35, b26⟩
                    · cases b26
                      have e36 := done_of gb26
                      subst e36
                      try dsimp only at h
                      cases h
                      simp -implicitDefEqProofs -dsimp only [go_sem, (eq_true h2), (condZ_t h2), (eq_true h4), (eq_true h5), (eq_false h8), (eq_true h27), h29, h30, h31, (eq_true h32), (eq_true h33), (eq_true h35)]
                    · cases b26
                      simp -implicitDefEqProofs -dsimp only [go_sem, (eq_true h2), (condZ_t h2), (eq_true h4), (eq_true h5), (eq_false h8), (eq_true h27), h29, h30, h31, (eq_true h32), (eq_true h33), (eq_false h35)]
                      refine next_of gb26 ?_
                      simp -implicitDefEqProofs -dsimp only [go_sem, (eq_true h2), (condZ_t h2), (eq_true h4), (eq_true h5), (eq_false h8), (eq_true h27), h29, h30, h31, (eq_true h32), (eq_true h33), (eq_false h35)]
                  · cases b26
                    simp -implicitDefEqProofs -dsimp only [go_sem, (eq_true h2), (condZ_t h2), (eq_true h4), (eq_true h5), (eq_false h8), (eq_true h27), h29, h30, h31, (eq_true h32), (eq_false h33)]
                    refine next_of gb26 ?_
                    simp -implicitDefEqProofs -dsimp only [go_sem, (eq_true h2), (condZ_t h2), (eq_true h4), (eq_true h5), (eq_false h8), (eq_true h27), h29, h30, h31, (eq_true h32), (eq_false h33)]
                · rcases ite_some b26 with ⟨h37, b26⟩ | ⟨h37, b26⟩
                  · obtain ⟨r1009, g38, b26⟩ := obnd_some b26
                    simp -implicitDefEqProofs -dsimp only [go_sem, (eq_true h2), (condZ_t h2), (eq_true h4), (eq_true h5), (eq_false h8), (eq_true h27), h29, h30, h31, (eq_false h32), (eq_true h37)]
                    refine callW_of (c_spec_l08Watcher g38) ?_
                    rcases ite_some b26 with ⟨h39, b26⟩ | ⟨h39, b26⟩
                    · cases b26
                      have e40 := done_of gb26
                      subst e40
                      try dsimp only at h
                      cases h
                      simp -implicitDefEqProofs -dsimp only [go_sem, (eq_true h2), (condZ_t h2), (eq_true h4), (eq_true h5), (eq_false h8), (eq_true h27), h29, h30, h31, (eq_false h32), (eq_true h37), (eq_true h39)]
                    · cases b26
                      simp -implicitDefEqProofs -dsimp only [go_sem, (eq_true h2), (condZ_t h2), (eq_true h4), (eq_true h5), (eq_false h8), (eq_true h27), h29, h30, h31, (eq_false h32), (eq_true h37), (eq_false h39)]
                      refine next_of gb26 ?_
                      simp -implicitDefEqProofs -dsimp only [go_sem, (eq_true h2), (condZ_t h2), (eq_true h4), (eq_true h5), (eq_false h8), (eq_true h27), h29, h30, h31, (eq_false h32), (eq_true h37), (eq_false h39)]
                  · cases b26
                    have e41 := done_of gb26
                    subst e41
                    try dsimp only at h
                    cases h
                    simp -implicitDefEqProofs -dsimp only [go_sem, (eq_true h2), (condZ_t h2), (eq_true h4), (eq_true h5), (eq_false h8), (eq_true h27), h29, h30, h31, (eq_false h32), (eq_false h37)]
              · cases b26
                have e42 := done_of gb26
                subst e42
                try dsimp only at h
                cases h
                simp -implicitDefEqProofs -dsimp only [go_sem, (eq_true h2), (condZ_t h2), (eq_true h4), (eq_true h5), (eq_false h8), (eq_false h27)]
      · cases h
        simp -implicitDefEqProofs -dsimp only [go_sem, (eq_true h2), (condZ_t h2), (eq_true h4), (eq_false h5)]
    · cases h
      simp -implicitDefEqProofs -dsimp only [go_sem, (eq_true h2), (condZ_t h2), (eq_false h4)]
  · cases h
    simp -implicitDefEqProofs -dsimp only [go_sem, (eq_false h2), (condZ_f h2)]
/- 190 loop.example/g00827/spec.l13Active -/
def m_spec_l13Active_L1_St (v10 : List GTie) (v11 : Int) (v3_0 : Int) (v3_1 : List Int) (v3_2 : List Int) : (Int × (List Int)) → St
  | (v12, out) => ⟨[(3, .ptr 192 1 0 0), (5, .ref 512 1 0 out.length), (10, .sl (rowsOf GTie.enc v10)), (11, .lit (.int .i64 v11)), (12, .lit (.int .i64 v12))], [(192, 1, .var [.lit (.int .i64 v3_0), .sl (rowsOf eI v3_1), .sl (rowsOf eI v3_2)]), (512, 1, .row true (rowsOf eI out))], 2⟩
attribute [go_sem] m_spec_l13Active_L1_St
def hi190 : Hint where
  acts := fun _ => []
  draws := fun
    | _ => ⟨.nil, [], []⟩
theorem hi190a (i : Nat) : hi190.acts i = [] := rfl
theorem hi190v (i : Nat) : hi190.views i = none := rfl
attribute [go_sem] hi190a hi190v Go.Proofs.Try.ntmps190 Go.Proofs.Try.results190
theorem c_spec_l13Active {s : GShow} {v1 : GState} {res : List Int} (h : m_spec_l13Active s v1 = some res) : CallOk Go.Proofs.Try.prog 190 [.agg [.sl (rowsOf GNode.encS s.nodes), .sl (rowsOf GTie.enc s.ties), .lit (.int .i64 s.horizon)], .agg [.lit (.int .i64 v1.now), .sl (rowsOf eI v1.times), .sl (rowsOf eI v1.values)]] [] (.ref 20000 1 0 res.length) [(20000, 1, .row true (rowsOf eI res))] := by
  refine callOk_of (ra := [.home 4]) (md := mdT) hT (hi := hi190) Go.Proofs.Try.func190 rfl rfl (by decide +kernel) (by simp) ?_
  unfold m_spec_l13Active at h
  obtain ⟨q1004, l1, h⟩ := obnd_some h
  simp -implicitDefEqProofs -dsimp only [go_sem]
  refine loopW_loopO (m1 := .mk) (m2 := .mk) [.nf [3, 5, 10, 11, 12] [192, 512]] (m_spec_l13Active_L1_St s.ties ((s.ties.length : Nat) : Int) v1.now v1.times v1.values) l1 ?_ ?_
  · simp -implicitDefEqProofs -dsimp only [go_sem]
  · intro nb2 sb2 bb2 b2 gb2
    obtain ⟨v12_1, out_1⟩ := sb2
    unfold m_spec_l13Active_L1 at b2
    try dsimp only at b2
    rcases ite_some b2 with ⟨h3, b2⟩ | ⟨h3, b2⟩
    · obtain ⟨x1001, g4, b2⟩ := obnd_some b2
      obtain ⟨h5, h6, h7⟩ := getI_some g4
      rcases ite_some b2 with ⟨h8, b2⟩ | ⟨h8, b2⟩
      · obtain ⟨x1002, g9, b2⟩ := obnd_some b2
        obtain ⟨h10, h11, h12⟩ := getI_some g9
        rcases ite_some b2 with ⟨h13, b2⟩ | ⟨h13, b2⟩
        · cases b2
          simp -implicitDefEqProofs -dsimp only [go_sem, (eq_true h3), h5, h6, h7, (eq_true h8), (condZ_t h8), h10, h11, h12, (eq_true h13)]
          refine next_of gb2 ?_
          simp -implicitDefEqProofs -dsimp only [go_sem, (eq_true h3), h5, h6, h7, (eq_true h8), (condZ_t h8), h10, h11, h12, (eq_true h13)]
        · obtain ⟨x1003, g14, b2⟩ := obnd_some b2
          obtain ⟨h15, h16, h17⟩ := getI_some g14
          rcases ite_some b2 with ⟨h18, b2⟩ | ⟨h18, b2⟩
          · obtain ⟨h19, b2⟩ := chk_some b2
            obtain ⟨h20, b2⟩ := chk_some b2
            cases b2
            simp -implicitDefEqProofs -dsimp only [go_sem, (eq_true h3), h5, h6, h7, (eq_true h8), (condZ_t h8), h10, h11, h12, (eq_false h13), h15, h16, h17, (eq_true h18), (eq_true h19), (eq_true h20)]
            refine next_of gb2 ?_
            simp -implicitDefEqProofs -dsimp only [go_sem, (eq_true h3), h5, h6, h7, (eq_true h8), (condZ_t h8), h10, h11, h12, (eq_false h13), h15, h16, h17, (eq_true h18), (eq_true h19), (eq_true h20)]
          · cases b2
            simp -implicitDefEqProofs -dsimp only [go_sem, (eq_true h3), h5, h6, h7, (eq_true h8), (condZ_t h8), h10, h11, h12, (eq_false h13), h15, h16, h17, (eq_false h18)]
            refine next_of gb2 ?_
            simp -implicitDefEqProofs -dsimp only [go_sem, (eq_true h3), h5, h6, h7, (eq_true h8), (condZ_t h8), h10, h11, h12, (eq_false h13), h15, h16, h17, (eq_false h18)]
      · cases b2
        simp -implicitDefEqProofs -dsimp only [go_sem, (eq_true h3), h5, h6, h7, (eq_false h8), (condZ_f h8)]
        refine next_of gb2 ?_
        simp -implicitDefEqProofs -dsimp only [go_sem, (eq_true h3), h5, h6, h7, (eq_false h8), (condZ_f h8)]
    · cases b2
      have e21 := done_of gb2
      subst e21
      try dsimp only at h
      cases h
      simp -implicitDefEqProofs -dsimp only [go_sem, (eq_false h3)]
/- 191 loop.example/g00827/spec.l10Length -/
def m_spec_l10Length_L1_St (tie : Int) (v11 : Int) (v4_0 : List Int) (v4_1 : List Int) (v10 : List Int) (v12 : Int) : St := ⟨[(2, .lit (.int .i64 tie)), (4, .ptr 256 1 0 0), (10, .ref 640 1 0 v10.length), (11, .lit (.int .i64 v11)), (12, .lit (.int .i64 v12))], [(256, 1, .var [.sl (rowsOf eI v4_0), .sl (rowsOf eI v4_1)]), (640, 1, .row true (rowsOf eI v10))], 2⟩
attribute [go_sem] m_spec_l10Length_L1_St
def hi191 : Hint where
  acts := fun _ => []
  draws := fun
    | _ => ⟨.nil, [], []⟩
theorem hi191a (i : Nat) : hi191.acts i = [] := rfl
theorem hi191v (i : Nat) : hi191.views i = none := rfl
attribute [go_sem] hi191a hi191v Go.Proofs.Try.ntmps191 Go.Proofs.Try.results191
theorem c_spec_l10Length {s : GShow} {v1 : GChoice} {tie : Int} {res : Int} (h : m_spec_l10Length s v1 tie = some res) : CallOk Go.Proofs.Try.prog 191 [.agg [.sl (rowsOf GNode.encS s.nodes), .sl (rowsOf GTie.enc s.ties), .lit (.int .i64 s.horizon)], .agg [.sl (rowsOf eI v1.lengths), .sl (rowsOf eI v1.values)], .lit (.int .i64 tie)] [] (.lit (.int .i64 res)) [] := by
  refine callOk_of (ra := []) (md := mdT) hT (hi := hi191) Go.Proofs.Try.func191 rfl rfl (by decide +kernel) (by simp) ?_
  unfold m_spec_l10Length at h
  obtain ⟨r1001, g1, h⟩ := obnd_some h
  simp -implicitDefEqProofs -dsimp only [go_sem]
  refine callW_of (c_spec_l10Free g1) ?_
  obtain ⟨q1004, l2, h⟩ := obnd_some h
  simp -implicitDefEqProofs -dsimp only [go_sem]
  refine loopW_loopO (m1 := .mk) (m2 := .mk) [.nf [2, 4, 10, 11, 12] [256, 640]] (m_spec_l10Length_L1_St tie ((r1001.length : Nat) : Int) v1.lengths v1.values r1001) l2 ?_ ?_
  · simp -implicitDefEqProofs -dsimp only [go_sem]
  · intro nb3 sb3 bb3 b3 gb3
    obtain ⟨v12_1, eb3⟩ : ∃ v, v = sb3 := ⟨_, rfl⟩; subst eb3
    unfold m_spec_l10Length_L1 at b3
    try dsimp only at b3
    rcases ite_some b3 with ⟨h4, b3⟩ | ⟨h4, b3⟩
    · obtain ⟨x1002, g5, b3⟩ := obnd_some b3
      obtain ⟨h6, h7, h8⟩ := getI_some g5
      rcases ite_some b3 with ⟨h9, b3⟩ | ⟨h9, b3⟩
      · obtain ⟨x1003, g10, b3⟩ := obnd_some b3
        obtain ⟨h11, h12, h13⟩ := getI_some g10
        cases b3
        have e14 := done_of gb3
        subst e14
        try dsimp only at h
        cases h
        simp -implicitDefEqProofs -dsimp only [go_sem, (eq_true h4), h6, h7, h8, (eq_true h9), h11, h12, h13]
      · cases b3
        simp -implicitDefEqProofs -dsimp only [go_sem, (eq_true h4), h6, h7, h8, (eq_false h9)]
        refine next_of gb3 ?_
        simp -implicitDefEqProofs -dsimp only [go_sem, (eq_true h4), h6, h7, h8, (eq_false h9)]
    · cases b3
      have e15 := done_of gb3
      subst e15
      try dsimp only at h
      cases h
      simp -implicitDefEqProofs -dsimp only [go_sem, (eq_false h4)]
/- 140 loop.example/g00827/spec.l23Ending -/
def m_spec_l23Ending_L1_St (v14 : Int) (s_0 : List GNode) (s_1 : List GTie) (s_2 : Int) (v4_0 : Int) (v4_1 : List Int) (v4_2 : List Int) (v5_0 : List Int) (v5_1 : List Int) (v13 : List Int) : (Int × (List Int)) → St
  | (v15, out) => ⟨[(3, .ptr 192 1 0 0), (4, .ptr 256 1 0 0), (5, .ptr 320 1 0 0), (7, .ref 640 1 0 out.length), (13, .ref 832 1 0 v13.length), (14, .lit (.int .i64 v14)), (15, .lit (.int .i64 v15))], [(192, 1, .var [.sl (rowsOf GNode.encS s_0), .sl (rowsOf GTie.enc s_1), .lit (.int .i64 s_2)]), (256, 1, .var [.lit (.int .i64 v4_0), .sl (rowsOf eI v4_1), .sl (rowsOf eI v4_2)]), (320, 1, .var [.sl (rowsOf eI v5_0), .sl (rowsOf eI v5_1)]), (640, 1, .row true (rowsOf eI out)), (832, 1, .row true (rowsOf eI v13))], 2⟩
attribute [go_sem] m_spec_l23Ending_L1_St
def hi140 : Hint where
  acts := fun _ => []
  draws := fun
    | 5 => ⟨.cons ⟨0, true, []⟩ (.cons ⟨1, true, []⟩ (.cons ⟨2, true, []⟩ (.cons ⟨3, true, []⟩ (.cons ⟨4, true, []⟩ (.cons ⟨5, true, []⟩ (.cons ⟨6, false, []⟩ (.cons ⟨7, true, []⟩ (.cons ⟨8, true, []⟩ (.cons ⟨9, true, []⟩ (.cons ⟨10, true, []⟩ (.cons ⟨11, true, []⟩ (.cons ⟨12, false, []⟩ (.cons ⟨13, false, []⟩ (.cons ⟨14, false, []⟩ (.cons ⟨15, false, []⟩ (.cons ⟨16, false, [0, 1, 2, 3, 4, 5, 7, 8, 9, 10, 11]⟩ (.cons ⟨17, false, []⟩ .nil))))))))))))))))), [[], [0], [], [2], [], [4], [], [4, 5, 6], [4, 5, 6, 7], [4, 5, 6, 7, 8], [2, 3, 4, 5, 6, 7, 8, 9], [2, 3, 4, 5, 6, 7, 8, 9, 10], [0, 1, 2, 3, 4, 5, 6, 7, 8, 9, 10, 11], [], [], [], [13, 14, 15], [0, 1, 2, 3, 4, 5, 6, 7, 8, 9, 10, 11, 12, 13, 14, 15, 16]], [0, 1, 2, 3, 4, 5, 6, 7, 8, 9, 10, 11, 12, 13, 14, 15, 16, 17]⟩
    | _ => ⟨.nil, [], []⟩
theorem hi140a (i : Nat) : hi140.acts i = [] := rfl
theorem hi140v (i : Nat) : hi140.views i = none := rfl
attribute [go_sem] hi140a hi140v Go.Proofs.Try.ntmps140 Go.Proofs.Try.results140
@[go_sem] theorem hi140d5 : (hi140.draws 5).order = .cons ⟨0, true, []⟩ (.cons ⟨1, true, []⟩ (.cons ⟨2, true, []⟩ (.cons ⟨3, true, []⟩ (.cons ⟨4, true, []⟩ (.cons ⟨5, true, []⟩ (.cons ⟨6, false, []⟩ (.cons ⟨7, true, []⟩ (.cons ⟨8, true, []⟩ (.cons ⟨9, true, []⟩ (.cons ⟨10, true, []⟩ (.cons ⟨11, true, []⟩ (.cons ⟨12, false, []⟩ (.cons ⟨13, false, []⟩ (.cons ⟨14, false, []⟩ (.cons ⟨15, false, []⟩ (.cons ⟨16, false, [0, 1, 2, 3, 4, 5, 7, 8, 9, 10, 11]⟩ (.cons ⟨17, false, []⟩ .nil))))))))))))))))) := rfl
theorem c_spec_l23Ending {s : GShow} {v1 : GState} {v2 : GChoice} {res : List Int} (h : m_spec_l23Ending s v1 v2 = some res) : CallOk Go.Proofs.Try.prog 140 [.agg [.sl (rowsOf GNode.encS s.nodes), .sl (rowsOf GTie.enc s.ties), .lit (.int .i64 s.horizon)], .agg [.lit (.int .i64 v1.now), .sl (rowsOf eI v1.times), .sl (rowsOf eI v1.values)], .agg [.sl (rowsOf eI v2.lengths), .sl (rowsOf eI v2.values)]] [] (.ref 20000 1 0 res.length) [(20000, 1, .row true (rowsOf eI res))] := by
  refine callOk_of (ra := [.home 6]) (md := mdT) hT (hi := hi140) Go.Proofs.Try.func140 rfl rfl (by decide +kernel) (by simp) ?_
  unfold m_spec_l23Ending at h
  obtain ⟨r1001, g1, h⟩ := obnd_some h
  simp -implicitDefEqProofs -dsimp only [go_sem]
  refine callW_of (c_spec_l13Active g1) ?_
  obtain ⟨q1006, l2, h⟩ := obnd_some h
  simp -implicitDefEqProofs -dsimp only [go_sem]
  refine loopW_loopO (m1 := .mk) (m2 := .mk) [.nf [3, 4, 5, 7, 13, 14, 15] [192, 256, 320, 640, 832]] (m_spec_l23Ending_L1_St ((r1001.length : Nat) : Int) s.nodes s.ties s.horizon v1.now v1.times v1.values v2.lengths v2.values r1001) l2 ?_ ?_
  · simp -implicitDefEqProofs -dsimp only [go_sem]
  · intro nb3 sb3 bb3 b3 gb3
    obtain ⟨v15_1, out_1⟩ := sb3
    unfold m_spec_l23Ending_L1 at b3
    try dsimp only at b3
    rcases ite_some b3 with ⟨h4, b3⟩ | ⟨h4, b3⟩
    · obtain ⟨x1002, g5, b3⟩ := obnd_some b3
      obtain ⟨h6, h7, h8⟩ := getI_some g5
      obtain ⟨x1003, g9, b3⟩ := obnd_some b3
      obtain ⟨h10, h11, h12⟩ := getI_some g9
      obtain ⟨x1004, g13, b3⟩ := obnd_some b3
      obtain ⟨h14, h15, h16⟩ := getI_some g13
      obtain ⟨r1005, g17, b3⟩ := obnd_some b3
      simp -implicitDefEqProofs -dsimp only [go_sem, (eq_true h4), h6, h7, h8, h10, h11, h12, h14, h15, h16]
      refine callW_of (c_spec_l10Length g17) ?_
      rcases ite_some b3 with ⟨h18, b3⟩ | ⟨h18, b3⟩
      · obtain ⟨h19, b3⟩ := chk_some b3
        obtain ⟨h20, b3⟩ := chk_some b3
        cases b3
        simp -implicitDefEqProofs -dsimp only [go_sem, (eq_true h4), h6, h7, h8, h10, h11, h12, h14, h15, h16, (eq_true h18), (eq_true h19), (eq_true h20)]
        refine next_of gb3 ?_
        simp -implicitDefEqProofs -dsimp only [go_sem, (eq_true h4), h6, h7, h8, h10, h11, h12, h14, h15, h16, (eq_true h18), (eq_true h19), (eq_true h20)]
      · cases b3
        simp -implicitDefEqProofs -dsimp only [go_sem, (eq_true h4), h6, h7, h8, h10, h11, h12, h14, h15, h16, (eq_false h18)]
        refine next_of gb3 ?_
        simp -implicitDefEqProofs -dsimp only [go_sem, (eq_true h4), h6, h7, h8, h10, h11, h12, h14, h15, h16, (eq_false h18)]
    · cases b3
      have e21 := done_of gb3
      subst e21
      try dsimp only at h
      cases h
      simp -implicitDefEqProofs -dsimp only [go_sem, (eq_false h4)]
/- 74 loop.example/g00827/spec.EndingFor -/
def hi74 : Hint where
  acts := fun _ => []
  draws := fun
    | _ => ⟨.nil, [], []⟩
theorem hi74a (i : Nat) : hi74.acts i = [] := rfl
theorem hi74v (i : Nat) : hi74.views i = none := rfl
attribute [go_sem] hi74a hi74v Go.Proofs.Try.ntmps74 Go.Proofs.Try.results74
theorem c_spec_EndingFor {s : GShow} {v1 : GState} {v2 : GChoice} {res : List Int} (h : m_spec_EndingFor s v1 v2 = some res) : CallOk Go.Proofs.Try.prog 74 [.agg [.sl (rowsOf GNode.encS s.nodes), .sl (rowsOf GTie.enc s.ties), .lit (.int .i64 s.horizon)], .agg [.lit (.int .i64 v1.now), .sl (rowsOf eI v1.times), .sl (rowsOf eI v1.values)], .agg [.sl (rowsOf eI v2.lengths), .sl (rowsOf eI v2.values)]] [] (.ref 20000 1 0 res.length) [(20000, 1, .row true (rowsOf eI res))] := by
  refine callOk_of (ra := [.home 6]) (md := mdT) hT (hi := hi74) Go.Proofs.Try.func74 rfl rfl (by decide +kernel) (by simp) ?_
  unfold m_spec_EndingFor at h
  obtain ⟨r1001, g1, h⟩ := obnd_some h
  simp -implicitDefEqProofs -dsimp only [go_sem]
  refine callW_of (c_spec_StateOk g1) ?_
  rcases ite_some h with ⟨h2, h⟩ | ⟨h2, h⟩
  · obtain ⟨r1002, g3, h⟩ := obnd_some h
    simp -implicitDefEqProofs -dsimp only [go_sem, (eq_true h2), (condZ_t h2)]
    refine callW_of (c_spec_ChoiceOk g3) ?_
    rcases ite_some h with ⟨h4, h⟩ | ⟨h4, h⟩
    · obtain ⟨r1003, g5, h⟩ := obnd_some h
      simp -implicitDefEqProofs -dsimp only [go_sem, (eq_true h2), (condZ_t h2), (eq_true h4), (condZ_t h4)]
      refine callW_of (c_spec_l23Ending g5) ?_
      cases h
      simp -implicitDefEqProofs -dsimp only [go_sem, (eq_true h2), (condZ_t h2), (eq_true h4), (condZ_t h4)]
    · cases h
      simp -implicitDefEqProofs -dsimp only [go_sem, (eq_true h2), (condZ_t h2), (eq_false h4), (condZ_f h4)]
  · cases h
    simp -implicitDefEqProofs -dsimp only [go_sem, (eq_false h2), (condZ_f h2)]
/- 208 loop.example/g00827/impl.ValuesOk$1 -/
def hi208 : Hint where
  acts := fun _ => []
  draws := fun
    | _ => ⟨.nil, [], []⟩
theorem hi208a (i : Nat) : hi208.acts i = [] := rfl
theorem hi208v (i : Nat) : hi208.views i = none := rfl
attribute [go_sem] hi208a hi208v Go.Proofs.Try.ntmps208 Go.Proofs.Try.results208
theorem c_impl_ValuesOk_c1 {n : Int} {res : Bool} (h : m_impl_ValuesOk_c1 n = some res) : CallOk Go.Proofs.Try.prog 208 [.lit (.int .i64 n)] [] (.lit (.bool res)) [] := by
  refine callOk_of (ra := []) (md := mdT) hT (hi := hi208) Go.Proofs.Try.func208 rfl rfl (by decide +kernel) (by simp) ?_
  unfold m_impl_ValuesOk_c1 at h
  rcases ite_some h with ⟨h1, h⟩ | ⟨h1, h⟩
  · cases h
    simp -implicitDefEqProofs -dsimp only [go_sem, (eq_true h1)]
  · cases h
    simp -implicitDefEqProofs -dsimp only [go_sem, (eq_false h1)]
/- 204 loop.example/g00827/impl.ValuesOk -/
def hi204 : Hint where
  acts := fun _ => []
  draws := fun
    | _ => ⟨.nil, [], []⟩
theorem hi204a (i : Nat) : hi204.acts i = [] := rfl
theorem hi204v (i : Nat) : hi204.views i = none := rfl
attribute [go_sem] hi204a hi204v Go.Proofs.Try.ntmps204 Go.Proofs.Try.results204
theorem c_impl_ValuesOk {v : List Int} {res : Bool} (h : m_impl_ValuesOk v = some res) : CallOk Go.Proofs.Try.prog 204 [.sl (rowsOf eI v)] [] (.lit (.bool res)) [] := by
  refine callOk_of (ra := []) (md := mdT) hT (hi := hi204) Go.Proofs.Try.func204 rfl rfl (by decide +kernel) (by simp) ?_
  unfold m_impl_ValuesOk at h
  rcases ite_some h with ⟨h1, h⟩ | ⟨h1, h⟩
  · obtain ⟨r1001, g2, h⟩ := obnd_some h
    simp -implicitDefEqProofs -dsimp only [go_sem, (eq_true h1)]
    refine callW_of (c_slices_ContainsFunc_int (by exact fun _ _ hr => c_impl_ValuesOk_c1 hr) (by refine ⟨fun _ => ?_, fun _ => ?_⟩ <;> simp only [go_sem]) (by rfl) g2) ?_
    cases h
    simp -implicitDefEqProofs -dsimp only [go_sem, (eq_true h1)]
  · cases h
    simp -implicitDefEqProofs -dsimp only [go_sem, (eq_false h1)]
/- 189 loop.example/g00827/impl.isState -/
def m_impl_isState_L1_St (v37 : List Int) (v38 : Int) (s_0 : List GNode) (s_1 : List GTie) (s_2 : Int) (v3_0 : Int) (v3_2 : List Int) (v39 : Int) : St := ⟨[(2, .ptr 128 1 0 0), (3, .ptr 192 1 0 0), (37, .sl (rowsOf eI v37)), (38, .lit (.int .i64 v38)), (39, .lit (.int .i64 v39))], [(128, 1, .var [.sl (rowsOf GNode.encS s_0), .sl (rowsOf GTie.enc s_1), .lit (.int .i64 s_2)]), (192, 1, .var [.lit (.int .i64 v3_0), .sl (rowsOf eI v37), .sl (rowsOf eI v3_2)])], 2⟩
attribute [go_sem] m_impl_isState_L1_St
def m_impl_isState_L2_St (v67 : List Int) (v68 : Int) (s_0 : List GNode) (s_1 : List GTie) (s_2 : Int) (v3_0 : Int) (v3_1 : List Int) (v69 : Int) : St := ⟨[(2, .ptr 128 1 0 0), (3, .ptr 192 1 0 0), (67, .sl (rowsOf eI v67)), (68, .lit (.int .i64 v68)), (69, .lit (.int .i64 v69))], [(128, 1, .var [.sl (rowsOf GNode.encS s_0), .sl (rowsOf GTie.enc s_1), .lit (.int .i64 s_2)]), (192, 1, .var [.lit (.int .i64 v3_0), .sl (rowsOf eI v3_1), .sl (rowsOf eI v67)])], 2⟩
attribute [go_sem] m_impl_isState_L2_St
def hi189 : Hint where
  acts := fun _ => []
  draws := fun
    | _ => ⟨.nil, [], []⟩
theorem hi189a (i : Nat) : hi189.acts i = [] := rfl
theorem hi189v (i : Nat) : hi189.views i = none := rfl
attribute [go_sem] hi189a hi189v Go.Proofs.Try.ntmps189 Go.Proofs.Try.results189
theorem c_impl_isState {s : GShow} {v1 : GState} {res : Bool} (h : m_impl_isState s v1 = some res) : CallOk Go.Proofs.Try.prog 189 [.agg [.sl (rowsOf GNode.encS s.nodes), .sl (rowsOf GTie.enc s.ties), .lit (.int .i64 s.horizon)], .agg [.lit (.int .i64 v1.now), .sl (rowsOf eI v1.times), .sl (rowsOf eI v1.values)]] [] (.lit (.bool res)) [] := by
  refine callOk_of (ra := []) (md := mdT) hT (hi := hi189) Go.Proofs.Try.func189 rfl rfl (by decide +kernel) (by simp) ?_
  unfold m_impl_isState at h
  rcases ite_some h with ⟨h1, h⟩ | ⟨h1, h⟩
  · cases h
    simp -implicitDefEqProofs -dsimp only [go_sem, (eq_true h1)]
  · rcases ite_some h with ⟨h2, h⟩ | ⟨h2, h⟩
    · cases h
      simp -implicitDefEqProofs -dsimp only [go_sem, (eq_false h1), (eq_true h2)]
    · rcases ite_some h with ⟨h3, h⟩ | ⟨h3, h⟩
      · obtain ⟨r1001, g4, h⟩ := obnd_some h
        simp -implicitDefEqProofs -dsimp only [go_sem, (eq_false h1), (eq_false h2), (eq_true h3)]
        refine callW_of (c_impl_ValuesOk g4) ?_
        rcases ite_some h with ⟨h5, h⟩ | ⟨h5, h⟩
        · obtain ⟨q1007, l6, h⟩ := obnd_some h
          simp -implicitDefEqProofs -dsimp only [go_sem, (eq_false h1), (eq_false h2), (eq_true h3), (eq_true h5), (condZ_t h5)]
          refine loopW_loopO (m1 := .mk) (m2 := .mk) [.nf [2, 3, 37, 38, 39] [128, 192]] (m_impl_isState_L1_St v1.times ((v1.times.length : Nat) : Int) s.nodes s.ties s.horizon v1.now v1.values) l6 ?_ ?_
          · simp -implicitDefEqProofs -dsimp only [go_sem, (eq_false h1), (eq_false h2), (eq_true h3), (eq_true h5), (condZ_t h5)]
          · intro nb7 sb7 bb7 b7 gb7
            obtain ⟨v39_1, eb7⟩ : ∃ v, v = sb7 := ⟨_, rfl⟩; subst eb7
            unfold m_impl_isState_L1 at b7
            try dsimp only at b7
            rcases ite_some b7 with ⟨h8, b7⟩ | ⟨h8, b7⟩
            · obtain ⟨x1002, g9, b7⟩ := obnd_some b7
              obtain ⟨h10, h11, h12⟩ := getI_some g9
              rcases ite_some b7 with ⟨h13, b7⟩ | ⟨h13, b7⟩
              · rcases ite_some b7 with ⟨h14, b7⟩ | ⟨h14, b7⟩
                · rcases ite_some b7 with ⟨h15, b7⟩ | ⟨h15, b7⟩
                  · rcases ite_some b7 with ⟨h16, b7⟩ | ⟨h16, b7⟩
                    · cases b7
                      have e17 := done_of gb7
                      subst e17
                      try dsimp only at h
                      cases h
                      simp -implicitDefEqProofs -dsimp only [go_sem, (eq_false h1), (eq_false h2), (eq_true h3), (eq_true h5), (condZ_t h5), (eq_true h8), h10, h11, h12, (eq_true h13), (eq_true h14), (eq_true h15), (eq_true h16)]
                    · rcases ite_some b7 with ⟨h18, b7⟩ | ⟨h18, b7⟩
                      · cases b7
                        have e19 := done_of gb7
                        subst e19
                        try dsimp only at h
                        cases h
                        simp -implicitDefEqProofs -dsimp only [go_sem, (eq_false h1), (eq_false h2), (eq_true h3), (eq_true h5), (condZ_t h5), (eq_true h8), h10, h11, h12, (eq_true h13), (eq_true h14), (eq_true h15), (eq_false h16), (eq_true h18)]
                      · cases b7
                        simp -implicitDefEqProofs -dsimp only [go_sem, (eq_false h1), (eq_false h2), (eq_true h3), (eq_true h5), (condZ_t h5), (eq_true h8), h10, h11, h12, (eq_true h13), (eq_true h14), (eq_true h15), (eq_false h16), (eq_false h18)]
                        refine next_of gb7 ?_
                        simp -implicitDefEqProofs -dsimp only [go_sem, (eq_false h1), (eq_false h2), (eq_true h3), (eq_true h5), (condZ_t h5), (eq_true h8), h10, h11, h12, (eq_true h13), (eq_true h14), (eq_true h15), (eq_false h16), (eq_false h18)]
                  · cases b7
                    simp -implicitDefEqProofs -dsimp only [go_sem, (eq_false h1), (eq_false h2), (eq_true h3), (eq_true h5), (condZ_t h5), (eq_true h8), h10, h11, h12, (eq_true h13), (eq_true h14), (eq_false h15)]
                    refine next_of gb7 ?_
                    simp -implicitDefEqProofs -dsimp only [go_sem, (eq_false h1), (eq_false h2), (eq_true h3), (eq_true h5), (condZ_t h5), (eq_true h8), h10, h11, h12, (eq_true h13), (eq_true h14), (eq_false h15)]
                · cases b7
                  have e20 := done_of gb7
                  subst e20
                  try dsimp only at h
                  cases h
                  simp -implicitDefEqProofs -dsimp only [go_sem, (eq_false h1), (eq_false h2), (eq_true h3), (eq_true h5), (condZ_t h5), (eq_true h8), h10, h11, h12, (eq_true h13), (eq_false h14)]
              · rcases ite_some b7 with ⟨h21, b7⟩ | ⟨h21, b7⟩
                · rcases ite_some b7 with ⟨h22, b7⟩ | ⟨h22, b7⟩
                  · cases b7
                    have e23 := done_of gb7
                    subst e23
                    try dsimp only at h
                    cases h
                    simp -implicitDefEqProofs -dsimp only [go_sem, (eq_false h1), (eq_false h2), (eq_true h3), (eq_true h5), (condZ_t h5), (eq_true h8), h10, h11, h12, (eq_false h13), (eq_true h21), (eq_true h22)]
                  · rcases ite_some b7 with ⟨h24, b7⟩ | ⟨h24, b7⟩
                    · cases b7
                      have e25 := done_of gb7
                      subst e25
                      try dsimp only at h
                      cases h
                      simp -implicitDefEqProofs -dsimp only [go_sem, (eq_false h1), (eq_false h2), (eq_true h3), (eq_true h5), (condZ_t h5), (eq_true h8), h10, h11, h12, (eq_false h13), (eq_true h21), (eq_false h22), (eq_true h24)]
                    · cases b7
                      simp -implicitDefEqProofs -dsimp only [go_sem, (eq_false h1), (eq_false h2), (eq_true h3), (eq_true h5), (condZ_t h5), (eq_true h8), h10, h11, h12, (eq_false h13), (eq_true h21), (eq_false h22), (eq_false h24)]
                      refine next_of gb7 ?_
                      simp -implicitDefEqProofs -dsimp only [go_sem, (eq_false h1), (eq_false h2), (eq_true h3), (eq_true h5), (condZ_t h5), (eq_true h8), h10, h11, h12, (eq_false h13), (eq_true h21), (eq_false h22), (eq_false h24)]
                · cases b7
                  simp -implicitDefEqProofs -dsimp only [go_sem, (eq_false h1), (eq_false h2), (eq_true h3), (eq_true h5), (condZ_t h5), (eq_true h8), h10, h11, h12, (eq_false h13), (eq_false h21)]
                  refine next_of gb7 ?_
                  simp -implicitDefEqProofs -dsimp only [go_sem, (eq_false h1), (eq_false h2), (eq_true h3), (eq_true h5), (condZ_t h5), (eq_true h8), h10, h11, h12, (eq_false h13), (eq_false h21)]
            · cases b7
              have e26 := done_of gb7
              subst e26
              try dsimp only at h
              obtain ⟨q1006, l27, h⟩ := obnd_some h
              simp -implicitDefEqProofs -dsimp only [go_sem, (eq_false h1), (eq_false h2), (eq_true h3), (eq_true h5), (condZ_t h5), (eq_false h8)]
              refine loopW_loopO (m1 := .mk) (m2 := .mk) [.nf [2, 3, 67, 68, 69] [128, 192]] (m_impl_isState_L2_St v1.values ((v1.values.length : Nat) : Int) s.nodes s.ties s.horizon v1.now v1.times) l27 ?_ ?_
              · simp -implicitDefEqProofs -dsimp only [go_sem, (eq_false h1), (eq_false h2), (eq_true h3), (eq_true h5), (condZ_t h5), (eq_false h8)]
              · intro nb28 sb28 bb28 b28 gb28
                obtain ⟨v69_2, eb28⟩ : ∃ v, v = sb28 := ⟨_, rfl⟩; subst eb28
                unfold m_impl_isState_L2 at b28
                try dsimp only at b28
                rcases ite_some b28 with ⟨h29, b28⟩ | ⟨h29, b28⟩
                · obtain ⟨x1003, g30, b28⟩ := obnd_some b28
                  obtain ⟨h31, h32, h33⟩ := getI_some g30
                  obtain ⟨r1004, g34, b28⟩ := obnd_some b28
                  simp -implicitDefEqProofs -dsimp only [go_sem, (eq_false h1), (eq_false h2), (eq_true h3), (eq_true h5), (condZ_t h5), (eq_false h8), (eq_true h29), h31, h32, h33]
                  refine callW_of (c_impl_watcher g34) ?_
                  rcases ite_some b28 with ⟨h35, b28⟩ | ⟨h35, b28⟩
                  · obtain ⟨x1005, g36, b28⟩ := obnd_some b28
                    obtain ⟨h37, h38, h39⟩ := getI_some g36
                    rcases ite_some b28 with ⟨h40, b28⟩ | ⟨h40, b28⟩
                    · cases b28
                      simp -implicitDefEqProofs -dsimp only [go_sem, (eq_false h1), (eq_false h2), (eq_true h3), (eq_true h5), (condZ_t h5), (eq_false h8), (eq_true h29), h31, h32, h33, (eq_true h35), h37, h38, h39, (eq_true h40)]
                      refine next_of gb28 ?_
                      simp -implicitDefEqProofs -dsimp only [go_sem, (eq_false h1), (eq_false h2), (eq_true h3), (eq_true h5), (condZ_t h5), (eq_false h8), (eq_true h29), h31, h32, h33, (eq_true h35), h37, h38, h39, (eq_true h40)]
                    · cases b28
                      have e41 := done_of gb28
                      subst e41
                      try dsimp only at h
                      cases h
                      simp -implicitDefEqProofs -dsimp only [go_sem, (eq_false h1), (eq_false h2), (eq_true h3), (eq_true h5), (condZ_t h5), (eq_false h8), (eq_true h29), h31, h32, h33, (eq_true h35), h37, h38, h39, (eq_false h40)]
                  · rcases ite_some b28 with ⟨h42, b28⟩ | ⟨h42, b28⟩
                    · cases b28
                      simp -implicitDefEqProofs -dsimp only [go_sem, (eq_false h1), (eq_false h2), (eq_true h3), (eq_true h5), (condZ_t h5), (eq_false h8), (eq_true h29), h31, h32, h33, (eq_false h35), (eq_true h42)]
                      refine next_of gb28 ?_
                      simp -implicitDefEqProofs -dsimp only [go_sem, (eq_false h1), (eq_false h2), (eq_true h3), (eq_true h5), (condZ_t h5), (eq_false h8), (eq_true h29), h31, h32, h33, (eq_false h35), (eq_true h42)]
                    · cases b28
                      have e43 := done_of gb28
                      subst e43
                      try dsimp only at h
                      cases h
                      simp -implicitDefEqProofs -dsimp only [go_sem, (eq_false h1), (eq_false h2), (eq_true h3), (eq_true h5), (condZ_t h5), (eq_false h8), (eq_true h29), h31, h32, h33, (eq_false h35), (eq_false h42)]
                · cases b28
                  have e44 := done_of gb28
                  subst e44
                  try dsimp only at h
                  cases h
                  simp -implicitDefEqProofs -dsimp only [go_sem, (eq_false h1), (eq_false h2), (eq_true h3), (eq_true h5), (condZ_t h5), (eq_false h8), (eq_false h29)]
        · cases h
          simp -implicitDefEqProofs -dsimp only [go_sem, (eq_false h1), (eq_false h2), (eq_true h3), (eq_false h5), (condZ_f h5)]
      · cases h
        simp -implicitDefEqProofs -dsimp only [go_sem, (eq_false h1), (eq_false h2), (eq_false h3)]
/- 138 loop.example/g00827/impl.StateOk -/
def hi138 : Hint where
  acts := fun _ => []
  draws := fun
    | _ => ⟨.nil, [], []⟩
theorem hi138a (i : Nat) : hi138.acts i = [] := rfl
theorem hi138v (i : Nat) : hi138.views i = none := rfl
attribute [go_sem] hi138a hi138v Go.Proofs.Try.ntmps138 Go.Proofs.Try.results138
theorem c_impl_StateOk {s : GShow} {v1 : GState} {res : Bool} (h : m_impl_StateOk s v1 = some res) : CallOk Go.Proofs.Try.prog 138 [.agg [.sl (rowsOf GNode.encS s.nodes), .sl (rowsOf GTie.enc s.ties), .lit (.int .i64 s.horizon)], .agg [.lit (.int .i64 v1.now), .sl (rowsOf eI v1.times), .sl (rowsOf eI v1.values)]] [] (.lit (.bool res)) [] := by
  refine callOk_of (ra := []) (md := mdT) hT (hi := hi138) Go.Proofs.Try.func138 rfl rfl (by decide +kernel) (by simp) ?_
  unfold m_impl_StateOk at h
  obtain ⟨r1001, g1, h⟩ := obnd_some h
  simp -implicitDefEqProofs -dsimp only [go_sem]
  refine callW_of (c_impl_ShowOk g1) ?_
  rcases ite_some h with ⟨h2, h⟩ | ⟨h2, h⟩
  · obtain ⟨r1002, g3, h⟩ := obnd_some h
    simp -implicitDefEqProofs -dsimp only [go_sem, (eq_true h2), (condZ_t h2)]
    refine callW_of (c_impl_isState g3) ?_
    cases h
    simp -implicitDefEqProofs -dsimp only [go_sem, (eq_true h2), (condZ_t h2)]
  · cases h
    simp -implicitDefEqProofs -dsimp only [go_sem, (eq_false h2), (condZ_f h2)]
/- 142 loop.example/g00827/impl.freeTies -/
def m_impl_freeTies_L1_St (v7 : List GTie) (v8 : Int) : (Int × (List Int)) → St
  | (v9, out) => ⟨[(3, .ref 255 1 0 out.length), (7, .sl (rowsOf GTie.enc v7)), (8, .lit (.int .i64 v8)), (9, .lit (.int .i64 v9))], [(255, 1, .row true (rowsOf eI out))], 2⟩
attribute [go_sem] m_impl_freeTies_L1_St
def hi142 : Hint where
  acts := fun _ => []
  draws := fun
    | _ => ⟨.nil, [], []⟩
theorem hi142a (i : Nat) : hi142.acts i = [] := rfl
theorem hi142v (i : Nat) : hi142.views i = none := rfl
attribute [go_sem] hi142a hi142v Go.Proofs.Try.ntmps142 Go.Proofs.Try.results142
theorem c_impl_freeTies {s : GShow} {res : List Int} (h : m_impl_freeTies s = some res) : CallOk Go.Proofs.Try.prog 142 [.agg [.sl (rowsOf GNode.encS s.nodes), .sl (rowsOf GTie.enc s.ties), .lit (.int .i64 s.horizon)]] [] (.ref 20000 1 0 res.length) [(20000, 1, .row true (rowsOf eI res))] := by
  refine callOk_of (ra := [.home 2]) (md := mdT) hT (hi := hi142) Go.Proofs.Try.func142 rfl rfl (by decide +kernel) (by simp) ?_
  unfold m_impl_freeTies at h
  obtain ⟨q1002, l1, h⟩ := obnd_some h
  simp -implicitDefEqProofs -dsimp only [go_sem]
  refine loopW_loopO (m1 := .mk) (m2 := .mk) [.home 3, .nf [3, 7, 8, 9] [255]] (m_impl_freeTies_L1_St s.ties ((s.ties.length : Nat) : Int)) l1 ?_ ?_
  · simp -implicitDefEqProofs -dsimp only [go_sem]
  · intro nb2 sb2 bb2 b2 gb2
    obtain ⟨v9_1, out_1⟩ := sb2
    unfold m_impl_freeTies_L1 at b2
    try dsimp only at b2
    rcases ite_some b2 with ⟨h3, b2⟩ | ⟨h3, b2⟩
    · obtain ⟨x1001, g4, b2⟩ := obnd_some b2
      obtain ⟨h5, h6, h7⟩ := getI_some g4
      rcases ite_some b2 with ⟨h8, b2⟩ | ⟨h8, b2⟩
      · obtain ⟨h9, b2⟩ := chk_some b2
        obtain ⟨h10, b2⟩ := chk_some b2
        cases b2
        simp -implicitDefEqProofs -dsimp only [go_sem, (eq_true h3), h5, h6, h7, (eq_true h8), (condZ_t h8), (eq_true h9), (eq_true h10)]
        refine next_of gb2 ?_
        simp -implicitDefEqProofs -dsimp only [go_sem, (eq_true h3), h5, h6, h7, (eq_true h8), (condZ_t h8), (eq_true h9), (eq_true h10)]
      · cases b2
        simp -implicitDefEqProofs -dsimp only [go_sem, (eq_true h3), h5, h6, h7, (eq_false h8), (condZ_f h8)]
        refine next_of gb2 ?_
        simp -implicitDefEqProofs -dsimp only [go_sem, (eq_true h3), h5, h6, h7, (eq_false h8), (condZ_f h8)]
    · cases b2
      have e11 := done_of gb2
      subst e11
      try dsimp only at h
      cases h
      simp -implicitDefEqProofs -dsimp only [go_sem, (eq_false h3)]
/- 141 loop.example/g00827/impl.isChoice -/
def m_impl_isChoice_L1_St (v25 : Int) (s_0 : List GNode) (s_1 : List GTie) (s_2 : Int) (v3_0 : List Int) (v3_1 : List Int) (v24 : List Int) (v26 : Int) : St := ⟨[(2, .ptr 128 1 0 0), (3, .ptr 192 1 0 0), (24, .ref 704 1 0 v24.length), (25, .lit (.int .i64 v25)), (26, .lit (.int .i64 v26))], [(128, 1, .var [.sl (rowsOf GNode.encS s_0), .sl (rowsOf GTie.enc s_1), .lit (.int .i64 s_2)]), (192, 1, .var [.sl (rowsOf eI v3_0), .sl (rowsOf eI v3_1)]), (704, 1, .row true (rowsOf eI v24))], 2⟩
attribute [go_sem] m_impl_isChoice_L1_St
def m_impl_isChoice_L2_St (v59 : List Int) (v60 : Int) (s_0 : List GNode) (s_1 : List GTie) (s_2 : Int) (v61 : Int) : St := ⟨[(2, .ptr 128 1 0 0), (59, .sl (rowsOf eI v59)), (60, .lit (.int .i64 v60)), (61, .lit (.int .i64 v61))], [(128, 1, .var [.sl (rowsOf GNode.encS s_0), .sl (rowsOf GTie.enc s_1), .lit (.int .i64 s_2)])], 2⟩
attribute [go_sem] m_impl_isChoice_L2_St
def hi141 : Hint where
  acts := fun _ => []
  draws := fun
    | 7 => ⟨.cons ⟨0, false, []⟩ (.cons ⟨1, false, []⟩ (.cons ⟨2, false, []⟩ (.cons ⟨3, false, []⟩ (.cons ⟨4, false, []⟩ (.cons ⟨5, false, []⟩ (.cons ⟨6, false, []⟩ (.cons ⟨7, false, []⟩ (.cons ⟨8, false, []⟩ (.cons ⟨9, false, []⟩ (.cons ⟨10, false, []⟩ (.cons ⟨11, false, []⟩ (.cons ⟨12, false, []⟩ (.cons ⟨13, false, []⟩ (.cons ⟨14, false, []⟩ (.cons ⟨15, false, []⟩ (.cons ⟨16, false, []⟩ (.cons ⟨17, false, []⟩ (.cons ⟨18, false, []⟩ (.cons ⟨19, false, []⟩ (.cons ⟨20, false, []⟩ (.cons ⟨21, false, []⟩ (.cons ⟨22, false, []⟩ (.cons ⟨23, false, []⟩ (.cons ⟨24, false, []⟩ (.cons ⟨25, false, []⟩ .nil))))))))))))))))))))))))), [[], [0], [], [0, 1, 2], [0, 1, 2, 3], [], [5], [], [5, 6, 7], [5, 6, 7, 8], [5, 6, 7, 8, 9], [0, 1, 2, 3, 4, 5, 6, 7, 8, 9, 10], [0, 1, 2, 3, 4, 5, 6, 7, 8, 9, 10, 11], [0, 1, 2, 3, 4, 5, 6, 7, 8, 9, 10, 11, 12], [0, 1, 2, 3, 4, 5, 6, 7, 8, 9, 10, 11, 12, 13], [0, 1, 2, 3, 4, 5, 6, 7, 8, 9, 10, 11, 12], [0, 1, 2, 3, 4, 5, 6, 7, 8, 9, 10, 11, 12, 13, 14, 15], [0, 1, 2, 3, 4, 5, 6, 7, 8, 9, 10, 11, 12, 13, 14, 15, 16], [0, 1, 2, 3, 4, 5, 6, 7, 8, 9, 10, 11, 12], [0, 1, 2, 3, 4, 5, 6, 7, 8, 9, 10, 11, 12, 18], [0, 1, 2, 3, 4, 5, 6, 7, 8, 9, 10, 11, 12], [0, 1, 2, 3, 4, 5, 6, 7, 8, 9, 10, 11, 12, 18, 19, 20], [0, 1, 2, 3, 4, 5, 6, 7, 8, 9, 10, 11, 12, 18, 19, 20, 21], [0, 1, 2, 3, 4, 5, 6, 7, 8, 9, 10, 11, 12, 18, 19, 20, 21, 22], [0, 1, 2, 3, 4, 5, 6, 7, 8, 9, 10, 11, 12, 13, 14, 15, 16, 17, 18, 19, 20, 21, 22, 23], [0, 1, 2, 3, 4, 5, 6, 7, 8, 9, 10, 11, 12, 13, 14, 15, 16, 17, 18, 19, 20, 21, 22, 23, 24]], [0, 1, 2, 3, 4, 5, 6, 7, 8, 9, 10, 11, 12, 13, 14, 15, 16, 17, 18, 19, 20, 21, 22, 23, 24, 25]⟩
    | _ => ⟨.nil, [], []⟩
theorem hi141a (i : Nat) : hi141.acts i = [] := rfl
theorem hi141v (i : Nat) : hi141.views i = none := rfl
attribute [go_sem] hi141a hi141v Go.Proofs.Try.ntmps141 Go.Proofs.Try.results141
@[go_sem] theorem hi141d7 : (hi141.draws 7).order = .cons ⟨0, false, []⟩ (.cons ⟨1, false, []⟩ (.cons ⟨2, false, []⟩ (.cons ⟨3, false, []⟩ (.cons ⟨4, false, []⟩ (.cons ⟨5, false, []⟩ (.cons ⟨6, false, []⟩ (.cons ⟨7, false, []⟩ (.cons ⟨8, false, []⟩ (.cons ⟨9, false, []⟩ (.cons ⟨10, false, []⟩ (.cons ⟨11, false, []⟩ (.cons ⟨12, false, []⟩ (.cons ⟨13, false, []⟩ (.cons ⟨14, false, []⟩ (.cons ⟨15, false, []⟩ (.cons ⟨16, false, []⟩ (.cons ⟨17, false, []⟩ (.cons ⟨18, false, []⟩ (.cons ⟨19, false, []⟩ (.cons ⟨20, false, []⟩ (.cons ⟨21, false, []⟩ (.cons ⟨22, false, []⟩ (.cons ⟨23, false, []⟩ (.cons ⟨24, false, []⟩ (.cons ⟨25, false, []⟩ .nil))))))))))))))))))))))))) := rfl
theorem c_impl_isChoice {s : GShow} {v1 : GChoice} {res : Bool} (h : m_impl_isChoice s v1 = some res) : CallOk Go.Proofs.Try.prog 141 [.agg [.sl (rowsOf GNode.encS s.nodes), .sl (rowsOf GTie.enc s.ties), .lit (.int .i64 s.horizon)], .agg [.sl (rowsOf eI v1.lengths), .sl (rowsOf eI v1.values)]] [] (.lit (.bool res)) [] := by
  refine callOk_of (ra := []) (md := mdT) hT (hi := hi141) Go.Proofs.Try.func141 rfl rfl (by decide +kernel) (by simp) ?_
  unfold m_impl_isChoice at h
  obtain ⟨r1001, g1, h⟩ := obnd_some h
  simp -implicitDefEqProofs -dsimp only [go_sem]
  refine callW_of (c_impl_freeTies g1) ?_
  rcases ite_some h with ⟨h2, h⟩ | ⟨h2, h⟩
  · rcases ite_some h with ⟨h3, h⟩ | ⟨h3, h⟩
    · obtain ⟨q1009, l4, h⟩ := obnd_some h
      simp -implicitDefEqProofs -dsimp only [go_sem, (eq_true h2), (eq_true h3)]
      refine loopW_loopO (m1 := .mk) (m2 := .mk) [.nf [2, 3, 24, 25, 26] [128, 192, 704]] (m_impl_isChoice_L1_St ((r1001.length : Nat) : Int) s.nodes s.ties s.horizon v1.lengths v1.values r1001) l4 ?_ ?_
      · simp -implicitDefEqProofs -dsimp only [go_sem, (eq_true h2), (eq_true h3)]
      · intro nb5 sb5 bb5 b5 gb5
        obtain ⟨v26_1, eb5⟩ : ∃ v, v = sb5 := ⟨_, rfl⟩; subst eb5
        unfold m_impl_isChoice_L1 at b5
        try dsimp only at b5
        rcases ite_some b5 with ⟨h6, b5⟩ | ⟨h6, b5⟩
        · obtain ⟨x1002, g7, b5⟩ := obnd_some b5
          obtain ⟨h8, h9, h10⟩ := getI_some g7
          obtain ⟨x1003, g11, b5⟩ := obnd_some b5
          obtain ⟨h12, h13, h14⟩ := getI_some g11
          obtain ⟨x1004, g15, b5⟩ := obnd_some b5
          obtain ⟨h16, h17, h18⟩ := getI_some g15
          rcases ite_some b5 with ⟨h19, b5⟩ | ⟨h19, b5⟩
          · cases b5
            have e20 := done_of gb5
            subst e20
            try dsimp only at h
            cases h
            simp -implicitDefEqProofs -dsimp only [go_sem, (eq_true h2), (eq_true h3), (eq_true h6), h8, h9, h10, h12, h13, h14, h16, h17, h18, (eq_true h19)]
          · rcases ite_some b5 with ⟨h21, b5⟩ | ⟨h21, b5⟩
            · cases b5
              have e22 := done_of gb5
              subst e22
              try dsimp only at h
              cases h
              simp -implicitDefEqProofs -dsimp only [go_sem, (eq_true h2), (eq_true h3), (eq_true h6), h8, h9, h10, h12, h13, h14, h16, h17, h18, (eq_false h19), (eq_true h21)]
            · cases b5
              simp -implicitDefEqProofs -dsimp only [go_sem, (eq_true h2), (eq_true h3), (eq_true h6), h8, h9, h10, h12, h13, h14, h16, h17, h18, (eq_false h19), (eq_false h21)]
              refine next_of gb5 ?_
              simp -implicitDefEqProofs -dsimp only [go_sem, (eq_true h2), (eq_true h3), (eq_true h6), h8, h9, h10, h12, h13, h14, h16, h17, h18, (eq_false h19), (eq_false h21)]
        · cases b5
          have e23 := done_of gb5
          subst e23
          try dsimp only at h
          obtain ⟨q1008, l24, h⟩ := obnd_some h
          simp -implicitDefEqProofs -dsimp only [go_sem, (eq_true h2), (eq_true h3), (eq_false h6)]
          refine loopW_loopO (m1 := .mk) (m2 := .mk) [.nf [2, 59, 60, 61] [128]] (m_impl_isChoice_L2_St v1.values ((v1.values.length : Nat) : Int) s.nodes s.ties s.horizon) l24 ?_ ?_
          · simp -implicitDefEqProofs -dsimp only [go_sem, (eq_true h2), (eq_true h3), (eq_false h6)]
          · intro nb25 sb25 bb25 b25 gb25
            obtain ⟨v61_2, eb25⟩ : ∃ v, v = sb25 := ⟨_, rfl⟩; subst eb25
            unfold m_impl_isChoice_L2 at b25
            try dsimp only at b25
            rcases ite_some b25 with ⟨h26, b25⟩ | ⟨h26, b25⟩
            · obtain ⟨x1005, g27, b25⟩ := obnd_some b25
              obtain ⟨h28, h29, h30⟩ := getI_some g27
              rcases ite_some b25 with ⟨h31, b25⟩ | ⟨h31, b25⟩
              · rcases ite_some b25 with ⟨h32, b25⟩ | ⟨h32, b25⟩
                · obtain ⟨r1006, g33, b25⟩ := obnd_some b25
                  simp -implicitDefEqProofs -dsimp only [go_sem, (eq_true h2), (eq_true h3), (eq_false h6), (eq_true h26), h28, h29, h30, (eq_true h31), (eq_true h32)]
                  refine callW_of (c_impl_watcher g33) ?_
                  rcases ite_some b25 with ⟨h34, b25⟩ | ⟨h34, b25⟩
                  · cases b25
                    have e35 := done_of gb25
                    subst e35
                    try dsimp only at h
                    cases h
                    simp -implicitDefEqProofs -dsimp only [go_sem, (eq_true h2), (eq_true h3), (eq_false h6), (eq_true h26), h28, h29, h30, (eq_true h31), (eq_true h32), (eq_true h34)]
                  · cases b25
                    simp -implicitDefEqProofs -dsimp only [go_sem, (eq_true h2), (eq_true h3), (eq_false h6), (eq_true h26), h28, h29, h30, (eq_true h31), (eq_true h32), (eq_false h34)]
                    refine next_of gb25 ?_
                    simp -implicitDefEqProofs -dsimp only [go_sem, (eq_true h2), (eq_true h3), (eq_false h6), (eq_true h26), h28, h29, h30, (eq_true h31), (eq_true h32), (eq_false h34)]
                · cases b25
                  simp -implicitDefEqProofs -dsimp only [go_sem, (eq_true h2), (eq_true h3), (eq_false h6), (eq_true h26), h28, h29, h30, (eq_true h31), (eq_false h32)]
                  refine next_of gb25 ?_
                  simp -implicitDefEqProofs -dsimp only [go_sem, (eq_true h2), (eq_true h3), (eq_false h6), (eq_true h26), h28, h29, h30, (eq_true h31), (eq_false h32)]
              · rcases ite_some b25 with ⟨h36, b25⟩ | ⟨h36, b25⟩
                · obtain ⟨r1007, g37, b25⟩ := obnd_some b25
                  simp -implicitDefEqProofs -dsimp only [go_sem, (eq_true h2), (eq_true h3), (eq_false h6), (eq_true h26), h28, h29, h30, (eq_false h31), (eq_true h36)]
                  refine callW_of (c_impl_watcher g37) ?_
                  rcases ite_some b25 with ⟨h38, b25⟩ | ⟨h38, b25⟩
                  · cases b25
                    have e39 := done_of gb25
                    subst e39
                    try dsimp only at h
                    cases h
                    simp -implicitDefEqProofs -dsimp only [go_sem, (eq_true h2), (eq_true h3), (eq_false h6), (eq_true h26), h28, h29, h30, (eq_false h31), (eq_true h36), (eq_true h38)]
                  · cases b25
                    simp -implicitDefEqProofs -dsimp only [go_sem, (eq_true h2), (eq_true h3), (eq_false h6), (eq_true h26), h28, h29, h30, (eq_false h31), (eq_true h36), (eq_false h38)]
                    refine next_of gb25 ?_
                    simp -implicitDefEqProofs -dsimp only [go_sem, (eq_true h2), (eq_true h3), (eq_false h6), (eq_true h26), h28, h29, h30, (eq_false h31), (eq_true h36), (eq_false h38)]
                · cases b25
                  have e40 := done_of gb25
                  subst e40
                  try dsimp only at h
                  cases h
                  simp -implicitDefEqProofs -dsimp only [go_sem, (eq_true h2), (eq_true h3), (eq_false h6), (eq_true h26), h28, h29, h30, (eq_false h31), (eq_false h36)]
            · cases b25
              have e41 := done_of gb25
              subst e41
              try dsimp only at h
              cases h
              simp -implicitDefEqProofs -dsimp only [go_sem, (eq_true h2), (eq_true h3), (eq_false h6), (eq_false h26)]
    · cases h
      simp -implicitDefEqProofs -dsimp only [go_sem, (eq_true h2), (eq_false h3)]
  · cases h
    simp -implicitDefEqProofs -dsimp only [go_sem, (eq_false h2)]
/- 144 loop.example/g00827/impl.active -/
def m_impl_active_L1_St (v9 : List GTie) (v10 : Int) (v3_0 : Int) (v3_1 : List Int) (v3_2 : List Int) : (Int × (List Int)) → St
  | (v11, out) => ⟨[(3, .ptr 192 1 0 0), (5, .ref 383 1 0 out.length), (9, .sl (rowsOf GTie.enc v9)), (10, .lit (.int .i64 v10)), (11, .lit (.int .i64 v11))], [(192, 1, .var [.lit (.int .i64 v3_0), .sl (rowsOf eI v3_1), .sl (rowsOf eI v3_2)]), (383, 1, .row true (rowsOf eI out))], 2⟩
attribute [go_sem] m_impl_active_L1_St
def hi144 : Hint where
  acts := fun _ => []
  draws := fun
    | _ => ⟨.nil, [], []⟩
theorem hi144a (i : Nat) : hi144.acts i = [] := rfl
theorem hi144v (i : Nat) : hi144.views i = none := rfl
attribute [go_sem] hi144a hi144v Go.Proofs.Try.ntmps144 Go.Proofs.Try.results144
theorem c_impl_active {s : GShow} {v1 : GState} {res : List Int} (h : m_impl_active s v1 = some res) : CallOk Go.Proofs.Try.prog 144 [.agg [.sl (rowsOf GNode.encS s.nodes), .sl (rowsOf GTie.enc s.ties), .lit (.int .i64 s.horizon)], .agg [.lit (.int .i64 v1.now), .sl (rowsOf eI v1.times), .sl (rowsOf eI v1.values)]] [] (.ref 20000 1 0 res.length) [(20000, 1, .row true (rowsOf eI res))] := by
  refine callOk_of (ra := [.home 4]) (md := mdT) hT (hi := hi144) Go.Proofs.Try.func144 rfl rfl (by decide +kernel) (by simp) ?_
  unfold m_impl_active at h
  obtain ⟨q1004, l1, h⟩ := obnd_some h
  simp -implicitDefEqProofs -dsimp only [go_sem]
  refine loopW_loopO (m1 := .mk) (m2 := .mk) [.home 5, .nf [3, 5, 9, 10, 11] [192, 383]] (m_impl_active_L1_St s.ties ((s.ties.length : Nat) : Int) v1.now v1.times v1.values) l1 ?_ ?_
  · simp -implicitDefEqProofs -dsimp only [go_sem]
  · intro nb2 sb2 bb2 b2 gb2
    obtain ⟨v11_1, out_1⟩ := sb2
    unfold m_impl_active_L1 at b2
    try dsimp only at b2
    rcases ite_some b2 with ⟨h3, b2⟩ | ⟨h3, b2⟩
    · obtain ⟨x1001, g4, b2⟩ := obnd_some b2
      obtain ⟨h5, h6, h7⟩ := getI_some g4
      rcases ite_some b2 with ⟨h8, b2⟩ | ⟨h8, b2⟩
      · obtain ⟨x1002, g9, b2⟩ := obnd_some b2
        obtain ⟨h10, h11, h12⟩ := getI_some g9
        rcases ite_some b2 with ⟨h13, b2⟩ | ⟨h13, b2⟩
        · cases b2
          simp -implicitDefEqProofs -dsimp only [go_sem, (eq_true h3), h5, h6, h7, (eq_true h8), (condZ_t h8), h10, h11, h12, (eq_true h13)]
          refine next_of gb2 ?_
          simp -implicitDefEqProofs -dsimp only [go_sem, (eq_true h3), h5, h6, h7, (eq_true h8), (condZ_t h8), h10, h11, h12, (eq_true h13)]
        · obtain ⟨x1003, g14, b2⟩ := obnd_some b2
          obtain ⟨h15, h16, h17⟩ := getI_some g14
          rcases ite_some b2 with ⟨h18, b2⟩ | ⟨h18, b2⟩
          · obtain ⟨h19, b2⟩ := chk_some b2
            obtain ⟨h20, b2⟩ := chk_some b2
            cases b2
            simp -implicitDefEqProofs -dsimp only [go_sem, (eq_true h3), h5, h6, h7, (eq_true h8), (condZ_t h8), h10, h11, h12, (eq_false h13), h15, h16, h17, (eq_true h18), (eq_true h19), (eq_true h20)]
            refine next_of gb2 ?_
            simp -implicitDefEqProofs -dsimp only [go_sem, (eq_true h3), h5, h6, h7, (eq_true h8), (condZ_t h8), h10, h11, h12, (eq_false h13), h15, h16, h17, (eq_true h18), (eq_true h19), (eq_true h20)]
          · cases b2
            simp -implicitDefEqProofs -dsimp only [go_sem, (eq_true h3), h5, h6, h7, (eq_true h8), (condZ_t h8), h10, h11, h12, (eq_false h13), h15, h16, h17, (eq_false h18)]
            refine next_of gb2 ?_
            simp -implicitDefEqProofs -dsimp only [go_sem, (eq_true h3), h5, h6, h7, (eq_true h8), (condZ_t h8), h10, h11, h12, (eq_false h13), h15, h16, h17, (eq_false h18)]
      · cases b2
        simp -implicitDefEqProofs -dsimp only [go_sem, (eq_true h3), h5, h6, h7, (eq_false h8), (condZ_f h8)]
        refine next_of gb2 ?_
        simp -implicitDefEqProofs -dsimp only [go_sem, (eq_true h3), h5, h6, h7, (eq_false h8), (condZ_f h8)]
    · cases b2
      have e21 := done_of gb2
      subst e21
      try dsimp only at h
      cases h
      simp -implicitDefEqProofs -dsimp only [go_sem, (eq_false h3)]
/- 143 slices.DeleteFunc[[]int,int] -/
def m_slices_DeleteFunc_int_L1_St (zb0 : Bool) (f_v1 : Nat) (k_v1 : List AV) : (Int × Int × (List Int)) → St
  | (v5, v6, v0) => ⟨[(0, .ref 10000 0 0 v0.length), (1, .fn f_v1 k_v1), (5, .lit (.int .i64 v5)), (6, .lit (.int .i64 v6))], [(10000, 0, .row zb0 (rowsOf eI v0))], 2⟩
attribute [go_sem] m_slices_DeleteFunc_int_L1_St
def hi143 : Hint where
  acts := fun _ => []
  draws := fun
    | _ => ⟨.nil, [], []⟩
theorem hi143a (i : Nat) : hi143.acts i = [] := rfl
theorem hi143v (i : Nat) : hi143.views i = none := rfl
attribute [go_sem] hi143a hi143v Go.Proofs.Try.ntmps143 Go.Proofs.Try.results143
theorem c_slices_DeleteFunc_int {v0 : List Int} {v1 : Int → Option Bool} {zb0 : Bool} {f_v1 : Nat} {k_v1 : List AV} (hp_v1 : ∀ y0 r, v1 y0 = some r → CallOk Go.Proofs.Try.prog f_v1 ([.lit (.int .i64 y0)] ++ k_v1) [] (.lit (.bool r)) []) (hc_v1 : KC k_v1) (hm_v1 : mdT f_v1 = ⟨[], false⟩) {res : List Int} (h : m_slices_DeleteFunc_int v0 v1 = some res) : CallOk Go.Proofs.Try.prog 143 [.ref 10000 0 0 v0.length, .fn f_v1 k_v1] [(10000, 0, .row zb0 (rowsOf eI v0))] (.ref 10000 0 0 res.length) [(10000, 0, .row false (rowsOf eI res))] := by
  refine callOk_of (ra := [.home 4, .trim 4]) (md := mdT) hT (hi := hi143) Go.Proofs.Try.func143 rfl rfl (by decide +kernel) (by simp) ?_
  unfold m_slices_DeleteFunc_int at h
  obtain ⟨r1001, g1, h⟩ := obnd_some h
  simp -implicitDefEqProofs -dsimp only [go_sem, hc_v1.1, hc_v1.2, hm_v1]
  refine callW_of (c_slices_IndexFunc_int hp_v1 hc_v1 hm_v1 g1) ?_
  rcases ite_some h with ⟨h2, h⟩ | ⟨h2, h⟩
  · cases h
    simp -implicitDefEqProofs -dsimp only [go_sem, hc_v1.1, hc_v1.2, hm_v1, (eq_true h2)]
  · obtain ⟨q1005, l3, h⟩ := obnd_some h
    simp -implicitDefEqProofs -dsimp only [go_sem, hc_v1.1, hc_v1.2, hm_v1, (eq_false h2)]
    refine loopW_loopO (m1 := .mk) (m2 := .mk) [.nf [0, 1, 5, 6] [10000]] (m_slices_DeleteFunc_int_L1_St zb0 f_v1 k_v1) l3 ?_ ?_
    · simp -implicitDefEqProofs -dsimp only [go_sem, hc_v1.1, hc_v1.2, hm_v1, (eq_false h2)]
    · intro nb4 sb4 bb4 b4 gb4
      obtain ⟨v5_1, v6_1, v0_1⟩ := sb4
      unfold m_slices_DeleteFunc_int_L1 at b4
      try dsimp only at b4
      rcases ite_some b4 with ⟨h5, b4⟩ | ⟨h5, b4⟩
      · obtain ⟨x1002, g6, b4⟩ := obnd_some b4
        obtain ⟨h7, h8, h9⟩ := getI_some g6
        obtain ⟨r1003, g10, b4⟩ := obnd_some b4
        simp -implicitDefEqProofs -dsimp only [go_sem, hc_v1.1, hc_v1.2, hm_v1, (eq_false h2), (eq_true h5), h7, h8, h9]
        refine callW_of (hp_v1 _ _ g10) ?_
        rcases ite_some b4 with ⟨h11, b4⟩ | ⟨h11, b4⟩
        · cases b4
          simp -implicitDefEqProofs -dsimp only [go_sem, hc_v1.1, hc_v1.2, hm_v1, (eq_false h2), (eq_true h5), h7, h8, h9, (eq_true h11), (condZ_t h11)]
          refine next_of gb4 ?_
          simp -implicitDefEqProofs -dsimp only [go_sem, hc_v1.1, hc_v1.2, hm_v1, (eq_false h2), (eq_true h5), h7, h8, h9, (eq_true h11), (condZ_t h11)]
        · obtain ⟨x1004, g12, b4⟩ := obnd_some b4
          obtain ⟨h13, h14, h15⟩ := getI_some g12
          cases b4
          simp -implicitDefEqProofs -dsimp only [go_sem, hc_v1.1, hc_v1.2, hm_v1, (eq_false h2), (eq_true h5), h7, h8, h9, (eq_false h11), (condZ_f h11), h13, h14, h15]
          refine next_of gb4 ?_
          simp -implicitDefEqProofs -dsimp only [go_sem, hc_v1.1, hc_v1.2, hm_v1, (eq_false h2), (eq_true h5), h7, h8, h9, (eq_false h11), (condZ_f h11), h13, h14, h15]
      · cases b4
        have e16 := done_of gb4
        subst e16
        try dsimp only at h
        obtain ⟨h17, h⟩ := chk_some h
        obtain ⟨h18, h⟩ := chk_some h
        obtain ⟨h19, h⟩ := chk_some h
        cases h
        simp -implicitDefEqProofs -dsimp only [go_sem, hc_v1.1, hc_v1.2, hm_v1, (eq_false h2), (eq_false h5), (eq_true h17), (eq_true h18), (eq_true h19)]
/- 145 loop.example/g00827/impl.EndingFor$1 -/
def hi145 : Hint where
  acts := fun _ => []
  draws := fun
    | 1 => ⟨.cons ⟨0, true, []⟩ (.cons ⟨1, true, []⟩ (.cons ⟨2, true, []⟩ (.cons ⟨3, true, []⟩ (.cons ⟨4, true, []⟩ (.cons ⟨5, true, []⟩ (.cons ⟨6, false, []⟩ (.cons ⟨7, true, []⟩ (.cons ⟨8, true, []⟩ (.cons ⟨9, true, []⟩ (.cons ⟨10, true, []⟩ (.cons ⟨11, true, []⟩ (.cons ⟨12, false, []⟩ (.cons ⟨13, true, []⟩ (.cons ⟨14, true, []⟩ (.cons ⟨15, false, []⟩ (.cons ⟨16, false, []⟩ (.cons ⟨17, false, [0, 1, 2, 3, 4, 5, 7, 8, 9, 10, 11, 13, 14]⟩ (.cons ⟨18, false, []⟩ (.cons ⟨19, false, []⟩ (.cons ⟨20, false, []⟩ (.cons ⟨21, false, []⟩ .nil))))))))))))))))))))), [[], [0], [], [2], [], [4], [], [4, 5, 6], [4, 5, 6, 7], [4, 5, 6, 7, 8], [2, 3, 4, 5, 6, 7, 8, 9], [2, 3, 4, 5, 6, 7, 8, 9, 10], [0, 1, 2, 3, 4, 5, 6, 7, 8, 9, 10, 11], [], [13], [], [], [15, 16], [13, 14, 15, 16, 17], [13, 14, 15, 16, 17, 18], [0, 1, 2, 3, 4, 5, 6, 7, 8, 9, 10, 11, 12, 13, 14, 15, 16, 17, 18, 19], [0, 1, 2, 3, 4, 5, 6, 7, 8, 9, 10, 11, 12, 13, 14, 15, 16, 17, 18, 19, 20]], [0, 1, 2, 3, 4, 5, 6, 7, 8, 9, 10, 11, 12, 13, 14, 15, 16, 17, 18, 19, 20, 21]⟩
    | _ => ⟨.nil, [], []⟩
theorem hi145a (i : Nat) : hi145.acts i = [] := rfl
theorem hi145v (i : Nat) : hi145.views i = none := rfl
attribute [go_sem] hi145a hi145v Go.Proofs.Try.ntmps145 Go.Proofs.Try.results145
@[go_sem] theorem hi145d1 : (hi145.draws 1).order = .cons ⟨0, true, []⟩ (.cons ⟨1, true, []⟩ (.cons ⟨2, true, []⟩ (.cons ⟨3, true, []⟩ (.cons ⟨4, true, []⟩ (.cons ⟨5, true, []⟩ (.cons ⟨6, false, []⟩ (.cons ⟨7, true, []⟩ (.cons ⟨8, true, []⟩ (.cons ⟨9, true, []⟩ (.cons ⟨10, true, []⟩ (.cons ⟨11, true, []⟩ (.cons ⟨12, false, []⟩ (.cons ⟨13, true, []⟩ (.cons ⟨14, true, []⟩ (.cons ⟨15, false, []⟩ (.cons ⟨16, false, []⟩ (.cons ⟨17, false, [0, 1, 2, 3, 4, 5, 7, 8, 9, 10, 11, 13, 14]⟩ (.cons ⟨18, false, []⟩ (.cons ⟨19, false, []⟩ (.cons ⟨20, false, []⟩ (.cons ⟨21, false, []⟩ .nil))))))))))))))))))))) := rfl
theorem c_impl_EndingFor_c1 {i : Int} {v1 : GState} {s : GShow} {v3 : GChoice} {free : List Int} {res : Bool} (h : m_impl_EndingFor_c1 i v1 s v3 free = some res) : CallOk Go.Proofs.Try.prog 145 [.lit (.int .i64 i), .loc [.lit (.int .i64 v1.now), .sl (rowsOf eI v1.times), .sl (rowsOf eI v1.values)], .loc [.sl (rowsOf GNode.encS s.nodes), .sl (rowsOf GTie.enc s.ties), .lit (.int .i64 s.horizon)], .loc [.sl (rowsOf eI v3.lengths), .sl (rowsOf eI v3.values)], .loc [.sl (rowsOf eI free)]] [] (.lit (.bool res)) [] := by
  refine callOk_of (ra := []) (md := mdT) hT (hi := hi145) Go.Proofs.Try.func145 rfl rfl (by decide +kernel) (by simp) ?_
  unfold m_impl_EndingFor_c1 at h
  obtain ⟨x1001, g1, h⟩ := obnd_some h
  obtain ⟨h2, h3, h4⟩ := getI_some g1
  obtain ⟨x1002, g5, h⟩ := obnd_some h
  obtain ⟨h6, h7, h8⟩ := getI_some g5
  obtain ⟨r1003, g9, h⟩ := obnd_some h
  simp -implicitDefEqProofs -dsimp only [go_sem, h2, h3, h4, h6, h7, h8]
  refine callW_of (c_slices_Index_int g9) ?_
  obtain ⟨x1004, g10, h⟩ := obnd_some h
  obtain ⟨h11, h12, h13⟩ := getI_some g10
  cases h
  simp -implicitDefEqProofs -dsimp only [go_sem, h2, h3, h4, h6, h7, h8, h11, h12, h13]
/- 76 loop.example/g00827/impl.EndingFor -/
def hi76 : Hint where
  acts := fun _ => []
  draws := fun
    | _ => ⟨.nil, [], []⟩
theorem hi76a (i : Nat) : hi76.acts i = [] := rfl
theorem hi76v (i : Nat) : hi76.views i = none := rfl
attribute [go_sem] hi76a hi76v Go.Proofs.Try.ntmps76 Go.Proofs.Try.results76
theorem c_impl_EndingFor {s : GShow} {v1 : GState} {v2 : GChoice} {res : List Int} (h : m_impl_EndingFor s v1 v2 = some res) : CallOk Go.Proofs.Try.prog 76 [.agg [.sl (rowsOf GNode.encS s.nodes), .sl (rowsOf GTie.enc s.ties), .lit (.int .i64 s.horizon)], .agg [.lit (.int .i64 v1.now), .sl (rowsOf eI v1.times), .sl (rowsOf eI v1.values)], .agg [.sl (rowsOf eI v2.lengths), .sl (rowsOf eI v2.values)]] [] (.ref 20000 1 0 res.length) [(20000, 1, .row false (rowsOf eI res))] := by
  refine callOk_of (ra := [.home 6, .trim 6]) (md := mdT) hT (hi := hi76) Go.Proofs.Try.func76 rfl rfl (by decide +kernel) (by simp) ?_
  unfold m_impl_EndingFor at h
  obtain ⟨r1001, g1, h⟩ := obnd_some h
  simp -implicitDefEqProofs -dsimp only [go_sem]
  refine callW_of (c_impl_StateOk g1) ?_
  rcases ite_some h with ⟨h2, h⟩ | ⟨h2, h⟩
  · obtain ⟨r1002, g3, h⟩ := obnd_some h
    simp -implicitDefEqProofs -dsimp only [go_sem, (eq_true h2), (condZ_t h2)]
    refine callW_of (c_impl_isChoice g3) ?_
    rcases ite_some h with ⟨h4, h⟩ | ⟨h4, h⟩
    · obtain ⟨r1003, g5, h⟩ := obnd_some h
      simp -implicitDefEqProofs -dsimp only [go_sem, (eq_true h2), (condZ_t h2), (eq_true h4), (condZ_t h4)]
      refine callW_of (c_impl_freeTies g5) ?_
      obtain ⟨r1004, g6, h⟩ := obnd_some h
      simp -implicitDefEqProofs -dsimp only [go_sem, (eq_true h2), (condZ_t h2), (eq_true h4), (condZ_t h4)]
      refine callW_of (c_impl_active g6) ?_
      obtain ⟨r1005, g7, h⟩ := obnd_some h
      simp -implicitDefEqProofs -dsimp only [go_sem, (eq_true h2), (condZ_t h2), (eq_true h4), (condZ_t h4)]
      refine callW_of (c_slices_DeleteFunc_int (by exact fun _ _ hr => c_impl_EndingFor_c1 hr) (by refine ⟨fun _ => ?_, fun _ => ?_⟩ <;> simp only [go_sem]) (by rfl) g7) ?_
      cases h
      simp -implicitDefEqProofs -dsimp only [go_sem, (eq_true h2), (condZ_t h2), (eq_true h4), (condZ_t h4)]
    · cases h
      simp -implicitDefEqProofs -dsimp only [go_sem, (eq_true h2), (condZ_t h2), (eq_false h4), (condZ_f h4)]
  · cases h
    simp -implicitDefEqProofs -dsimp only [go_sem, (eq_false h2), (condZ_f h2)]
/- 67 loop.example/g00827/laws.eqState -/
def hi67 : Hint where
  acts := fun _ => []
  draws := fun
    | _ => ⟨.nil, [], []⟩
theorem hi67a (i : Nat) : hi67.acts i = [] := rfl
theorem hi67v (i : Nat) : hi67.views i = none := rfl
attribute [go_sem] hi67a hi67v Go.Proofs.Try.ntmps67 Go.Proofs.Try.results67
theorem c_laws_eqState {a : GState} {b : GState} {res : Bool} (h : m_laws_eqState a b = some res) : CallOk Go.Proofs.Try.prog 67 [.agg [.lit (.int .i64 a.now), .sl (rowsOf eI a.times), .sl (rowsOf eI a.values)], .agg [.lit (.int .i64 b.now), .sl (rowsOf eI b.times), .sl (rowsOf eI b.values)]] [] (.lit (.bool res)) [] := by
  refine callOk_of (ra := []) (md := mdT) hT (hi := hi67) Go.Proofs.Try.func67 rfl rfl (by decide +kernel) (by simp) ?_
  unfold m_laws_eqState at h
  rcases ite_some h with ⟨h1, h⟩ | ⟨h1, h⟩
  · obtain ⟨r1001, g2, h⟩ := obnd_some h
    simp -implicitDefEqProofs -dsimp only [go_sem, (eq_true h1)]
    refine callW_of (c_laws_eqIntS g2) ?_
    rcases ite_some h with ⟨h3, h⟩ | ⟨h3, h⟩
    · obtain ⟨r1002, g4, h⟩ := obnd_some h
      simp -implicitDefEqProofs -dsimp only [go_sem, (eq_true h1), (eq_true h3), (condZ_t h3)]
      refine callW_of (c_laws_eqIntS g4) ?_
      rcases ite_some h with ⟨h5, h⟩ | ⟨h5, h⟩
      · cases h
        simp -implicitDefEqProofs -dsimp only [go_sem, (eq_true h1), (eq_true h3), (condZ_t h3), (eq_true h5), (condZ_t h5)]
      · cases h
        simp -implicitDefEqProofs -dsimp only [go_sem, (eq_true h1), (eq_true h3), (condZ_t h3), (eq_false h5), (condZ_f h5)]
    · cases h
      simp -implicitDefEqProofs -dsimp only [go_sem, (eq_true h1), (eq_false h3), (condZ_f h3)]
  · cases h
    simp -implicitDefEqProofs -dsimp only [go_sem, (eq_false h1)]
/- 77 loop.example/g00827/laws.eqChoice -/
def hi77 : Hint where
  acts := fun _ => []
  draws := fun
    | _ => ⟨.nil, [], []⟩
theorem hi77a (i : Nat) : hi77.acts i = [] := rfl
theorem hi77v (i : Nat) : hi77.views i = none := rfl
attribute [go_sem] hi77a hi77v Go.Proofs.Try.ntmps77 Go.Proofs.Try.results77
theorem c_laws_eqChoice {a : GChoice} {b : GChoice} {res : Bool} (h : m_laws_eqChoice a b = some res) : CallOk Go.Proofs.Try.prog 77 [.agg [.sl (rowsOf eI a.lengths), .sl (rowsOf eI a.values)], .agg [.sl (rowsOf eI b.lengths), .sl (rowsOf eI b.values)]] [] (.lit (.bool res)) [] := by
  refine callOk_of (ra := []) (md := mdT) hT (hi := hi77) Go.Proofs.Try.func77 rfl rfl (by decide +kernel) (by simp) ?_
  unfold m_laws_eqChoice at h
  obtain ⟨r1001, g1, h⟩ := obnd_some h
  simp -implicitDefEqProofs -dsimp only [go_sem]
  refine callW_of (c_laws_eqIntS g1) ?_
  rcases ite_some h with ⟨h2, h⟩ | ⟨h2, h⟩
  · obtain ⟨r1002, g3, h⟩ := obnd_some h
    simp -implicitDefEqProofs -dsimp only [go_sem, (eq_true h2), (condZ_t h2)]
    refine callW_of (c_laws_eqIntS g3) ?_
    rcases ite_some h with ⟨h4, h⟩ | ⟨h4, h⟩
    · cases h
      simp -implicitDefEqProofs -dsimp only [go_sem, (eq_true h2), (condZ_t h2), (eq_true h4), (condZ_t h4)]
    · cases h
      simp -implicitDefEqProofs -dsimp only [go_sem, (eq_true h2), (condZ_t h2), (eq_false h4), (condZ_f h4)]
  · cases h
    simp -implicitDefEqProofs -dsimp only [go_sem, (eq_false h2), (condZ_f h2)]
/- 68 loop.example/g00827/laws.markState -/
def hi68 : Hint where
  acts := fun _ => []
  draws := fun
    | _ => ⟨.nil, [], []⟩
theorem hi68a (i : Nat) : hi68.acts i = [] := rfl
theorem hi68v (i : Nat) : hi68.views i = none := rfl
attribute [go_sem] hi68a hi68v Go.Proofs.Try.ntmps68 Go.Proofs.Try.results68
theorem c_laws_markState {a : GState} {k : Int} {zb0 : Bool} {zb1 : Bool} {res : Int × (List Int) × (List Int)} (h : m_laws_markState a k = some res) : CallOk Go.Proofs.Try.prog 68 [.agg [.lit (.int .i64 a.now), .ref 10000 0 0 a.times.length, .ref 10001 0 0 a.values.length], .lit (.int .i64 k)] [(10000, 0, .row zb0 (rowsOf eI a.times)), (10001, 0, .row zb1 (rowsOf eI a.values))] (.lit (.int .i64 res.1)) [(10000, 0, .row zb0 (rowsOf eI res.2.1)), (10001, 0, .row zb1 (rowsOf eI res.2.2))] := by
  refine callOk_of (ra := []) (md := mdT) hT (hi := hi68) Go.Proofs.Try.func68 rfl rfl (by decide +kernel) (by simp) ?_
  unfold m_laws_markState at h
  obtain ⟨r1001, g1, h⟩ := obnd_some h
  simp -implicitDefEqProofs -dsimp only [go_sem]
  refine callW_of (c_laws_markIntS g1) ?_
  obtain ⟨r1002, g2, h⟩ := obnd_some h
  simp -implicitDefEqProofs -dsimp only [go_sem]
  refine callW_of (c_laws_markIntS g2) ?_
  cases h
  simp -implicitDefEqProofs -dsimp only [go_sem]
/- 78 loop.example/g00827/laws.markChoice -/
def hi78 : Hint where
  acts := fun _ => []
  draws := fun
    | _ => ⟨.nil, [], []⟩
theorem hi78a (i : Nat) : hi78.acts i = [] := rfl
theorem hi78v (i : Nat) : hi78.views i = none := rfl
attribute [go_sem] hi78a hi78v Go.Proofs.Try.ntmps78 Go.Proofs.Try.results78
theorem c_laws_markChoice {a : GChoice} {k : Int} {zb0 : Bool} {zb1 : Bool} {res : Int × (List Int) × (List Int)} (h : m_laws_markChoice a k = some res) : CallOk Go.Proofs.Try.prog 78 [.agg [.ref 10000 0 0 a.lengths.length, .ref 10001 0 0 a.values.length], .lit (.int .i64 k)] [(10000, 0, .row zb0 (rowsOf eI a.lengths)), (10001, 0, .row zb1 (rowsOf eI a.values))] (.lit (.int .i64 res.1)) [(10000, 0, .row zb0 (rowsOf eI res.2.1)), (10001, 0, .row zb1 (rowsOf eI res.2.2))] := by
  refine callOk_of (ra := []) (md := mdT) hT (hi := hi78) Go.Proofs.Try.func78 rfl rfl (by decide +kernel) (by simp) ?_
  unfold m_laws_markChoice at h
  obtain ⟨r1001, g1, h⟩ := obnd_some h
  simp -implicitDefEqProofs -dsimp only [go_sem]
  refine callW_of (c_laws_markIntS g1) ?_
  obtain ⟨r1002, g2, h⟩ := obnd_some h
  simp -implicitDefEqProofs -dsimp only [go_sem]
  refine callW_of (c_laws_markIntS g2) ?_
  cases h
  simp -implicitDefEqProofs -dsimp only [go_sem]
/- 16 loop.example/g00827/laws.FnExactEndingFor -/
def hi16 : Hint where
  acts := fun _ => []
  draws := fun
    | 11 => ⟨.cons ⟨0, false, []⟩ (.cons ⟨2, true, []⟩ (.cons ⟨4, true, []⟩ (.cons ⟨1, false, [2, 4]⟩ (.cons ⟨3, false, [4]⟩ (.cons ⟨5, false, []⟩ (.cons ⟨6, false, []⟩ (.cons ⟨7, false, []⟩ .nil))))))), [[], [0], [], [0, 1, 2], [], [0, 1, 2, 3, 4], [0, 1, 2, 3, 4, 5], [0, 1, 2, 3, 4, 5, 6]], [0, 1, 2, 3, 4, 5, 6, 7]⟩
    | 18 => ⟨.cons ⟨0, true, []⟩ (.cons ⟨1, false, []⟩ (.cons ⟨2, false, [0]⟩ (.cons ⟨3, false, []⟩ (.cons ⟨4, false, []⟩ .nil)))), [[], [], [1], [0, 1, 2], [0, 1, 2, 3]], [0, 1, 2, 3, 4]⟩
    | 20 => ⟨.cons ⟨0, true, []⟩ (.cons ⟨1, false, []⟩ (.cons ⟨2, false, [0]⟩ (.cons ⟨3, false, []⟩ (.cons ⟨4, false, []⟩ .nil)))), [[], [], [1], [0, 1, 2], [0, 1, 2, 3]], [0, 1, 2, 3, 4]⟩
    | 22 => ⟨.cons ⟨0, true, []⟩ (.cons ⟨1, false, []⟩ (.cons ⟨2, false, [0]⟩ (.cons ⟨3, false, []⟩ (.cons ⟨4, false, []⟩ .nil)))), [[], [], [1], [0, 1, 2], [0, 1, 2, 3]], [0, 1, 2, 3, 4]⟩
    | 38 => ⟨.cons ⟨0, false, []⟩ (.cons ⟨2, true, []⟩ (.cons ⟨4, true, []⟩ (.cons ⟨1, false, [2, 4]⟩ (.cons ⟨3, false, [4]⟩ (.cons ⟨5, false, []⟩ (.cons ⟨6, false, []⟩ (.cons ⟨7, false, []⟩ .nil))))))), [[], [0], [], [0, 1, 2], [], [0, 1, 2, 3, 4], [0, 1, 2, 3, 4, 5], [0, 1, 2, 3, 4, 5, 6]], [0, 1, 2, 3, 4, 5, 6, 7]⟩
    | _ => ⟨.nil, [], []⟩
theorem hi16a (i : Nat) : hi16.acts i = [] := rfl
theorem hi16v (i : Nat) : hi16.views i = none := rfl
attribute [go_sem] hi16a hi16v Go.Proofs.Try.ntmps16 Go.Proofs.Try.results16
@[go_sem] theorem hi16d11 : (hi16.draws 11).order = .cons ⟨0, false, []⟩ (.cons ⟨2, true, []⟩ (.cons ⟨4, true, []⟩ (.cons ⟨1, false, [2, 4]⟩ (.cons ⟨3, false, [4]⟩ (.cons ⟨5, false, []⟩ (.cons ⟨6, false, []⟩ (.cons ⟨7, false, []⟩ .nil))))))) := rfl
@[go_sem] theorem hi16d18 : (hi16.draws 18).order = .cons ⟨0, true, []⟩ (.cons ⟨1, false, []⟩ (.cons ⟨2, false, [0]⟩ (.cons ⟨3, false, []⟩ (.cons ⟨4, false, []⟩ .nil)))) := rfl
@[go_sem] theorem hi16d20 : (hi16.draws 20).order = .cons ⟨0, true, []⟩ (.cons ⟨1, false, []⟩ (.cons ⟨2, false, [0]⟩ (.cons ⟨3, false, []⟩ (.cons ⟨4, false, []⟩ .nil)))) := rfl
@[go_sem] theorem hi16d22 : (hi16.draws 22).order = .cons ⟨0, true, []⟩ (.cons ⟨1, false, []⟩ (.cons ⟨2, false, [0]⟩ (.cons ⟨3, false, []⟩ (.cons ⟨4, false, []⟩ .nil)))) := rfl
@[go_sem] theorem hi16d38 : (hi16.draws 38).order = .cons ⟨0, false, []⟩ (.cons ⟨2, true, []⟩ (.cons ⟨4, true, []⟩ (.cons ⟨1, false, [2, 4]⟩ (.cons ⟨3, false, [4]⟩ (.cons ⟨5, false, []⟩ (.cons ⟨6, false, []⟩ (.cons ⟨7, false, []⟩ .nil))))))) := rfl
theorem c_laws_FnExactEndingFor {aS : GShow} {aX : GState} {aC : GChoice} {res : Bool} (h : m_laws_FnExactEndingFor aS aX aC = some res) : CallOk Go.Proofs.Try.prog 16 [.agg [.sl (rowsOf GNode.encS aS.nodes), .sl (rowsOf GTie.enc aS.ties), .lit (.int .i64 aS.horizon)], .agg [.lit (.int .i64 aX.now), .sl (rowsOf eI aX.times), .sl (rowsOf eI aX.values)], .agg [.sl (rowsOf eI aC.lengths), .sl (rowsOf eI aC.values)]] [] (.lit (.bool res)) [] := by
  refine callOk_of (ra := []) (md := mdT) hT (hi := hi16) Go.Proofs.Try.func16 rfl rfl (by decide +kernel) (by simp) ?_
  unfold m_laws_FnExactEndingFor at h
  obtain ⟨r1001, g1, h⟩ := obnd_some h
  simp -implicitDefEqProofs -dsimp only [go_sem]
  refine callW_of (c_laws_szShow g1) ?_
  rcases ite_some h with ⟨h2, h⟩ | ⟨h2, h⟩
  · cases h
    simp -implicitDefEqProofs -dsimp only [go_sem, (eq_true h2)]
  · obtain ⟨r1002, g3, h⟩ := obnd_some h
    simp -implicitDefEqProofs -dsimp only [go_sem, (eq_false h2)]
    refine callW_of (c_laws_szState g3) ?_
    rcases ite_some h with ⟨h4, h⟩ | ⟨h4, h⟩
    · cases h
      simp -implicitDefEqProofs -dsimp only [go_sem, (eq_false h2), (eq_true h4)]
    · obtain ⟨r1003, g5, h⟩ := obnd_some h
      simp -implicitDefEqProofs -dsimp only [go_sem, (eq_false h2), (eq_false h4)]
      refine callW_of (c_laws_szChoice g5) ?_
      rcases ite_some h with ⟨h6, h⟩ | ⟨h6, h⟩
      · cases h
        simp -implicitDefEqProofs -dsimp only [go_sem, (eq_false h2), (eq_false h4), (eq_true h6)]
      · obtain ⟨r1004, g7, h⟩ := obnd_some h
        simp -implicitDefEqProofs -dsimp only [go_sem, (eq_false h2), (eq_false h4), (eq_false h6)]
        refine callW_of (c_laws_toShow g7) ?_
        obtain ⟨r1005, g8, h⟩ := obnd_some h
        simp -implicitDefEqProofs -dsimp only [go_sem, (eq_false h2), (eq_false h4), (eq_false h6)]
        refine callW_of (c_laws_toState g8) ?_
        obtain ⟨r1006, g9, h⟩ := obnd_some h
        simp -implicitDefEqProofs -dsimp only [go_sem, (eq_false h2), (eq_false h4), (eq_false h6)]
        refine callW_of (c_laws_toChoice g9) ?_
        obtain ⟨r1007, g10, h⟩ := obnd_some h
        simp -implicitDefEqProofs -dsimp only [go_sem, (eq_false h2), (eq_false h4), (eq_false h6)]
        refine callW_of (c_spec_EndingFor g10) ?_
        obtain ⟨r1008, g11, h⟩ := obnd_some h
        simp -implicitDefEqProofs -dsimp only [go_sem, (eq_false h2), (eq_false h4), (eq_false h6)]
        refine callW_of (c_laws_toShow g11) ?_
        obtain ⟨r1009, g12, h⟩ := obnd_some h
        simp -implicitDefEqProofs -dsimp only [go_sem, (eq_false h2), (eq_false h4), (eq_false h6)]
        refine callW_of (c_laws_toState g12) ?_
        obtain ⟨r1010, g13, h⟩ := obnd_some h
        simp -implicitDefEqProofs -dsimp only [go_sem, (eq_false h2), (eq_false h4), (eq_false h6)]
        refine callW_of (c_laws_toChoice g13) ?_
        obtain ⟨r1011, g14, h⟩ := obnd_some h
        simp -implicitDefEqProofs -dsimp only [go_sem, (eq_false h2), (eq_false h4), (eq_false h6)]
        refine callW_of (c_impl_EndingFor g14) ?_
        obtain ⟨r1012, g15, h⟩ := obnd_some h
        simp -implicitDefEqProofs -dsimp only [go_sem, (eq_false h2), (eq_false h4), (eq_false h6)]
        refine callW_of (c_laws_eqIntS g15) ?_
        rcases ite_some h with ⟨h16, h⟩ | ⟨h16, h⟩
        · obtain ⟨r1013, g17, h⟩ := obnd_some h
          simp -implicitDefEqProofs -dsimp only [go_sem, (eq_false h2), (eq_false h4), (eq_false h6), (eq_true h16), (condZ_t h16)]
          refine callW_of (c_laws_toShow g17) ?_
          obtain ⟨r1014, g18, h⟩ := obnd_some h
          simp -implicitDefEqProofs -dsimp only [go_sem, (eq_false h2), (eq_false h4), (eq_false h6), (eq_true h16), (condZ_t h16)]
          refine callW_of (c_laws_eqShow g18) ?_
          rcases ite_some h with ⟨h19, h⟩ | ⟨h19, h⟩
          · obtain ⟨r1015, g20, h⟩ := obnd_some h
            simp -implicitDefEqProofs -dsimp only [go_sem, (eq_false h2), (eq_false h4), (eq_false h6), (eq_true h16), (condZ_t h16), (eq_true h19), (condZ_t h19)]
            refine callW_of (c_laws_toState g20) ?_
            obtain ⟨r1016, g21, h⟩ := obnd_some h
            simp -implicitDefEqProofs -dsimp only [go_sem, (eq_false h2), (eq_false h4), (eq_false h6), (eq_true h16), (condZ_t h16), (eq_true h19), (condZ_t h19)]
            refine callW_of (c_laws_eqState g21) ?_
            rcases ite_some h with ⟨h22, h⟩ | ⟨h22, h⟩
            · obtain ⟨r1017, g23, h⟩ := obnd_some h
              simp -implicitDefEqProofs -dsimp only [go_sem, (eq_false h2), (eq_false h4), (eq_false h6), (eq_true h16), (condZ_t h16), (eq_true h19), (condZ_t h19), (eq_true h22), (condZ_t h22)]
              refine callW_of (c_laws_toChoice g23) ?_
              obtain ⟨r1018, g24, h⟩ := obnd_some h
              simp -implicitDefEqProofs -dsimp only [go_sem, (eq_false h2), (eq_false h4), (eq_false h6), (eq_true h16), (condZ_t h16), (eq_true h19), (condZ_t h19), (eq_true h22), (condZ_t h22)]
              refine callW_of (c_laws_eqChoice g24) ?_
              rcases ite_some h with ⟨h25, h⟩ | ⟨h25, h⟩
              · obtain ⟨r1019, g26, h⟩ := obnd_some h
                simp -implicitDefEqProofs -dsimp only [go_sem, (eq_false h2), (eq_false h4), (eq_false h6), (eq_true h16), (condZ_t h16), (eq_true h19), (condZ_t h19), (eq_true h22), (condZ_t h22), (eq_true h25), (condZ_t h25)]
                refine callW_of (c_laws_markShow g26) ?_
                obtain ⟨r1020, g27, h⟩ := obnd_some h
                simp -implicitDefEqProofs -dsimp only [go_sem, (eq_false h2), (eq_false h4), (eq_false h6), (eq_true h16), (condZ_t h16), (eq_true h19), (condZ_t h19), (eq_true h22), (condZ_t h22), (eq_true h25), (condZ_t h25)]
                refine callW_of (c_laws_markState g27) ?_
                obtain ⟨r1021, g28, h⟩ := obnd_some h
                simp -implicitDefEqProofs -dsimp only [go_sem, (eq_false h2), (eq_false h4), (eq_false h6), (eq_true h16), (condZ_t h16), (eq_true h19), (condZ_t h19), (eq_true h22), (condZ_t h22), (eq_true h25), (condZ_t h25)]
                refine callW_of (c_laws_markChoice g28) ?_
                rcases ite_some h with ⟨h29, h⟩ | ⟨h29, h⟩
                · cases h
                  simp -implicitDefEqProofs -dsimp only [go_sem, (eq_false h2), (eq_false h4), (eq_false h6), (eq_true h16), (condZ_t h16), (eq_true h19), (condZ_t h19), (eq_true h22), (condZ_t h22), (eq_true h25), (condZ_t h25), (eq_true h29)]
                · obtain ⟨r1022, g30, h⟩ := obnd_some h
                  simp -implicitDefEqProofs -dsimp only [go_sem, (eq_false h2), (eq_false h4), (eq_false h6), (eq_true h16), (condZ_t h16), (eq_true h19), (condZ_t h19), (eq_true h22), (condZ_t h22), (eq_true h25), (condZ_t h25), (eq_false h29)]
                  refine callW_of (c_laws_eqIntS g30) ?_
                  rcases ite_some h with ⟨h31, h⟩ | ⟨h31, h⟩
                  · obtain ⟨r1023, g32, h⟩ := obnd_some h
                    simp -implicitDefEqProofs -dsimp only [go_sem, (eq_false h2), (eq_false h4), (eq_false h6), (eq_true h16), (condZ_t h16), (eq_true h19), (condZ_t h19), (eq_true h22), (condZ_t h22), (eq_true h25), (condZ_t h25), (eq_false h29), (eq_true h31), (condZ_t h31)]
                    refine callW_of (c_laws_markIntS g32) ?_
                    obtain ⟨h33, h⟩ := chk_some h
                    obtain ⟨r1024, g34, h⟩ := obnd_some h
                    simp -implicitDefEqProofs -dsimp only [go_sem, (eq_false h2), (eq_false h4), (eq_false h6), (eq_true h16), (condZ_t h16), (eq_true h19), (condZ_t h19), (eq_true h22), (condZ_t h22), (eq_true h25), (condZ_t h25), (eq_false h29), (eq_true h31), (condZ_t h31), (eq_true h33)]
                    refine callW_of (c_laws_heldIntS g34) ?_
                    rcases ite_some h with ⟨h35, h⟩ | ⟨h35, h⟩
                    · cases h
                      simp -implicitDefEqProofs -dsimp only [go_sem, (eq_false h2), (eq_false h4), (eq_false h6), (eq_true h16), (condZ_t h16), (eq_true h19), (condZ_t h19), (eq_true h22), (condZ_t h22), (eq_true h25), (condZ_t h25), (eq_false h29), (eq_true h31), (condZ_t h31), (eq_true h33), (eq_true h35)]
                    · rcases ite_some h with ⟨h36, h⟩ | ⟨h36, h⟩
                      · obtain ⟨r1025, g37, h⟩ := obnd_some h
                        simp -implicitDefEqProofs -dsimp only [go_sem, (eq_false h2), (eq_false h4), (eq_false h6), (eq_true h16), (condZ_t h16), (eq_true h19), (condZ_t h19), (eq_true h22), (condZ_t h22), (eq_true h25), (condZ_t h25), (eq_false h29), (eq_true h31), (condZ_t h31), (eq_true h33), (eq_false h35), (eq_true h36)]
                        refine callW_of (c_laws_toShow g37) ?_
                        obtain ⟨r1026, g38, h⟩ := obnd_some h
                        simp -implicitDefEqProofs -dsimp only [go_sem, (eq_false h2), (eq_false h4), (eq_false h6), (eq_true h16), (condZ_t h16), (eq_true h19), (condZ_t h19), (eq_true h22), (condZ_t h22), (eq_true h25), (condZ_t h25), (eq_false h29), (eq_true h31), (condZ_t h31), (eq_true h33), (eq_false h35), (eq_true h36)]
                        refine callW_of (c_laws_toState g38) ?_
                        obtain ⟨r1027, g39, h⟩ := obnd_some h
                        simp -implicitDefEqProofs -dsimp only [go_sem, (eq_false h2), (eq_false h4), (eq_false h6), (eq_true h16), (condZ_t h16), (eq_true h19), (condZ_t h19), (eq_true h22), (condZ_t h22), (eq_true h25), (condZ_t h25), (eq_false h29), (eq_true h31), (condZ_t h31), (eq_true h33), (eq_false h35), (eq_true h36)]
                        refine callW_of (c_laws_toChoice g39) ?_
                        obtain ⟨r1028, g40, h⟩ := obnd_some h
                        simp -implicitDefEqProofs -dsimp only [go_sem, (eq_false h2), (eq_false h4), (eq_false h6), (eq_true h16), (condZ_t h16), (eq_true h19), (condZ_t h19), (eq_true h22), (condZ_t h22), (eq_true h25), (condZ_t h25), (eq_false h29), (eq_true h31), (condZ_t h31), (eq_true h33), (eq_false h35), (eq_true h36)]
                        refine callW_of (c_impl_EndingFor g40) ?_
                        obtain ⟨r1029, g41, h⟩ := obnd_some h
                        simp -implicitDefEqProofs -dsimp only [go_sem, (eq_false h2), (eq_false h4), (eq_false h6), (eq_true h16), (condZ_t h16), (eq_true h19), (condZ_t h19), (eq_true h22), (condZ_t h22), (eq_true h25), (condZ_t h25), (eq_false h29), (eq_true h31), (condZ_t h31), (eq_true h33), (eq_false h35), (eq_true h36)]
                        refine callW_of (c_laws_eqIntS g41) ?_
                        rcases ite_some h with ⟨h42, h⟩ | ⟨h42, h⟩
                        · obtain ⟨r1030, g43, h⟩ := obnd_some h
                          simp -implicitDefEqProofs -dsimp only [go_sem, (eq_false h2), (eq_false h4), (eq_false h6), (eq_true h16), (condZ_t h16), (eq_true h19), (condZ_t h19), (eq_true h22), (condZ_t h22), (eq_true h25), (condZ_t h25), (eq_false h29), (eq_true h31), (condZ_t h31), (eq_true h33), (eq_false h35), (eq_true h36), (eq_true h42), (condZ_t h42)]
                          refine callW_of (c_laws_heldIntS g43) ?_
                          rcases ite_some h with ⟨h44, h⟩ | ⟨h44, h⟩
                          · cases h
                            simp -implicitDefEqProofs -dsimp only [go_sem, (eq_false h2), (eq_false h4), (eq_false h6), (eq_true h16), (condZ_t h16), (eq_true h19), (condZ_t h19), (eq_true h22), (condZ_t h22), (eq_true h25), (condZ_t h25), (eq_false h29), (eq_true h31), (condZ_t h31), (eq_true h33), (eq_false h35), (eq_true h36), (eq_true h42), (condZ_t h42), (eq_true h44)]
                          · rcases ite_some h with ⟨h45, h⟩ | ⟨h45, h⟩
                            · cases h
                              simp -implicitDefEqProofs -dsimp only [go_sem, (eq_false h2), (eq_false h4), (eq_false h6), (eq_true h16), (condZ_t h16), (eq_true h19), (condZ_t h19), (eq_true h22), (condZ_t h22), (eq_true h25), (condZ_t h25), (eq_false h29), (eq_true h31), (condZ_t h31), (eq_true h33), (eq_false h35), (eq_true h36), (eq_true h42), (condZ_t h42), (eq_false h44), (eq_true h45)]
                            · cases h
                              simp -implicitDefEqProofs -dsimp only [go_sem, (eq_false h2), (eq_false h4), (eq_false h6), (eq_true h16), (condZ_t h16), (eq_true h19), (condZ_t h19), (eq_true h22), (condZ_t h22), (eq_true h25), (condZ_t h25), (eq_false h29), (eq_true h31), (condZ_t h31), (eq_true h33), (eq_false h35), (eq_true h36), (eq_true h42), (condZ_t h42), (eq_false h44), (eq_false h45)]
                        · cases h
                          simp -implicitDefEqProofs -dsimp only [go_sem, (eq_false h2), (eq_false h4), (eq_false h6), (eq_true h16), (condZ_t h16), (eq_true h19), (condZ_t h19), (eq_true h22), (condZ_t h22), (eq_true h25), (condZ_t h25), (eq_false h29), (eq_true h31), (condZ_t h31), (eq_true h33), (eq_false h35), (eq_true h36), (eq_false h42), (condZ_f h42)]
                      · cases h
                        simp -implicitDefEqProofs -dsimp only [go_sem, (eq_false h2), (eq_false h4), (eq_false h6), (eq_true h16), (condZ_t h16), (eq_true h19), (condZ_t h19), (eq_true h22), (condZ_t h22), (eq_true h25), (condZ_t h25), (eq_false h29), (eq_true h31), (condZ_t h31), (eq_true h33), (eq_false h35), (eq_false h36)]
                  · cases h
                    simp -implicitDefEqProofs -dsimp only [go_sem, (eq_false h2), (eq_false h4), (eq_false h6), (eq_true h16), (condZ_t h16), (eq_true h19), (condZ_t h19), (eq_true h22), (condZ_t h22), (eq_true h25), (condZ_t h25), (eq_false h29), (eq_false h31), (condZ_f h31)]
              · cases h
                simp -implicitDefEqProofs -dsimp only [go_sem, (eq_false h2), (eq_false h4), (eq_false h6), (eq_true h16), (condZ_t h16), (eq_true h19), (condZ_t h19), (eq_true h22), (condZ_t h22), (eq_false h25), (condZ_f h25)]
            · cases h
              simp -implicitDefEqProofs -dsimp only [go_sem, (eq_false h2), (eq_false h4), (eq_false h6), (eq_true h16), (condZ_t h16), (eq_true h19), (condZ_t h19), (eq_false h22), (condZ_f h22)]
          · cases h
            simp -implicitDefEqProofs -dsimp only [go_sem, (eq_false h2), (eq_false h4), (eq_false h6), (eq_true h16), (condZ_t h16), (eq_false h19), (condZ_f h19)]
        · cases h
          simp -implicitDefEqProofs -dsimp only [go_sem, (eq_false h2), (eq_false h4), (eq_false h6), (eq_false h16), (condZ_f h16)]
end Go.Proofs.YtgmiaokdnpaglaaX
