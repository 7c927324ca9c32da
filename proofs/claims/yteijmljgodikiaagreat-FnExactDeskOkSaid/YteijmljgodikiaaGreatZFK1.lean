/- Functions. -/
import Derived.Test.YteijmljgodikiaaGreatZFK0
set_option linter.all false
set_option linter.unusedVariables false
set_option linter.unusedSimpArgs false
set_option maxRecDepth 100000
set_option maxHeartbeats 400000
namespace Go.Proofs.YteijmljgodikiaaGreatZ
open Go
/- 59 loop.example/g00827/impl.isWatched -/
def hi59 : Hint where
  acts := fun _ => []
  draws := fun
    | 1 => ⟨.cons ⟨0, true, []⟩ (.cons ⟨1, false, []⟩ (.cons ⟨2, false, [0]⟩ (.cons ⟨3, false, []⟩ (.cons ⟨4, false, []⟩ .nil)))), [[], [], [1], [0, 1, 2], [0, 1, 2, 3]], [0, 1, 2, 3, 4]⟩
    | _ => ⟨.nil, [], []⟩
theorem hi59a (i : Nat) : hi59.acts i = [] := rfl
theorem hi59v (i : Nat) : hi59.views i = none := rfl
attribute [go_sem] hi59a hi59v Go.Proofs.Tryz.ntmps59 Go.Proofs.Tryz.results59
@[go_sem] theorem hi59d1 : (hi59.draws 1).order = .cons ⟨0, true, []⟩ (.cons ⟨1, false, []⟩ (.cons ⟨2, false, [0]⟩ (.cons ⟨3, false, []⟩ (.cons ⟨4, false, []⟩ .nil)))) := rfl
theorem c_impl_isWatched {s : GShow} {label : List Int} {v2 : Int} {res : Bool} (h : m_impl_isWatched s label v2 = some res) : CallOk Go.Proofs.Tryz.prog 59 [.agg [.sl (rowsOf GNode.encS s.nodes), .sl (rowsOf GTie.enc s.ties), .lit (.int .i64 s.horizon)], .sl (rowsOf eI label), .lit (.int .i64 v2)] [] (.lit (.bool res)) [] := by
  refine callOk_of (ra := []) (md := mdT) hT (hi := hi59) Go.Proofs.Tryz.func59 rfl rfl (by decide +kernel) (by simp) ?_
  unfold m_impl_isWatched at h
  obtain ⟨r1001, g1, h⟩ := obnd_some h
  simp -implicitDefEqProofs -dsimp only [go_sem]
  refine callW_of (c_impl_propOf g1) ?_
  obtain ⟨r1002, g2, h⟩ := obnd_some h
  simp -implicitDefEqProofs -dsimp only [go_sem]
  refine callW_of (c_impl_watcher g2) ?_
  rcases ite_some h with ⟨h3, h⟩ | ⟨h3, h⟩
  · cases h
    simp -implicitDefEqProofs -dsimp only [go_sem, (eq_true h3)]
  · obtain ⟨x1003, g4, h⟩ := obnd_some h
    obtain ⟨h5, h6, h7⟩ := getI_some g4
    obtain ⟨r1004, g8, h⟩ := obnd_some h
    simp -implicitDefEqProofs -dsimp only [go_sem, (eq_false h3), h5, h6, h7]
    refine callW_of (c_slices_Contains_int g8) ?_
    rcases ite_some h with ⟨h9, h⟩ | ⟨h9, h⟩
    · cases h
      simp -implicitDefEqProofs -dsimp only [go_sem, (eq_false h3), h5, h6, h7, (eq_true h9), (condZ_t h9)]
    · obtain ⟨r1005, g10, h⟩ := obnd_some h
      simp -implicitDefEqProofs -dsimp only [go_sem, (eq_false h3), h5, h6, h7, (eq_false h9), (condZ_f h9)]
      refine callW_of (c_slices_Contains_int g10) ?_
      rcases ite_some h with ⟨h11, h⟩ | ⟨h11, h⟩
      · cases h
        simp -implicitDefEqProofs -dsimp only [go_sem, (eq_false h3), h5, h6, h7, (eq_false h9), (condZ_f h9), (eq_true h11), (condZ_t h11)]
      · obtain ⟨r1006, g12, h⟩ := obnd_some h
        simp -implicitDefEqProofs -dsimp only [go_sem, (eq_false h3), h5, h6, h7, (eq_false h9), (condZ_f h9), (eq_false h11), (condZ_f h11)]
        refine callW_of (c_impl_ImpliesLabel g12) ?_
        cases h
        simp -implicitDefEqProofs -dsimp only [go_sem, (eq_false h3), h5, h6, h7, (eq_false h9), (condZ_f h9), (eq_false h11), (condZ_f h11)]
/- 58 loop.example/g00827/impl.ShowOk$1 -/
def hi58 : Hint where
  acts := fun _ => []
  draws := fun
    | _ => ⟨.nil, [], []⟩
theorem hi58a (i : Nat) : hi58.acts i = [] := rfl
theorem hi58v (i : Nat) : hi58.views i = none := rfl
attribute [go_sem] hi58a hi58v Go.Proofs.Tryz.ntmps58 Go.Proofs.Tryz.results58
theorem c_impl_ShowOk_c1 {v0 : Int} {s : GShow} {n : GNode} {res : Bool} (h : m_impl_ShowOk_c1 v0 s n = some res) : CallOk Go.Proofs.Tryz.prog 58 [.lit (.int .i64 v0), .loc [.sl (rowsOf GNode.encS s.nodes), .sl (rowsOf GTie.enc s.ties), .lit (.int .i64 s.horizon)], .loc [.lit (.string n.name), .sl (rowsOf eI n.label), .lit (.int .i64 n.watch)]] [] (.lit (.bool res)) [] := by
  refine callOk_of (ra := []) (md := mdT) hT (hi := hi58) Go.Proofs.Tryz.func58 rfl rfl (by decide +kernel) (by simp) ?_
  unfold m_impl_ShowOk_c1 at h
  obtain ⟨r1001, g1, h⟩ := obnd_some h
  simp -implicitDefEqProofs -dsimp only [go_sem]
  refine callW_of (c_impl_isWatched g1) ?_
  cases h
  simp -implicitDefEqProofs -dsimp only [go_sem]
/- 30 loop.example/g00827/impl.ShowOk -/
def m_impl_ShowOk_L1_St (v24 : List GNode) (v25 : Int) (s_1 : List GTie) (s_2 : Int) (v26 : Int) : St := ⟨[(1, .ptr 64 1 0 0), (24, .sl (rowsOf GNode.encS v24)), (25, .lit (.int .i64 v25)), (26, .lit (.int .i64 v26))], [(64, 1, .var [.sl (rowsOf GNode.encS v24), .sl (rowsOf GTie.enc s_1), .lit (.int .i64 s_2)])], 2⟩
attribute [go_sem] m_impl_ShowOk_L1_St
def hi30 : Hint where
  acts := fun _ => []
  draws := fun
    | _ => ⟨.nil, [], []⟩
theorem hi30a (i : Nat) : hi30.acts i = [] := rfl
theorem hi30v (i : Nat) : hi30.views i = none := rfl
attribute [go_sem] hi30a hi30v Go.Proofs.Tryz.ntmps30 Go.Proofs.Tryz.results30
theorem c_impl_ShowOk {s : GShow} {res : Bool} (h : m_impl_ShowOk s = some res) : CallOk Go.Proofs.Tryz.prog 30 [.agg [.sl (rowsOf GNode.encS s.nodes), .sl (rowsOf GTie.enc s.ties), .lit (.int .i64 s.horizon)]] [] (.lit (.bool res)) [] := by
  refine callOk_of (ra := []) (md := mdT) hT (hi := hi30) Go.Proofs.Tryz.func30 rfl rfl (by decide +kernel) (by simp) ?_
  unfold m_impl_ShowOk at h
  obtain ⟨r1001, g1, h⟩ := obnd_some h
  simp -implicitDefEqProofs -dsimp only [go_sem]
  refine callW_of (c_impl_areNodes g1) ?_
  rcases ite_some h with ⟨h2, h⟩ | ⟨h2, h⟩
  · obtain ⟨r1002, g3, h⟩ := obnd_some h
    simp -implicitDefEqProofs -dsimp only [go_sem, (eq_true h2), (condZ_t h2)]
    refine callW_of (c_impl_areTies g3) ?_
    rcases ite_some h with ⟨h4, h⟩ | ⟨h4, h⟩
    · rcases ite_some h with ⟨h5, h⟩ | ⟨h5, h⟩
      · cases h
        simp -implicitDefEqProofs -dsimp only [go_sem, (eq_true h2), (condZ_t h2), (eq_true h4), (condZ_t h4), (eq_true h5)]
      · rcases ite_some h with ⟨h6, h⟩ | ⟨h6, h⟩
        · cases h
          simp -implicitDefEqProofs -dsimp only [go_sem, (eq_true h2), (condZ_t h2), (eq_true h4), (condZ_t h4), (eq_false h5), (eq_true h6)]
        · obtain ⟨q1005, l7, h⟩ := obnd_some h
          simp -implicitDefEqProofs -dsimp only [go_sem, (eq_true h2), (condZ_t h2), (eq_true h4), (condZ_t h4), (eq_false h5), (eq_false h6)]
          refine loopW_loopO (m1 := .mk) (m2 := .mk) [.nf [1, 24, 25, 26] [64]] (m_impl_ShowOk_L1_St s.nodes ((s.nodes.length : Nat) : Int) s.ties s.horizon) l7 ?_ ?_
          · simp -implicitDefEqProofs -dsimp only [go_sem, (eq_true h2), (condZ_t h2), (eq_true h4), (condZ_t h4), (eq_false h5), (eq_false h6)]
          · intro nb8 sb8 bb8 b8 gb8
            obtain ⟨v26_1, eb8⟩ : ∃ v, v = sb8 := ⟨_, rfl⟩; subst eb8
            unfold m_impl_ShowOk_L1 at b8
            try dsimp only at b8
            rcases ite_some b8 with ⟨h9, b8⟩ | ⟨h9, b8⟩
            · obtain ⟨x1003, g10, b8⟩ := obnd_some b8
              obtain ⟨h11, h12, h13⟩ := getI_some g10
              obtain ⟨r1004, g14, b8⟩ := obnd_some b8
              simp -implicitDefEqProofs -dsimp only [go_sem, (eq_true h2), (condZ_t h2), (eq_true h4), (condZ_t h4), (eq_false h5), (eq_false h6), (eq_true h9), h11, h12, h13]
              refine callW_of (c_slices_ContainsFunc_int (by exact fun _ _ hr => c_impl_ShowOk_c1 hr) (by refine ⟨fun _ => ?_, fun _ => ?_⟩ <;> simp only [go_sem]) (by rfl) g14) ?_
              rcases ite_some b8 with ⟨h15, b8⟩ | ⟨h15, b8⟩
              · cases b8
                have e16 := (done_of gb8).symm
                subst e16
                try dsimp only at h
                cases h
                simp -implicitDefEqProofs -dsimp only [go_sem, (eq_true h2), (condZ_t h2), (eq_true h4), (condZ_t h4), (eq_false h5), (eq_false h6), (eq_true h9), h11, h12, h13, (eq_true h15), (condZ_t h15)]
              · cases b8
                simp -implicitDefEqProofs -dsimp only [go_sem, (eq_true h2), (condZ_t h2), (eq_true h4), (condZ_t h4), (eq_false h5), (eq_false h6), (eq_true h9), h11, h12, h13, (eq_false h15), (condZ_f h15)]
                refine next_of gb8 ?_
                simp -implicitDefEqProofs -dsimp only [go_sem, (eq_true h2), (condZ_t h2), (eq_true h4), (condZ_t h4), (eq_false h5), (eq_false h6), (eq_true h9), h11, h12, h13, (eq_false h15), (condZ_f h15)]
            · cases b8
              have e17 := (done_of gb8).symm
              subst e17
              try dsimp only at h
              cases h
              simp -implicitDefEqProofs -dsimp only [go_sem, (eq_true h2), (condZ_t h2), (eq_true h4), (condZ_t h4), (eq_false h5), (eq_false h6), (eq_false h9)]
    · cases h
      simp -implicitDefEqProofs -dsimp only [go_sem, (eq_true h2), (condZ_t h2), (eq_false h4), (condZ_f h4)]
  · cases h
    simp -implicitDefEqProofs -dsimp only [go_sem, (eq_false h2), (condZ_f h2)]
/- 132 loop.example/g00827/impl.ValuesOk$1 -/
def hi132 : Hint where
  acts := fun _ => []
  draws := fun
    | _ => ⟨.nil, [], []⟩
theorem hi132a (i : Nat) : hi132.acts i = [] := rfl
theorem hi132v (i : Nat) : hi132.views i = none := rfl
attribute [go_sem] hi132a hi132v Go.Proofs.Tryz.ntmps132 Go.Proofs.Tryz.results132
theorem c_impl_ValuesOk_c1 {n : Int} {res : Bool} (h : m_impl_ValuesOk_c1 n = some res) : CallOk Go.Proofs.Tryz.prog 132 [.lit (.int .i64 n)] [] (.lit (.bool res)) [] := by
  refine callOk_of (ra := []) (md := mdT) hT (hi := hi132) Go.Proofs.Tryz.func132 rfl rfl (by decide +kernel) (by simp) ?_
  unfold m_impl_ValuesOk_c1 at h
  rcases ite_some h with ⟨h1, h⟩ | ⟨h1, h⟩
  · cases h
    simp -implicitDefEqProofs -dsimp only [go_sem, (eq_true h1)]
  · cases h
    simp -implicitDefEqProofs -dsimp only [go_sem, (eq_false h1)]
/- 102 loop.example/g00827/impl.ValuesOk -/
def hi102 : Hint where
  acts := fun _ => []
  draws := fun
    | _ => ⟨.nil, [], []⟩
theorem hi102a (i : Nat) : hi102.acts i = [] := rfl
theorem hi102v (i : Nat) : hi102.views i = none := rfl
attribute [go_sem] hi102a hi102v Go.Proofs.Tryz.ntmps102 Go.Proofs.Tryz.results102
theorem c_impl_ValuesOk {v : List Int} {res : Bool} (h : m_impl_ValuesOk v = some res) : CallOk Go.Proofs.Tryz.prog 102 [.sl (rowsOf eI v)] [] (.lit (.bool res)) [] := by
  refine callOk_of (ra := []) (md := mdT) hT (hi := hi102) Go.Proofs.Tryz.func102 rfl rfl (by decide +kernel) (by simp) ?_
  unfold m_impl_ValuesOk at h
  rcases ite_some h with ⟨h1, h⟩ | ⟨h1, h⟩
  · obtain ⟨r1001, g2, h⟩ := obnd_some h
    simp -implicitDefEqProofs -dsimp only [go_sem, (eq_true h1)]
    refine callW_of (c_slices_ContainsFunc_int (by exact fun _ _ hr => c_impl_ValuesOk_c1 hr) (by refine ⟨fun _ => ?_, fun _ => ?_⟩ <;> simp only [go_sem]) (by rfl) g2) ?_
    cases h
    simp -implicitDefEqProofs -dsimp only [go_sem, (eq_true h1)]
  · cases h
    simp -implicitDefEqProofs -dsimp only [go_sem, (eq_false h1)]
/- 77 loop.example/g00827/impl.isState -/
def m_impl_isState_L1_St (v37 : List Int) (v38 : Int) (s_0 : List GNode) (s_1 : List GTie) (s_2 : Int) (v3_0 : Int) (v3_2 : List Int) (v39 : Int) : St := ⟨[(2, .ptr 128 1 0 0), (3, .ptr 192 1 0 0), (37, .sl (rowsOf eI v37)), (38, .lit (.int .i64 v38)), (39, .lit (.int .i64 v39))], [(128, 1, .var [.sl (rowsOf GNode.encS s_0), .sl (rowsOf GTie.enc s_1), .lit (.int .i64 s_2)]), (192, 1, .var [.lit (.int .i64 v3_0), .sl (rowsOf eI v37), .sl (rowsOf eI v3_2)])], 2⟩
attribute [go_sem] m_impl_isState_L1_St
def m_impl_isState_L2_St (v67 : List Int) (v68 : Int) (s_0 : List GNode) (s_1 : List GTie) (s_2 : Int) (v3_0 : Int) (v3_1 : List Int) (v69 : Int) : St := ⟨[(2, .ptr 128 1 0 0), (3, .ptr 192 1 0 0), (67, .sl (rowsOf eI v67)), (68, .lit (.int .i64 v68)), (69, .lit (.int .i64 v69))], [(128, 1, .var [.sl (rowsOf GNode.encS s_0), .sl (rowsOf GTie.enc s_1), .lit (.int .i64 s_2)]), (192, 1, .var [.lit (.int .i64 v3_0), .sl (rowsOf eI v3_1), .sl (rowsOf eI v67)])], 2⟩
attribute [go_sem] m_impl_isState_L2_St
def hi77 : Hint where
  acts := fun _ => []
  draws := fun
    | _ => ⟨.nil, [], []⟩
theorem hi77a (i : Nat) : hi77.acts i = [] := rfl
theorem hi77v (i : Nat) : hi77.views i = none := rfl
attribute [go_sem] hi77a hi77v Go.Proofs.Tryz.ntmps77 Go.Proofs.Tryz.results77
theorem c_impl_isState {s : GShow} {v1 : GState} {res : Bool} (h : m_impl_isState s v1 = some res) : CallOk Go.Proofs.Tryz.prog 77 [.agg [.sl (rowsOf GNode.encS s.nodes), .sl (rowsOf GTie.enc s.ties), .lit (.int .i64 s.horizon)], .agg [.lit (.int .i64 v1.now), .sl (rowsOf eI v1.times), .sl (rowsOf eI v1.values)]] [] (.lit (.bool res)) [] := by
  refine callOk_of (ra := []) (md := mdT) hT (hi := hi77) Go.Proofs.Tryz.func77 rfl rfl (by decide +kernel) (by simp) ?_
  unfold m_impl_isState at h
  rcases ite_some h with ⟨h1, h⟩ | ⟨h1, h⟩
  · cases h
    simp -implicitDefEqProofs -dsimp only [go_sem, (eq_true h1)]
  · rcases ite_some h with ⟨h2, h⟩ | ⟨h2, h⟩
    · cases h
      simp -implicitDefEqProofs -dsimp only [go_sem, (eq_false h1), (eq_true h2)]
    · rcases ite_some h with ⟨h3, h⟩ | ⟨h3, h⟩
      · obtain ⟨r1001, g4, h⟩ := obnd_some h
        simp -implicitDefEqProofs -dsimp only [go_sem, (eq_false h1), (eq_false h2), (eq_true h3)]
        refine callW_of (c_impl_ValuesOk g4) ?_
        rcases ite_some h with ⟨h5, h⟩ | ⟨h5, h⟩
        · obtain ⟨q1007, l6, h⟩ := obnd_some h
          simp -implicitDefEqProofs -dsimp only [go_sem, (eq_false h1), (eq_false h2), (eq_true h3), (eq_true h5), (condZ_t h5)]
          refine loopW_loopO (m1 := .mk) (m2 := .mk) [.nf [2, 3, 37, 38, 39] [128, 192]] (m_impl_isState_L1_St v1.times ((v1.times.length : Nat) : Int) s.nodes s.ties s.horizon v1.now v1.values) l6 ?_ ?_
          · simp -implicitDefEqProofs -dsimp only [go_sem, (eq_false h1), (eq_false h2), (eq_true h3), (eq_true h5), (condZ_t h5)]
          · intro nb7 sb7 bb7 b7 gb7
            obtain ⟨v39_1, eb7⟩ : ∃ v, v = sb7 := ⟨_, rfl⟩; subst eb7
            unfold m_impl_isState_L1 at b7
            try dsimp only at b7
            rcases ite_some b7 with ⟨h8, b7⟩ | ⟨h8, b7⟩
            · obtain ⟨x1002, g9, b7⟩ := obnd_some b7
              obtain ⟨h10, h11, h12⟩ := getI_some g9
              rcases ite_some b7 with ⟨h13, b7⟩ | ⟨h13, b7⟩
              · rcases ite_some b7 with ⟨h14, b7⟩ | ⟨h14, b7⟩
                · rcases ite_some b7 with ⟨h15, b7⟩ | ⟨h15, b7⟩
                  · rcases ite_some b7 with ⟨h16, b7⟩ | ⟨h16, b7⟩
                    · cases b7
                      have e17 := (done_of gb7).symm
                      subst e17
                      try dsimp only at h
                      cases h
                      simp -implicitDefEqProofs -dsimp only [go_sem, (eq_false h1), (eq_false h2), (eq_true h3), (eq_true h5), (condZ_t h5), (eq_true h8), h10, h11, h12, (eq_true h13), (eq_true h14), (eq_true h15), (eq_true h16)]
                    · rcases ite_some b7 with ⟨h18, b7⟩ | ⟨h18, b7⟩
                      · cases b7
                        have e19 := (done_of gb7).symm
                        subst e19
                        try dsimp only at h
                        cases h
                        simp -implicitDefEqProofs -dsimp only [go_sem, (eq_false h1), (eq_false h2), (eq_true h3), (eq_true h5), (condZ_t h5), (eq_true h8), h10, h11, h12, (eq_true h13), (eq_true h14), (eq_true h15), (eq_false h16), (eq_true h18)]
                      · cases b7
                        simp -implicitDefEqProofs -dsimp only [go_sem, (eq_false h1), (eq_false h2), (eq_true h3), (eq_true h5), (condZ_t h5), (eq_true h8), h10, h11, h12, (eq_true h13), (eq_true h14), (eq_true h15), (eq_false h16), (eq_false h18)]
                        refine next_of gb7 ?_
                        simp -implicitDefEqProofs -dsimp only [go_sem, (eq_false h1), (eq_false h2), (eq_true h3), (eq_true h5), (condZ_t h5), (eq_true h8), h10, h11, h12, (eq_true h13), (eq_true h14), (eq_true h15), (eq_false h16), (eq_false h18)]
                  · cases b7
                    simp -implicitDefEqProofs -dsimp only [go_sem, (eq_false h1), (eq_false h2), (eq_true h3), (eq_true h5), (condZ_t h5), (eq_true h8), h10, h11, h12, (eq_true h13), (eq_true h14), (eq_false h15)]
                    refine next_of gb7 ?_
                    simp -implicitDefEqProofs -dsimp only [go_sem, (eq_false h1), (eq_false h2), (eq_true h3), (eq_true h5), (condZ_t h5), (eq_true h8), h10, h11, h12, (eq_true h13), (eq_true h14), (eq_false h15)]
                · cases b7
                  have e20 := (done_of gb7).symm
                  subst e20
                  try dsimp only at h
                  cases h
                  simp -implicitDefEqProofs -dsimp only [go_sem, (eq_false h1), (eq_false h2), (eq_true h3), (eq_true h5), (condZ_t h5), (eq_true h8), h10, h11, h12, (eq_true h13), (eq_false h14)]
              · rcases ite_some b7 with ⟨h21, b7⟩ | ⟨h21, b7⟩
                · rcases ite_some b7 with ⟨h22, b7⟩ | ⟨h22, b7⟩
                  · cases b7
                    have e23 := (done_of gb7).symm
                    subst e23
                    try dsimp only at h
                    cases h
                    simp -implicitDefEqProofs -dsimp only [go_sem, (eq_false h1), (eq_false h2), (eq_true h3), (eq_true h5), (condZ_t h5), (eq_true h8), h10, h11, h12, (eq_false h13), (eq_true h21), (eq_true h22)]
                  · rcases ite_some b7 with ⟨h24, b7⟩ | ⟨h24, b7⟩
                    · cases b7
                      have e25 := (done_of gb7).symm
                      subst e25
                      try dsimp only at h
                      cases h
                      simp -implicitDefEqProofs -dsimp only [go_sem, (eq_false h1), (eq_false h2), (eq_true h3), (eq_true h5), (condZ_t h5), (eq_true h8), h10, h11, h12, (eq_false h13), (eq_true h21), (eq_false h22), (eq_true h24)]
                    · cases b7
                      simp -implicitDefEqProofs -dsimp only [go_sem, (eq_false h1), (eq_false h2), (eq_true h3), (eq_true h5), (condZ_t h5), (eq_true h8), h10, h11, h12, (eq_false h13), (eq_true h21), (eq_false h22), (eq_false h24)]
                      refine next_of gb7 ?_
                      simp -implicitDefEqProofs -dsimp only [go_sem, (eq_false h1), (eq_false h2), (eq_true h3), (eq_true h5), (condZ_t h5), (eq_true h8), h10, h11, h12, (eq_false h13), (eq_true h21), (eq_false h22), (eq_false h24)]
                · cases b7
                  simp -implicitDefEqProofs -dsimp only [go_sem, (eq_false h1), (eq_false h2), (eq_true h3), (eq_true h5), (condZ_t h5), (eq_true h8), h10, h11, h12, (eq_false h13), (eq_false h21)]
                  refine next_of gb7 ?_
                  simp -implicitDefEqProofs -dsimp only [go_sem, (eq_false h1), (eq_false h2), (eq_true h3), (eq_true h5), (condZ_t h5), (eq_true h8), h10, h11, h12, (eq_false h13), (eq_false h21)]
            · cases b7
              have e26 := (done_of gb7).symm
              subst e26
              try dsimp only at h
              obtain ⟨q1006, l27, h⟩ := obnd_some h
              simp -implicitDefEqProofs -dsimp only [go_sem, (eq_false h1), (eq_false h2), (eq_true h3), (eq_true h5), (condZ_t h5), (eq_false h8)]
              refine loopW_loopO (m1 := .mk) (m2 := .mk) [.nf [2, 3, 67, 68, 69] [128, 192]] (m_impl_isState_L2_St v1.values ((v1.values.length : Nat) : Int) s.nodes s.ties s.horizon v1.now v1.times) l27 ?_ ?_
              · simp -implicitDefEqProofs -dsimp only [go_sem, (eq_false h1), (eq_false h2), (eq_true h3), (eq_true h5), (condZ_t h5), (eq_false h8)]
              · intro nb28 sb28 bb28 b28 gb28
                obtain ⟨v69_2, eb28⟩ : ∃ v, v = sb28 := ⟨_, rfl⟩; subst eb28
                unfold m_impl_isState_L2 at b28
                try dsimp only at b28
                rcases ite_some b28 with ⟨h29, b28⟩ | ⟨h29, b28⟩
                · obtain ⟨x1003, g30, b28⟩ := obnd_some b28
                  obtain ⟨h31, h32, h33⟩ := getI_some g30
                  obtain ⟨r1004, g34, b28⟩ := obnd_some b28
                  simp -implicitDefEqProofs -dsimp only [go_sem, (eq_false h1), (eq_false h2), (eq_true h3), (eq_true h5), (condZ_t h5), (eq_false h8), (eq_true h29), h31, h32, h33]
                  refine callW_of (c_impl_watcher g34) ?_
                  rcases ite_some b28 with ⟨h35, b28⟩ | ⟨h35, b28⟩
                  · obtain ⟨x1005, g36, b28⟩ := obnd_some b28
                    obtain ⟨h37, h38, h39⟩ := getI_some g36
                    rcases ite_some b28 with ⟨h40, b28⟩ | ⟨h40, b28⟩
                    · cases b28
                      simp -implicitDefEqProofs -dsimp only [go_sem, (eq_false h1), (eq_false h2), (eq_true h3), (eq_true h5), (condZ_t h5), (eq_false h8), (eq_true h29), h31, h32, h33, (eq_true h35), h37, h38, h39, (eq_true h40)]
                      refine next_of gb28 ?_
                      simp -implicitDefEqProofs -dsimp only [go_sem, (eq_false h1), (eq_false h2), (eq_true h3), (eq_true h5), (condZ_t h5), (eq_false h8), (eq_true h29), h31, h32, h33, (eq_true h35), h37, h38, h39, (eq_true h40)]
                    · cases b28
                      have e41 := (done_of gb28).symm
                      subst e41
                      try dsimp only at h
                      cases h
                      simp -implicitDefEqProofs -dsimp only [go_sem, (eq_false h1), (eq_false h2), (eq_true h3), (eq_true h5), (condZ_t h5), (eq_false h8), (eq_true h29), h31, h32, h33, (eq_true h35), h37, h38, h39, (eq_false h40)]
                  · rcases ite_some b28 with ⟨h42, b28⟩ | ⟨h42, b28⟩
                    · cases b28
                      simp -implicitDefEqProofs -dsimp only [go_sem, (eq_false h1), (eq_false h2), (eq_true h3), (eq_true h5), (condZ_t h5), (eq_false h8), (eq_true h29), h31, h32, h33, (eq_false h35), (eq_true h42)]
                      refine next_of gb28 ?_
                      simp -implicitDefEqProofs -dsimp only [go_sem, (eq_false h1), (eq_false h2), (eq_true h3), (eq_true h5), (condZ_t h5), (eq_false h8), (eq_true h29), h31, h32, h33, (eq_false h35), (eq_true h42)]
                    · cases b28
                      have e43 := (done_of gb28).symm
                      subst e43
                      try dsimp only at h
                      cases h
                      simp -implicitDefEqProofs -dsimp only [go_sem, (eq_false h1), (eq_false h2), (eq_true h3), (eq_true h5), (condZ_t h5), (eq_false h8), (eq_true h29), h31, h32, h33, (eq_false h35), (eq_false h42)]
                · cases b28
                  have e44 := (done_of gb28).symm
                  subst e44
                  try dsimp only at h
                  cases h
                  simp -implicitDefEqProofs -dsimp only [go_sem, (eq_false h1), (eq_false h2), (eq_true h3), (eq_true h5), (condZ_t h5), (eq_false h8), (eq_false h29)]
        · cases h
          simp -implicitDefEqProofs -dsimp only [go_sem, (eq_false h1), (eq_false h2), (eq_true h3), (eq_false h5), (condZ_f h5)]
      · cases h
        simp -implicitDefEqProofs -dsimp only [go_sem, (eq_false h1), (eq_false h2), (eq_false h3)]
/- 45 loop.example/g00827/impl.StateOk -/
def hi45 : Hint where
  acts := fun _ => []
  draws := fun
    | _ => ⟨.nil, [], []⟩
theorem hi45a (i : Nat) : hi45.acts i = [] := rfl
theorem hi45v (i : Nat) : hi45.views i = none := rfl
attribute [go_sem] hi45a hi45v Go.Proofs.Tryz.ntmps45 Go.Proofs.Tryz.results45
theorem c_impl_StateOk {s : GShow} {v1 : GState} {res : Bool} (h : m_impl_StateOk s v1 = some res) : CallOk Go.Proofs.Tryz.prog 45 [.agg [.sl (rowsOf GNode.encS s.nodes), .sl (rowsOf GTie.enc s.ties), .lit (.int .i64 s.horizon)], .agg [.lit (.int .i64 v1.now), .sl (rowsOf eI v1.times), .sl (rowsOf eI v1.values)]] [] (.lit (.bool res)) [] := by
  refine callOk_of (ra := []) (md := mdT) hT (hi := hi45) Go.Proofs.Tryz.func45 rfl rfl (by decide +kernel) (by simp) ?_
  unfold m_impl_StateOk at h
  obtain ⟨r1001, g1, h⟩ := obnd_some h
  simp -implicitDefEqProofs -dsimp only [go_sem]
  refine callW_of (c_impl_ShowOk g1) ?_
  rcases ite_some h with ⟨h2, h⟩ | ⟨h2, h⟩
  · obtain ⟨r1002, g3, h⟩ := obnd_some h
    simp -implicitDefEqProofs -dsimp only [go_sem, (eq_true h2), (condZ_t h2)]
    refine callW_of (c_impl_isState g3) ?_
    cases h
    simp -implicitDefEqProofs -dsimp only [go_sem, (eq_true h2), (condZ_t h2)]
  · cases h
    simp -implicitDefEqProofs -dsimp only [go_sem, (eq_false h2), (condZ_f h2)]
/- 122 math/bits.Mul64 -/
def hi122 : Hint where
  acts := fun _ => []
  draws := fun
    | _ => ⟨.nil, [], []⟩
theorem hi122a (i : Nat) : hi122.acts i = [] := rfl
theorem hi122v (i : Nat) : hi122.views i = none := rfl
attribute [go_sem] hi122a hi122v Go.Proofs.Tryz.ntmps122 Go.Proofs.Tryz.results122
theorem c_bits_Mul64 {v0 : Int} {y : Int} {res : Int × Int} (h : m_bits_Mul64 v0 y = some res) : CallOk Go.Proofs.Tryz.prog 122 [.lit (.int .u64 v0), .lit (.int .u64 y)] [] (.tup [.lit (.int .u64 res.1), .lit (.int .u64 res.2)]) [] := by
  refine callOk_of (ra := []) (md := mdT) hT (hi := hi122) Go.Proofs.Tryz.func122 rfl rfl (by decide +kernel) (by simp) ?_
  unfold m_bits_Mul64 at h
  cases h
  simp -implicitDefEqProofs -dsimp only [go_sem]
/- 93 math/bits.Mul -/
def hi93 : Hint where
  acts := fun _ => []
  draws := fun
    | _ => ⟨.nil, [], []⟩
theorem hi93a (i : Nat) : hi93.acts i = [] := rfl
theorem hi93v (i : Nat) : hi93.views i = none := rfl
attribute [go_sem] hi93a hi93v Go.Proofs.Tryz.ntmps93 Go.Proofs.Tryz.results93
theorem c_bits_Mul {v0 : Int} {y : Int} {res : Int × Int} (h : m_bits_Mul v0 y = some res) : CallOk Go.Proofs.Tryz.prog 93 [.lit (.int .u64 v0), .lit (.int .u64 y)] [] (.tup [.lit (.int .u64 res.1), .lit (.int .u64 res.2)]) [] := by
  refine callOk_of (ra := []) (md := mdT) hT (hi := hi93) Go.Proofs.Tryz.func93 rfl rfl (by decide +kernel) (by simp) ?_
  unfold m_bits_Mul at h
  obtain ⟨r1001, g1, h⟩ := obnd_some h
  simp -implicitDefEqProofs -dsimp only [go_sem]
  refine callW_of (c_bits_Mul64 g1) ?_
  cases h
  simp -implicitDefEqProofs -dsimp only [go_sem]
/- 60 slices.Repeat[[]int,int] -/
def m_slices_Repeat_int_L1_St  : (Int × (List Int)) → St
  | (v8, v7) => ⟨[(7, .ref 1920 1 0 v7.length), (8, .lit (.int .i64 v8))], [(1920, 1, .row true (rowsOf eI v7))], 2⟩
attribute [go_sem] m_slices_Repeat_int_L1_St
def hi60 : Hint where
  acts := fun _ => []
  draws := fun
    | 9 => ⟨.cons ⟨0, false, []⟩ (.cons ⟨1, false, []⟩ (.cons ⟨2, false, []⟩ (.cons ⟨3, false, []⟩ (.cons ⟨4, false, []⟩ (.cons ⟨5, false, []⟩ (.cons ⟨6, false, []⟩ (.cons ⟨7, false, []⟩ (.cons ⟨8, false, []⟩ (.cons ⟨9, false, []⟩ .nil))))))))), [[], [], [], [1, 2], [], [], [4, 5], [1, 2, 3, 4, 5, 6], [0, 1, 2, 3, 4, 5, 6, 7], [0, 1, 2, 3, 4, 5, 6, 7, 8]], [0, 1, 2, 3, 4, 5, 6, 7, 8, 9]⟩
    | _ => ⟨.nil, [], []⟩
theorem hi60a (i : Nat) : hi60.acts i = [] := rfl
theorem hi60v (i : Nat) : hi60.views i = none := rfl
attribute [go_sem] hi60a hi60v Go.Proofs.Tryz.ntmps60 Go.Proofs.Tryz.results60
@[go_sem] theorem hi60d9 : (hi60.draws 9).order = .cons ⟨0, false, []⟩ (.cons ⟨1, false, []⟩ (.cons ⟨2, false, []⟩ (.cons ⟨3, false, []⟩ (.cons ⟨4, false, []⟩ (.cons ⟨5, false, []⟩ (.cons ⟨6, false, []⟩ (.cons ⟨7, false, []⟩ (.cons ⟨8, false, []⟩ (.cons ⟨9, false, []⟩ .nil))))))))) := rfl
theorem c_slices_Repeat_int {v0 : List Int} {v1 : Int} {res : List Int} (h : m_slices_Repeat_int v0 v1 = some res) : CallOk Go.Proofs.Tryz.prog 60 [.sl (rowsOf eI v0), .lit (.int .i64 v1)] [] (.ref 20000 1 0 res.length) [(20000, 1, .row true (rowsOf eI res))] := by
  refine callOk_of (ra := [.home 4]) (md := mdT) hT (hi := hi60) Go.Proofs.Tryz.func60 rfl rfl (by decide +kernel) (by simp) ?_
  unfold m_slices_Repeat_int at h
  rcases ite_some h with ⟨h1, h⟩ | ⟨h1, h⟩
  · cases h
  · obtain ⟨r1001, g2, h⟩ := obnd_some h
    simp -implicitDefEqProofs -dsimp only [go_sem, (eq_false h1)]
    refine callW_of (c_bits_Mul g2) ?_
    rcases ite_some h with ⟨h3, h⟩ | ⟨h3, h⟩
    · cases h
    · rcases ite_some h with ⟨h4, h⟩ | ⟨h4, h⟩
      · cases h
      · obtain ⟨h5, h⟩ := chk_some h
        obtain ⟨h6, h⟩ := chk_some h
        obtain ⟨h7, h⟩ := chk_some h
        obtain ⟨q1002, l8, h⟩ := obnd_some h
        simp -implicitDefEqProofs -dsimp only [go_sem, (eq_false h1), (eq_false h3), (eq_false h4), (eq_true h5), (eq_true h6), (eq_true h7)]
        refine loopW_loopO (m1 := .mk) (m2 := .mk) [.nf [7, 8] [1920]] (m_slices_Repeat_int_L1_St) l8 ?_ ?_
        · simp -implicitDefEqProofs -dsimp only [go_sem, (eq_false h1), (eq_false h3), (eq_false h4), (eq_true h5), (eq_true h6), (eq_true h7)]
        · intro nb9 sb9 bb9 b9 gb9
          obtain ⟨v8_1, v7_1⟩ := sb9
          unfold m_slices_Repeat_int_L1 at b9
          try dsimp only at b9
          rcases ite_some b9 with ⟨h10, b9⟩ | ⟨h10, b9⟩
          · obtain ⟨h11, b9⟩ := chk_some b9
            obtain ⟨h12, b9⟩ := chk_some b9
            obtain ⟨h13, b9⟩ := chk_some b9
            cases b9
            simp -implicitDefEqProofs -dsimp only [go_sem, (eq_false h1), (eq_false h3), (eq_false h4), (eq_true h5), (eq_true h6), (eq_true h7), (eq_true h10), (eq_true h11), (eq_true h12), (eq_true h13)]
            refine next_of gb9 ?_
            simp -implicitDefEqProofs -dsimp only [go_sem, (eq_false h1), (eq_false h3), (eq_false h4), (eq_true h5), (eq_true h6), (eq_true h7), (eq_true h10), (eq_true h11), (eq_true h12), (eq_true h13)]
          · cases b9
            have e14 := (done_of gb9).symm
            subst e14
            try dsimp only at h
            cases h
            simp -implicitDefEqProofs -dsimp only [go_sem, (eq_false h1), (eq_false h3), (eq_false h4), (eq_true h5), (eq_true h6), (eq_true h7), (eq_false h10)]
/- 31 loop.example/g00827/impl.StartState -/
def hi31 : Hint where
  acts := fun _ => []
  draws := fun
    | 3 => ⟨.cons ⟨1, true, []⟩ (.cons ⟨2, true, []⟩ (.cons ⟨3, true, []⟩ (.fork (.cons ⟨0, false, [1, 2, 3]⟩ (.fork (.cons ⟨4, false, []⟩ (.fork (.cons ⟨5, false, [1, 2, 3]⟩ (.cons ⟨6, false, []⟩ (.cons ⟨7, false, [1, 2, 3]⟩ (.cons ⟨8, false, []⟩ .nil)))) (.cons ⟨7, false, [1, 2, 3]⟩ (.cons ⟨5, false, [1, 2, 3]⟩ (.cons ⟨6, false, []⟩ (.cons ⟨8, false, []⟩ .nil)))))) (.fork (.cons ⟨5, false, [1, 2, 3]⟩ (.fork (.cons ⟨4, false, []⟩ (.cons ⟨6, false, []⟩ (.cons ⟨7, false, [1, 2, 3]⟩ (.cons ⟨8, false, []⟩ .nil)))) (.cons ⟨7, false, [1, 2, 3]⟩ (.cons ⟨4, false, []⟩ (.cons ⟨6, false, []⟩ (.cons ⟨8, false, []⟩ .nil)))))) (.cons ⟨7, false, [1, 2, 3]⟩ (.fork (.cons ⟨4, false, []⟩ (.cons ⟨5, false, [1, 2, 3]⟩ (.cons ⟨6, false, []⟩ (.cons ⟨8, false, []⟩ .nil)))) (.cons ⟨5, false, [1, 2, 3]⟩ (.cons ⟨4, false, []⟩ (.cons ⟨6, false, []⟩ (.cons ⟨8, false, []⟩ .nil))))))))) (.fork (.cons ⟨5, false, [1, 2, 3]⟩ (.fork (.cons ⟨0, false, [1, 2, 3]⟩ (.fork (.cons ⟨4, false, []⟩ (.cons ⟨6, false, []⟩ (.cons ⟨7, false, [1, 2, 3]⟩ (.cons ⟨8, false, []⟩ .nil)))) (.cons ⟨7, false, [1, 2, 3]⟩ (.cons ⟨4, false, []⟩ (.cons ⟨6, false, []⟩ (.cons ⟨8, false, []⟩ .nil)))))) (.cons ⟨7, false, [1, 2, 3]⟩ (.cons ⟨0, false, [1, 2, 3]⟩ (.cons ⟨4, false, []⟩ (.cons ⟨6, false, []⟩ (.cons ⟨8, false, []⟩ .nil))))))) (.cons ⟨7, false, [1, 2, 3]⟩ (.fork (.cons ⟨0, false, [1, 2, 3]⟩ (.fork (.cons ⟨4, false, []⟩ (.cons ⟨5, false, [1, 2, 3]⟩ (.cons ⟨6, false, []⟩ (.cons ⟨8, false, []⟩ .nil)))) (.cons ⟨5, false, [1, 2, 3]⟩ (.cons ⟨4, false, []⟩ (.cons ⟨6, false, []⟩ (.cons ⟨8, false, []⟩ .nil)))))) (.cons ⟨5, false, [1, 2, 3]⟩ (.cons ⟨0, false, [1, 2, 3]⟩ (.cons ⟨4, false, []⟩ (.cons ⟨6, false, []⟩ (.cons ⟨8, false, []⟩ .nil))))))))))), [[], [], [1], [1, 2], [0, 1, 2, 3], [], [0, 1, 2, 3, 4, 5], [], [0, 1, 2, 3, 4, 5, 6, 7]], [0, 1, 2, 3, 4, 5, 6, 7, 8]⟩
    | _ => ⟨.nil, [], []⟩
theorem hi31a (i : Nat) : hi31.acts i = [] := rfl
theorem hi31v (i : Nat) : hi31.views i = none := rfl
attribute [go_sem] hi31a hi31v Go.Proofs.Tryz.ntmps31 Go.Proofs.Tryz.results31
@[go_sem] theorem hi31d3 : (hi31.draws 3).order = .cons ⟨1, true, []⟩ (.cons ⟨2, true, []⟩ (.cons ⟨3, true, []⟩ (.fork (.cons ⟨0, false, [1, 2, 3]⟩ (.fork (.cons ⟨4, false, []⟩ (.fork (.cons ⟨5, false, [1, 2, 3]⟩ (.cons ⟨6, false, []⟩ (.cons ⟨7, false, [1, 2, 3]⟩ (.cons ⟨8, false, []⟩ .nil)))) (.cons ⟨7, false, [1, 2, 3]⟩ (.cons ⟨5, false, [1, 2, 3]⟩ (.cons ⟨6, false, []⟩ (.cons ⟨8, false, []⟩ .nil)))))) (.fork (.cons ⟨5, false, [1, 2, 3]⟩ (.fork (.cons ⟨4, false, []⟩ (.cons ⟨6, false, []⟩ (.cons ⟨7, false, [1, 2, 3]⟩ (.cons ⟨8, false, []⟩ .nil)))) (.cons ⟨7, false, [1, 2, 3]⟩ (.cons ⟨4, false, []⟩ (.cons ⟨6, false, []⟩ (.cons ⟨8, false, []⟩ .nil)))))) (.cons ⟨7, false, [1, 2, 3]⟩ (.fork (.cons ⟨4, false, []⟩ (.cons ⟨5, false, [1, 2, 3]⟩ (.cons ⟨6, false, []⟩ (.cons ⟨8, false, []⟩ .nil)))) (.cons ⟨5, false, [1, 2, 3]⟩ (.cons ⟨4, false, []⟩ (.cons ⟨6, false, []⟩ (.cons ⟨8, false, []⟩ .nil))))))))) (.fork (.cons ⟨5, false, [1, 2, 3]⟩ (.fork (.cons ⟨0, false, [1, 2, 3]⟩ (.fork (.cons ⟨4, false, []⟩ (.cons ⟨6, false, []⟩ (.cons ⟨7, false, [1, 2, 3]⟩ (.cons ⟨8, false, []⟩ .nil)))) (.cons ⟨7, false, [1, 2, 3]⟩ (.cons ⟨4, false, []⟩ (.cons ⟨6, false, []⟩ (.cons ⟨8, false, []⟩ .nil)))))) (.cons ⟨7, false, [1, 2, 3]⟩ (.cons ⟨0, false, [1, 2, 3]⟩ (.cons ⟨4, false, []⟩ (.cons ⟨6, false, []⟩ (.cons ⟨8, false, []⟩ .nil))))))) (.cons ⟨7, false, [1, 2, 3]⟩ (.fork (.cons ⟨0, false, [1, 2, 3]⟩ (.fork (.cons ⟨4, false, []⟩ (.cons ⟨5, false, [1, 2, 3]⟩ (.cons ⟨6, false, []⟩ (.cons ⟨8, false, []⟩ .nil)))) (.cons ⟨5, false, [1, 2, 3]⟩ (.cons ⟨4, false, []⟩ (.cons ⟨6, false, []⟩ (.cons ⟨8, false, []⟩ .nil)))))) (.cons ⟨5, false, [1, 2, 3]⟩ (.cons ⟨0, false, [1, 2, 3]⟩ (.cons ⟨4, false, []⟩ (.cons ⟨6, false, []⟩ (.cons ⟨8, false, []⟩ .nil))))))))))) := rfl
theorem c_impl_StartState {s : GShow} {res : GState} (h : m_impl_StartState s = some res) : CallOk Go.Proofs.Tryz.prog 31 [.agg [.sl (rowsOf GNode.encS s.nodes), .sl (rowsOf GTie.enc s.ties), .lit (.int .i64 s.horizon)]] [] (.agg [.lit (.int .i64 res.now), .ref 20000 1 0 res.times.length, .ref 20001 1 0 res.values.length]) [(20000, 1, .row true (rowsOf eI res.times)), (20001, 1, .row true (rowsOf eI res.values))] := by
  refine callOk_of (ra := [.homeCell 128 1, .homeCell 128 2]) (md := mdT) hT (hi := hi31) Go.Proofs.Tryz.func31 rfl rfl (by decide +kernel) (by simp) ?_
  unfold m_impl_StartState at h
  obtain ⟨r1001, g1, h⟩ := obnd_some h
  simp -implicitDefEqProofs -dsimp only [go_sem]
  refine callW_of (c_impl_ShowOk g1) ?_
  rcases ite_some h with ⟨h2, h⟩ | ⟨h2, h⟩
  · try simp -implicitDefEqProofs -dsimp only [go_sem, (eq_true h2), (condZ_t h2)]
    refine zforkI ?_ ?_
    · try simp -implicitDefEqProofs -dsimp only [go_sem, (eq_true h2), (condZ_t h2)]
      refine zforkI ?_ ?_
      · obtain ⟨r1002, g3, h⟩ := obnd_some h
        simp -implicitDefEqProofs -dsimp only [go_sem, (eq_true h2), (condZ_t h2)]
        refine callW_of (c_slices_Repeat_int g3) ?_
        try simp -implicitDefEqProofs -dsimp only [go_sem, (eq_true h2), (condZ_t h2)]
        refine zforkI ?_ ?_
        · obtain ⟨x1003, g4, h⟩ := obnd_some h
          obtain ⟨h6, h7⟩ := getI_nat (k := 0) g4
          cases h
          simp -implicitDefEqProofs -dsimp only [go_sem, (eq_true h2), (condZ_t h2), h6, h7]
        · obtain ⟨x1004, g8, h⟩ := obnd_some h
          obtain ⟨h10, h11⟩ := getI_nat (k := 0) g8
          cases h
          simp -implicitDefEqProofs -dsimp only [go_sem, (eq_true h2), (condZ_t h2), h10, h11]
      · try simp -implicitDefEqProofs -dsimp only [go_sem, (eq_true h2), (condZ_t h2)]
        refine zforkI ?_ ?_
        · try simp -implicitDefEqProofs -dsimp only [go_sem, (eq_true h2), (condZ_t h2)]
          refine zforkI ?_ ?_
          · obtain ⟨r1005, g12, h⟩ := obnd_some h
            simp -implicitDefEqProofs -dsimp only [go_sem, (eq_true h2), (condZ_t h2)]
            refine callW_of (c_slices_Repeat_int g12) ?_
            obtain ⟨x1006, g13, h⟩ := obnd_some h
            obtain ⟨h15, h16⟩ := getI_nat (k := 0) g13
            cases h
            simp -implicitDefEqProofs -dsimp only [go_sem, (eq_true h2), (condZ_t h2), h15, h16]
          · obtain ⟨r1007, g17, h⟩ := obnd_some h
            simp -implicitDefEqProofs -dsimp only [go_sem, (eq_true h2), (condZ_t h2)]
            refine callW_of (c_slices_Repeat_int g17) ?_
            obtain ⟨x1008, g18, h⟩ := obnd_some h
            obtain ⟨h20, h21⟩ := getI_nat (k := 0) g18
            cases h
            simp -implicitDefEqProofs -dsimp only [go_sem, (eq_true h2), (condZ_t h2), h20, h21]
        · try simp -implicitDefEqProofs -dsimp only [go_sem, (eq_true h2), (condZ_t h2)]
          refine zforkI ?_ ?_
          · obtain ⟨r1009, g22, h⟩ := obnd_some h
            simp -implicitDefEqProofs -dsimp only [go_sem, (eq_true h2), (condZ_t h2)]
            refine callW_of (c_slices_Repeat_int g22) ?_
            obtain ⟨x1010, g23, h⟩ := obnd_some h
            obtain ⟨h25, h26⟩ := getI_nat (k := 0) g23
            cases h
            simp -implicitDefEqProofs -dsimp only [go_sem, (eq_true h2), (condZ_t h2), h25, h26]
          · obtain ⟨r1011, g27, h⟩ := obnd_some h
            simp -implicitDefEqProofs -dsimp only [go_sem, (eq_true h2), (condZ_t h2)]
            refine callW_of (c_slices_Repeat_int g27) ?_
            obtain ⟨x1012, g28, h⟩ := obnd_some h
            obtain ⟨h30, h31⟩ := getI_nat (k := 0) g28
            cases h
            simp -implicitDefEqProofs -dsimp only [go_sem, (eq_true h2), (condZ_t h2), h30, h31]
    · try simp -implicitDefEqProofs -dsimp only [go_sem, (eq_true h2), (condZ_t h2)]
      refine zforkI ?_ ?_
      · try simp -implicitDefEqProofs -dsimp only [go_sem, (eq_true h2), (condZ_t h2)]
        refine zforkI ?_ ?_
        · try simp -implicitDefEqProofs -dsimp only [go_sem, (eq_true h2), (condZ_t h2)]
          refine zforkI ?_ ?_
          · obtain ⟨r1013, g32, h⟩ := obnd_some h
            simp -implicitDefEqProofs -dsimp only [go_sem, (eq_true h2), (condZ_t h2)]
            refine callW_of (c_slices_Repeat_int g32) ?_
            obtain ⟨x1014, g33, h⟩ := obnd_some h
            obtain ⟨h35, h36⟩ := getI_nat (k := 0) g33
            cases h
            simp -implicitDefEqProofs -dsimp only [go_sem, (eq_true h2), (condZ_t h2), h35, h36]
          · obtain ⟨r1015, g37, h⟩ := obnd_some h
            simp -implicitDefEqProofs -dsimp only [go_sem, (eq_true h2), (condZ_t h2)]
            refine callW_of (c_slices_Repeat_int g37) ?_
            obtain ⟨x1016, g38, h⟩ := obnd_some h
            obtain ⟨h40, h41⟩ := getI_nat (k := 0) g38
            cases h
            simp -implicitDefEqProofs -dsimp only [go_sem, (eq_true h2), (condZ_t h2), h40, h41]
        · obtain ⟨r1017, g42, h⟩ := obnd_some h
          simp -implicitDefEqProofs -dsimp only [go_sem, (eq_true h2), (condZ_t h2)]
          refine callW_of (c_slices_Repeat_int g42) ?_
          obtain ⟨x1018, g43, h⟩ := obnd_some h
          obtain ⟨h45, h46⟩ := getI_nat (k := 0) g43
          cases h
          simp -implicitDefEqProofs -dsimp only [go_sem, (eq_true h2), (condZ_t h2), h45, h46]
      · try simp -implicitDefEqProofs -dsimp only [go_sem, (eq_true h2), (condZ_t h2)]
        refine zforkI ?_ ?_
        · try simp -implicitDefEqProofs -dsimp only [go_sem, (eq_true h2), (condZ_t h2)]
          refine zforkI ?_ ?_
          · obtain ⟨r1019, g47, h⟩ := obnd_some h
            simp -implicitDefEqProofs -dsimp only [go_sem, (eq_true h2), (condZ_t h2)]
            refine callW_of (c_slices_Repeat_int g47) ?_
            obtain ⟨x1020, g48, h⟩ := obnd_some h
            obtain ⟨h50, h51⟩ := getI_nat (k := 0) g48
            cases h
            simp -implicitDefEqProofs -dsimp only [go_sem, (eq_true h2), (condZ_t h2), h50, h51]
          · obtain ⟨r1021, g52, h⟩ := obnd_some h
            simp -implicitDefEqProofs -dsimp only [go_sem, (eq_true h2), (condZ_t h2)]
            refine callW_of (c_slices_Repeat_int g52) ?_
            obtain ⟨x1022, g53, h⟩ := obnd_some h
            obtain ⟨h55, h56⟩ := getI_nat (k := 0) g53
            cases h
            simp -implicitDefEqProofs -dsimp only [go_sem, (eq_true h2), (condZ_t h2), h55, h56]
        · obtain ⟨r1023, g57, h⟩ := obnd_some h
          simp -implicitDefEqProofs -dsimp only [go_sem, (eq_true h2), (condZ_t h2)]
          refine callW_of (c_slices_Repeat_int g57) ?_
          obtain ⟨x1024, g58, h⟩ := obnd_some h
          obtain ⟨h60, h61⟩ := getI_nat (k := 0) g58
          cases h
          simp -implicitDefEqProofs -dsimp only [go_sem, (eq_true h2), (condZ_t h2), h60, h61]
  · cases h
    simp -implicitDefEqProofs -dsimp only [go_sem, (eq_false h2), (condZ_f h2)]
/- 96 loop.example/g00827/impl.active -/
def m_impl_active_L1_St (v9 : List GTie) (v10 : Int) (v3_0 : Int) (v3_1 : List Int) (v3_2 : List Int) : (Int × (List Int)) → St
  | (v11, out) => ⟨[(3, .ptr 192 1 0 0), (5, .ref 383 1 0 out.length), (9, .sl (rowsOf GTie.enc v9)), (10, .lit (.int .i64 v10)), (11, .lit (.int .i64 v11))], [(192, 1, .var [.lit (.int .i64 v3_0), .sl (rowsOf eI v3_1), .sl (rowsOf eI v3_2)]), (383, 1, .row true (rowsOf eI out))], 2⟩
attribute [go_sem] m_impl_active_L1_St
def hi96 : Hint where
  acts := fun _ => []
  draws := fun
    | _ => ⟨.nil, [], []⟩
theorem hi96a (i : Nat) : hi96.acts i = [] := rfl
theorem hi96v (i : Nat) : hi96.views i = none := rfl
attribute [go_sem] hi96a hi96v Go.Proofs.Tryz.ntmps96 Go.Proofs.Tryz.results96
theorem c_impl_active {s : GShow} {v1 : GState} {res : List Int} (h : m_impl_active s v1 = some res) : CallOk Go.Proofs.Tryz.prog 96 [.agg [.sl (rowsOf GNode.encS s.nodes), .sl (rowsOf GTie.enc s.ties), .lit (.int .i64 s.horizon)], .agg [.lit (.int .i64 v1.now), .sl (rowsOf eI v1.times), .sl (rowsOf eI v1.values)]] [] (.ref 20000 1 0 res.length) [(20000, 1, .row true (rowsOf eI res))] := by
  refine callOk_of (ra := [.home 4]) (md := mdT) hT (hi := hi96) Go.Proofs.Tryz.func96 rfl rfl (by decide +kernel) (by simp) ?_
  unfold m_impl_active at h
  obtain ⟨q1004, l1, h⟩ := obnd_some h
  simp -implicitDefEqProofs -dsimp only [go_sem]
  refine loopW_loopO (m1 := .mk) (m2 := .mk) [.home 5, .nf [3, 5, 9, 10, 11] [192, 383]] (m_impl_active_L1_St s.ties ((s.ties.length : Nat) : Int) v1.now v1.times v1.values) l1 ?_ ?_
  · simp -implicitDefEqProofs -dsimp only [go_sem]
  · intro nb2 sb2 bb2 b2 gb2
    obtain ⟨v11_1, out_1⟩ := sb2
    unfold m_impl_active_L1 at b2
    try dsimp only at b2
    rcases ite_some b2 with ⟨h3, b2⟩ | ⟨h3, b2⟩
    · obtain ⟨x1001, g4, b2⟩ := obnd_some b2
      obtain ⟨h5, h6, h7⟩ := getI_some g4
      rcases ite_some b2 with ⟨h8, b2⟩ | ⟨h8, b2⟩
      · obtain ⟨x1002, g9, b2⟩ := obnd_some b2
        obtain ⟨h10, h11, h12⟩ := getI_some g9
        rcases ite_some b2 with ⟨h13, b2⟩ | ⟨h13, b2⟩
        · cases b2
          simp -implicitDefEqProofs -dsimp only [go_sem, (eq_true h3), h5, h6, h7, (eq_true h8), (condZ_t h8), h10, h11, h12, (eq_true h13)]
          refine next_of gb2 ?_
          simp -implicitDefEqProofs -dsimp only [go_sem, (eq_true h3), h5, h6, h7, (eq_true h8), (condZ_t h8), h10, h11, h12, (eq_true h13)]
        · obtain ⟨x1003, g14, b2⟩ := obnd_some b2
          obtain ⟨h15, h16, h17⟩ := getI_some g14
          rcases ite_some b2 with ⟨h18, b2⟩ | ⟨h18, b2⟩
          · obtain ⟨h19, b2⟩ := chk_some b2
            obtain ⟨h20, b2⟩ := chk_some b2
            cases b2
            simp -implicitDefEqProofs -dsimp only [go_sem, (eq_true h3), h5, h6, h7, (eq_true h8), (condZ_t h8), h10, h11, h12, (eq_false h13), h15, h16, h17, (eq_true h18), (eq_true h19), (eq_true h20)]
            refine next_of gb2 ?_
            simp -implicitDefEqProofs -dsimp only [go_sem, (eq_true h3), h5, h6, h7, (eq_true h8), (condZ_t h8), h10, h11, h12, (eq_false h13), h15, h16, h17, (eq_true h18), (eq_true h19), (eq_true h20)]
          · cases b2
            simp -implicitDefEqProofs -dsimp only [go_sem, (eq_true h3), h5, h6, h7, (eq_true h8), (condZ_t h8), h10, h11, h12, (eq_false h13), h15, h16, h17, (eq_false h18)]
            refine next_of gb2 ?_
            simp -implicitDefEqProofs -dsimp only [go_sem, (eq_true h3), h5, h6, h7, (eq_true h8), (condZ_t h8), h10, h11, h12, (eq_false h13), h15, h16, h17, (eq_false h18)]
      · cases b2
        simp -implicitDefEqProofs -dsimp only [go_sem, (eq_true h3), h5, h6, h7, (eq_false h8), (condZ_f h8)]
        refine next_of gb2 ?_
        simp -implicitDefEqProofs -dsimp only [go_sem, (eq_true h3), h5, h6, h7, (eq_false h8), (condZ_f h8)]
    · cases b2
      have e21 := (done_of gb2).symm
      subst e21
      try dsimp only at h
      cases h
      simp -implicitDefEqProofs -dsimp only [go_sem, (eq_false h3)]
/- 98 loop.example/g00827/impl.members -/
def m_impl_members_L1_St (set : Int) (v8 : List Int) (v9 : Int) : (Int × (List Int)) → St
  | (v10, out) => ⟨[(1, .lit (.int .i64 set)), (5, .ref 383 1 0 out.length), (8, .sl (rowsOf eI v8)), (9, .lit (.int .i64 v9)), (10, .lit (.int .i64 v10))], [(383, 1, .row true (rowsOf eI out))], 2⟩
attribute [go_sem] m_impl_members_L1_St
def hi98 : Hint where
  acts := fun _ => []
  draws := fun
    | _ => ⟨.nil, [], []⟩
theorem hi98a (i : Nat) : hi98.acts i = [] := rfl
theorem hi98v (i : Nat) : hi98.views i = none := rfl
attribute [go_sem] hi98a hi98v Go.Proofs.Tryz.ntmps98 Go.Proofs.Tryz.results98
theorem c_impl_members {list : List Int} {set : Int} {res : List Int} (h : m_impl_members list set = some res) : CallOk Go.Proofs.Tryz.prog 98 [.sl (rowsOf eI list), .lit (.int .i64 set)] [] (.ref 20000 1 0 res.length) [(20000, 1, .row true (rowsOf eI res))] := by
  refine callOk_of (ra := [.home 4]) (md := mdT) hT (hi := hi98) Go.Proofs.Tryz.func98 rfl rfl (by decide +kernel) (by simp) ?_
  unfold m_impl_members at h
  obtain ⟨q1002, l1, h⟩ := obnd_some h
  simp -implicitDefEqProofs -dsimp only [go_sem]
  refine loopW_loopO (m1 := .mk) (m2 := .mk) [.home 5, .nf [1, 5, 8, 9, 10] [383]] (m_impl_members_L1_St set list ((list.length : Nat) : Int)) l1 ?_ ?_
  · simp -implicitDefEqProofs -dsimp only [go_sem]
  · intro nb2 sb2 bb2 b2 gb2
    obtain ⟨v10_1, out_1⟩ := sb2
    unfold m_impl_members_L1 at b2
    try dsimp only at b2
    rcases ite_some b2 with ⟨h3, b2⟩ | ⟨h3, b2⟩
    · obtain ⟨x1001, g4, b2⟩ := obnd_some b2
      obtain ⟨h5, h6, h7⟩ := getI_some g4
      obtain ⟨h8, b2⟩ := chk_some b2
      rcases ite_some b2 with ⟨h9, b2⟩ | ⟨h9, b2⟩
      · obtain ⟨h10, b2⟩ := chk_some b2
        obtain ⟨h11, b2⟩ := chk_some b2
        cases b2
        simp -implicitDefEqProofs -dsimp only [go_sem, (eq_true h3), h5, h6, h7, (eq_false h8), (eq_true h9), (eq_true h10), (eq_true h11)]
        refine next_of gb2 ?_
        simp -implicitDefEqProofs -dsimp only [go_sem, (eq_true h3), h5, h6, h7, (eq_false h8), (eq_true h9), (eq_true h10), (eq_true h11)]
      · cases b2
        simp -implicitDefEqProofs -dsimp only [go_sem, (eq_true h3), h5, h6, h7, (eq_false h8), (eq_false h9)]
        refine next_of gb2 ?_
        simp -implicitDefEqProofs -dsimp only [go_sem, (eq_true h3), h5, h6, h7, (eq_false h8), (eq_false h9)]
    · cases b2
      have e12 := (done_of gb2).symm
      subst e12
      try dsimp only at h
      cases h
      simp -implicitDefEqProofs -dsimp only [go_sem, (eq_false h3)]
/- 124 slices.Grow[[]int,int] -/
def hi124 : Hint where
  acts := fun _ => []
  draws := fun
    | _ => ⟨.nil, [], []⟩
theorem hi124a (i : Nat) : hi124.acts i = [] := rfl
theorem hi124v (i : Nat) : hi124.views i = none := rfl
attribute [go_sem] hi124a hi124v Go.Proofs.Tryz.ntmps124 Go.Proofs.Tryz.results124
theorem c_slices_Grow_int {v1 : Int} {res : List Int × Nat} (h : m_slices_Grow_int v1 = some res) : CallOk Go.Proofs.Tryz.prog 124 [.lit (.slice none 0 0), .lit (.int .i64 v1)] [] (.ref 20000 1 0 res.2) [(20000, 1, .row true (rowsOf eI res.1))] := by
  refine callOk_of (ra := [.home 4]) (md := mdT) hT (hi := hi124) Go.Proofs.Tryz.func124 rfl rfl (by decide +kernel) (by simp) ?_
  unfold m_slices_Grow_int at h
  rcases ite_some h with ⟨h1, h⟩ | ⟨h1, h⟩
  · cases h
  · rcases ite_some h with ⟨h2, h⟩ | ⟨h2, h⟩
    · obtain ⟨h3, h⟩ := chk_some h
      obtain ⟨h4, h⟩ := chk_some h
      obtain ⟨h5, h⟩ := chk_some h
      cases h
      simp -implicitDefEqProofs -dsimp only [go_sem, (eq_false h1), (eq_true h2), (eq_true h3), (eq_true h4), (eq_true h5)]
    · cases h
      simp -implicitDefEqProofs -dsimp only [go_sem, (eq_false h1), (eq_false h2)]
/- 97 slices.Concat[[]int,int] -/
def m_slices_Concat_int_L1_St (v0 : List (List Int)) (v10 : Int) : (Int × Int) → St
  | (v3, v11) => ⟨[(0, .sl (rowsOf (eLS eI) v0)), (3, .lit (.int .i64 v3)), (9, .sl (rowsOf (eLS eI) v0)), (10, .lit (.int .i64 v10)), (11, .lit (.int .i64 v11))], [], 2⟩
attribute [go_sem] m_slices_Concat_int_L1_St
def m_slices_Concat_int_L2_St (v25 : List (List Int)) (v26 : Int) : (Nat × Int × (List Int)) → St
  | (v6_n, v27, v6) => ⟨[(6, .ref 1536 1 0 v6_n), (25, .sl (rowsOf (eLS eI) v25)), (26, .lit (.int .i64 v26)), (27, .lit (.int .i64 v27))], [(1536, 1, .row true (rowsOf eI v6))], 2⟩
attribute [go_sem] m_slices_Concat_int_L2_St
def hi97 : Hint where
  acts := fun _ => []
  draws := fun
    | _ => ⟨.nil, [], []⟩
theorem hi97a (i : Nat) : hi97.acts i = [] := rfl
theorem hi97v (i : Nat) : hi97.views i = none := rfl
attribute [go_sem] hi97a hi97v Go.Proofs.Tryz.ntmps97 Go.Proofs.Tryz.results97
theorem c_slices_Concat_int {v0 : List (List Int)} {res : List Int} (h : m_slices_Concat_int v0 = some res) : CallOk Go.Proofs.Tryz.prog 97 [.sl (rowsOf (eLS eI) v0)] [] (.ref 20000 1 0 res.length) [(20000, 1, .row true (rowsOf eI res))] := by
  refine callOk_of (ra := [.home 2, .trimT 2]) (md := mdT) hT (hi := hi97) Go.Proofs.Tryz.func97 rfl rfl (by decide +kernel) (by simp) ?_
  unfold m_slices_Concat_int at h
  obtain ⟨q1005, l1, h⟩ := obnd_some h
  simp -implicitDefEqProofs -dsimp only [go_sem]
  refine loopW_loopO (m1 := .mk) (m2 := .mk) [.nf [0, 3, 9, 10, 11] []] (m_slices_Concat_int_L1_St v0 ((v0.length : Nat) : Int)) l1 ?_ ?_
  · simp -implicitDefEqProofs -dsimp only [go_sem]
  · intro nb2 sb2 bb2 b2 gb2
    obtain ⟨v3_1, v11_1⟩ := sb2
    unfold m_slices_Concat_int_L1 at b2
    try dsimp only at b2
    rcases ite_some b2 with ⟨h3, b2⟩ | ⟨h3, b2⟩
    · obtain ⟨x1001, g4, b2⟩ := obnd_some b2
      obtain ⟨h5, h6, h7⟩ := getI_some g4
      rcases ite_some b2 with ⟨h8, b2⟩ | ⟨h8, b2⟩
      · cases b2
      · cases b2
        simp -implicitDefEqProofs -dsimp only [go_sem, (eq_true h3), h5, h6, h7, (eq_false h8)]
        refine next_of gb2 ?_
        simp -implicitDefEqProofs -dsimp only [go_sem, (eq_true h3), h5, h6, h7, (eq_false h8)]
    · cases b2
      have e9 := (done_of gb2).symm
      subst e9
      try dsimp only at h
      obtain ⟨r1002, g10, h⟩ := obnd_some h
      simp -implicitDefEqProofs -dsimp only [go_sem, (eq_false h3)]
      refine callW_of (c_slices_Grow_int g10) ?_
      obtain ⟨q1004, l11, h⟩ := obnd_some h
      simp -implicitDefEqProofs -dsimp only [go_sem, (eq_false h3)]
      refine loopW_loopO (m1 := .mk) (m2 := .mk) [.nf [6, 25, 26, 27] [1536]] (m_slices_Concat_int_L2_St v0 ((v0.length : Nat) : Int)) l11 ?_ ?_
      · simp -implicitDefEqProofs -dsimp only [go_sem, (eq_false h3)]
      · intro nb12 sb12 bb12 b12 gb12
        obtain ⟨v6_n_2, v27_2, v6_2⟩ := sb12
        unfold m_slices_Concat_int_L2 at b12
        try dsimp only at b12
        rcases ite_some b12 with ⟨h13, b12⟩ | ⟨h13, b12⟩
        · obtain ⟨x1003, g14, b12⟩ := obnd_some b12
          obtain ⟨h15, h16, h17⟩ := getI_some g14
          rcases ite_some b12 with ⟨h18, b12⟩ | ⟨h18, b12⟩
          · obtain ⟨h19, b12⟩ := chk_some b12
            obtain ⟨h20, b12⟩ := chk_some b12
            cases b12
            simp -implicitDefEqProofs -dsimp only [go_sem, (eq_false h3), (eq_true h13), h15, h16, h17, (eq_true h18), (eq_true h19), (eq_true h20)]
            refine next_of gb12 ?_
            simp -implicitDefEqProofs -dsimp only [go_sem, (eq_false h3), (eq_true h13), h15, h16, h17, (eq_true h18), (eq_true h19), (eq_true h20)]
          · obtain ⟨h21, b12⟩ := chk_some b12
            rcases ite_some b12 with ⟨h22, b12⟩ | ⟨h22, b12⟩
            · cases b12
              simp -implicitDefEqProofs -dsimp only [go_sem, (eq_false h3), (eq_true h13), h15, h16, h17, (eq_false h18), (eq_true h21), (eq_true h22)]
              refine next_of gb12 ?_
              simp -implicitDefEqProofs -dsimp only [go_sem, (eq_false h3), (eq_true h13), h15, h16, h17, (eq_false h18), (eq_true h21), (eq_true h22)]
            · obtain ⟨h23, b12⟩ := chk_some b12
              obtain ⟨h24, b12⟩ := chk_some b12
              cases b12
              simp -implicitDefEqProofs -dsimp only [go_sem, (eq_false h3), (eq_true h13), h15, h16, h17, (eq_false h18), (eq_true h21), (eq_false h22), (eq_true h23), (eq_true h24)]
              refine next_of gb12 ?_
              simp -implicitDefEqProofs -dsimp only [go_sem, (eq_false h3), (eq_true h13), h15, h16, h17, (eq_false h18), (eq_true h21), (eq_false h22), (eq_true h23), (eq_true h24)]
        · cases b12
          have e25 := (done_of gb12).symm
          subst e25
          try dsimp only at h
          obtain ⟨h26, h⟩ := chk_some h
          obtain ⟨h27, h⟩ := chk_some h
          cases h
          simp -implicitDefEqProofs -dsimp only [go_sem, (eq_false h3), (eq_false h13), (eq_true h26), (eq_true h27)]
/- 149 math/bits.Len64 -/
def hi149 : Hint where
  acts := fun _ => []
  draws := fun
    | _ => ⟨.nil, [], []⟩
theorem hi149a (i : Nat) : hi149.acts i = [] := rfl
theorem hi149v (i : Nat) : hi149.views i = none := rfl
attribute [go_sem] hi149a hi149v Go.Proofs.Tryz.ntmps149 Go.Proofs.Tryz.results149
theorem c_bits_Len64 {v0 : Int} {res : Int} (h : m_bits_Len64 v0 = some res) : CallOk Go.Proofs.Tryz.prog 149 [.lit (.int .u64 v0)] [] (.lit (.int .i64 res)) [] := by
  refine callOk_of (ra := []) (md := mdT) hT (hi := hi149) Go.Proofs.Tryz.func149 rfl rfl (by decide +kernel) (by simp) ?_
  unfold m_bits_Len64 at h
  rcases ite_some h with ⟨h1, h⟩ | ⟨h1, h⟩
  · rcases ite_some h with ⟨h2, h⟩ | ⟨h2, h⟩
    · rcases ite_some h with ⟨h3, h⟩ | ⟨h3, h⟩
      · obtain ⟨c1001, g4, h⟩ := obnd_some h
        obtain ⟨h5, h6, h7⟩ := getS_some g4
        cases h
        simp -implicitDefEqProofs -dsimp only [go_sem, (eq_true h1), (eq_true h2), (eq_true h3), h5, h6, h7]
      · obtain ⟨c1002, g8, h⟩ := obnd_some h
        obtain ⟨h9, h10, h11⟩ := getS_some g8
        cases h
        simp -implicitDefEqProofs -dsimp only [go_sem, (eq_true h1), (eq_true h2), (eq_false h3), h9, h10, h11]
    · rcases ite_some h with ⟨h12, h⟩ | ⟨h12, h⟩
      · obtain ⟨c1003, g13, h⟩ := obnd_some h
        obtain ⟨h14, h15, h16⟩ := getS_some g13
        cases h
        simp -implicitDefEqProofs -dsimp only [go_sem, (eq_true h1), (eq_false h2), (eq_true h12), h14, h15, h16]
      · obtain ⟨c1004, g17, h⟩ := obnd_some h
        obtain ⟨h18, h19, h20⟩ := getS_some g17
        cases h
        simp -implicitDefEqProofs -dsimp only [go_sem, (eq_true h1), (eq_false h2), (eq_false h12), h18, h19, h20]
  · rcases ite_some h with ⟨h21, h⟩ | ⟨h21, h⟩
    · rcases ite_some h with ⟨h22, h⟩ | ⟨h22, h⟩
      · obtain ⟨c1005, g23, h⟩ := obnd_some h
        obtain ⟨h24, h25, h26⟩ := getS_some g23
        cases h
        simp -implicitDefEqProofs -dsimp only [go_sem, (eq_false h1), (eq_true h21), (eq_true h22), h24, h25, h26]
      · obtain ⟨c1006, g27, h⟩ := obnd_some h
        obtain ⟨h28, h29, h30⟩ := getS_some g27
        cases h
        simp -implicitDefEqProofs -dsimp only [go_sem, (eq_false h1), (eq_true h21), (eq_false h22), h28, h29, h30]
    · rcases ite_some h with ⟨h31, h⟩ | ⟨h31, h⟩
      · obtain ⟨c1007, g32, h⟩ := obnd_some h
        obtain ⟨h33, h34, h35⟩ := getS_some g32
        cases h
        simp -implicitDefEqProofs -dsimp only [go_sem, (eq_false h1), (eq_false h21), (eq_true h31), h33, h34, h35]
      · obtain ⟨c1008, g36, h⟩ := obnd_some h
        obtain ⟨h37, h38, h39⟩ := getS_some g36
        cases h
        simp -implicitDefEqProofs -dsimp only [go_sem, (eq_false h1), (eq_false h21), (eq_false h31), h37, h38, h39]
/- 126 math/bits.Len -/
def hi126 : Hint where
  acts := fun _ => []
  draws := fun
    | _ => ⟨.nil, [], []⟩
theorem hi126a (i : Nat) : hi126.acts i = [] := rfl
theorem hi126v (i : Nat) : hi126.views i = none := rfl
attribute [go_sem] hi126a hi126v Go.Proofs.Tryz.ntmps126 Go.Proofs.Tryz.results126
theorem c_bits_Len {v0 : Int} {res : Int} (h : m_bits_Len v0 = some res) : CallOk Go.Proofs.Tryz.prog 126 [.lit (.int .u64 v0)] [] (.lit (.int .i64 res)) [] := by
  refine callOk_of (ra := []) (md := mdT) hT (hi := hi126) Go.Proofs.Tryz.func126 rfl rfl (by decide +kernel) (by simp) ?_
  unfold m_bits_Len at h
  obtain ⟨r1001, g1, h⟩ := obnd_some h
  simp -implicitDefEqProofs -dsimp only [go_sem]
  refine callW_of (c_bits_Len64 g1) ?_
  cases h
  simp -implicitDefEqProofs -dsimp only [go_sem]
/- 159 cmp.isNaN[int] -/
def hi159 : Hint where
  acts := fun _ => []
  draws := fun
    | _ => ⟨.nil, [], []⟩
theorem hi159a (i : Nat) : hi159.acts i = [] := rfl
theorem hi159v (i : Nat) : hi159.views i = none := rfl
attribute [go_sem] hi159a hi159v Go.Proofs.Tryz.ntmps159 Go.Proofs.Tryz.results159
theorem c_cmp_isNaN_int {v0 : Int} {res : Bool} (h : m_cmp_isNaN_int v0 = some res) : CallOk Go.Proofs.Tryz.prog 159 [.lit (.int .i64 v0)] [] (.lit (.bool res)) [] := by
  refine callOk_of (ra := []) (md := mdT) hT (hi := hi159) Go.Proofs.Tryz.func159 rfl rfl (by decide +kernel) (by simp) ?_
  unfold m_cmp_isNaN_int at h
  cases h
  simp -implicitDefEqProofs -dsimp only [go_sem]
/- 145 cmp.Less[int] -/
def hi145 : Hint where
  acts := fun _ => []
  draws := fun
    | _ => ⟨.nil, [], []⟩
theorem hi145a (i : Nat) : hi145.acts i = [] := rfl
theorem hi145v (i : Nat) : hi145.views i = none := rfl
attribute [go_sem] hi145a hi145v Go.Proofs.Tryz.ntmps145 Go.Proofs.Tryz.results145
theorem c_cmp_Less_int {v0 : Int} {v1 : Int} {res : Bool} (h : m_cmp_Less_int v0 v1 = some res) : CallOk Go.Proofs.Tryz.prog 145 [.lit (.int .i64 v0), .lit (.int .i64 v1)] [] (.lit (.bool res)) [] := by
  refine callOk_of (ra := []) (md := mdT) hT (hi := hi145) Go.Proofs.Tryz.func145 rfl rfl (by decide +kernel) (by simp) ?_
  unfold m_cmp_Less_int at h
  obtain ⟨r1001, g1, h⟩ := obnd_some h
  simp -implicitDefEqProofs -dsimp only [go_sem]
  refine callW_of (c_cmp_isNaN_int g1) ?_
  rcases ite_some h with ⟨h2, h⟩ | ⟨h2, h⟩
  · obtain ⟨r1002, g3, h⟩ := obnd_some h
    simp -implicitDefEqProofs -dsimp only [go_sem, (eq_true h2), (condZ_t h2)]
    refine callW_of (c_cmp_isNaN_int g3) ?_
    rcases ite_some h with ⟨h4, h⟩ | ⟨h4, h⟩
    · cases h
      simp -implicitDefEqProofs -dsimp only [go_sem, (eq_true h2), (condZ_t h2), (eq_true h4), (condZ_t h4)]
    · cases h
      simp -implicitDefEqProofs -dsimp only [go_sem, (eq_true h2), (condZ_t h2), (eq_false h4), (condZ_f h4)]
  · cases h
    simp -implicitDefEqProofs -dsimp only [go_sem, (eq_false h2), (condZ_f h2)]
/- 139 slices.insertionSortOrdered[int] -/
def m_slices_insertionSortOrdered_int_L1_St (zb0 : Bool) (v1 : Int) (v2 : Int) (v6 : Int) : (Int × (List Int)) → St
  | (v7, v0) => ⟨[(0, .ref 10000 0 0 v0.length), (1, .lit (.int .i64 v1)), (2, .lit (.int .i64 v2)), (6, .lit (.int .i64 v6)), (7, .lit (.int .i64 v7))], [(10000, 0, .row zb0 (rowsOf eI v0))], 2⟩
attribute [go_sem] m_slices_insertionSortOrdered_int_L1_St
def m_slices_insertionSortOrdered_int_L2_St (zb0 : Bool) (v1 : Int) (v2 : Int) : (Int × (List Int)) → St
  | (v6, v0) => ⟨[(0, .ref 10000 0 0 v0.length), (1, .lit (.int .i64 v1)), (2, .lit (.int .i64 v2)), (6, .lit (.int .i64 v6))], [(10000, 0, .row zb0 (rowsOf eI v0))], 2⟩
attribute [go_sem] m_slices_insertionSortOrdered_int_L2_St
def hi139 : Hint where
  acts := fun _ => []
  draws := fun
    | 4 => ⟨.cons ⟨0, false, []⟩ (.cons ⟨1, false, []⟩ (.cons ⟨2, false, []⟩ (.cons ⟨3, false, []⟩ (.cons ⟨4, false, []⟩ (.cons ⟨5, false, []⟩ (.cons ⟨6, false, []⟩ (.cons ⟨7, false, []⟩ (.cons ⟨8, false, []⟩ (.cons ⟨9, false, []⟩ (.cons ⟨10, false, []⟩ (.cons ⟨11, false, []⟩ (.cons ⟨12, false, []⟩ (.cons ⟨13, false, []⟩ (.cons ⟨14, false, []⟩ .nil)))))))))))))), [[], [], [0, 1], [0, 1, 2], [0, 1, 2, 3], [0, 1, 2, 3], [0, 1, 2, 3, 4, 5], [0, 1, 2, 3, 4, 5, 6], [0, 1, 2, 3], [0, 1, 2, 3], [0, 1, 2, 3, 9], [0, 1, 2, 3, 8, 9, 10], [0, 1, 2, 3, 8, 9, 10, 11], [0, 1, 2, 3, 4, 5, 6, 7, 8, 9, 10, 11, 12], [0, 1, 2, 3, 4, 5, 6, 7, 8, 9, 10, 11, 12, 13]], [0, 1, 2, 3, 4, 5, 6, 7, 8, 9, 10, 11, 12, 13, 14]⟩
    | 6 => ⟨.cons ⟨0, false, []⟩ (.cons ⟨1, false, []⟩ (.cons ⟨2, false, []⟩ (.cons ⟨3, false, []⟩ (.cons ⟨4, false, []⟩ (.cons ⟨5, false, []⟩ (.cons ⟨6, false, []⟩ (.cons ⟨7, false, []⟩ (.cons ⟨8, false, []⟩ (.cons ⟨9, false, []⟩ (.cons ⟨10, false, []⟩ (.cons ⟨11, false, []⟩ (.cons ⟨12, false, []⟩ (.cons ⟨13, false, []⟩ (.cons ⟨14, false, []⟩ (.cons ⟨15, false, []⟩ (.cons ⟨16, false, []⟩ (.cons ⟨17, false, []⟩ .nil))))))))))))))))), [[], [], [], [], [3], [], [], [6], [5, 6, 7], [5, 6, 7, 8], [], [], [10, 11], [10, 11, 12], [0, 1, 5, 6, 7, 8, 9, 10, 11, 12, 13], [0, 1, 5, 6, 7, 8, 9, 10, 11, 12, 13, 14], [0, 1, 2, 3, 4, 5, 6, 7, 8, 9, 10, 11, 12, 13, 14, 15], [0, 1, 2, 3, 4, 5, 6, 7, 8, 9, 10, 11, 12, 13, 14, 15, 16]], [0, 1, 13, 14, 15, 2, 3, 4, 5, 6, 7, 8, 9, 10, 11, 12, 16, 17]⟩
    | _ => ⟨.nil, [], []⟩
theorem hi139a (i : Nat) : hi139.acts i = [] := rfl
theorem hi139v (i : Nat) : hi139.views i = none := rfl
attribute [go_sem] hi139a hi139v Go.Proofs.Tryz.ntmps139 Go.Proofs.Tryz.results139
@[go_sem] theorem hi139d4 : (hi139.draws 4).order = .cons ⟨0, false, []⟩ (.cons ⟨1, false, []⟩ (.cons ⟨2, false, []⟩ (.cons ⟨3, false, []⟩ (.cons ⟨4, false, []⟩ (.cons ⟨5, false, []⟩ (.cons ⟨6, false, []⟩ (.cons ⟨7, false, []⟩ (.cons ⟨8, false, []⟩ (.cons ⟨9, false, []⟩ (.cons ⟨10, false, []⟩ (.cons ⟨11, false, []⟩ (.cons ⟨12, false, []⟩ (.cons ⟨13, false, []⟩ (.cons ⟨14, false, []⟩ .nil)))))))))))))) := rfl
@[go_sem] theorem hi139d6 : (hi139.draws 6).order = .cons ⟨0, false, []⟩ (.cons ⟨1, false, []⟩ (.cons ⟨2, false, []⟩ (.cons ⟨3, false, []⟩ (.cons ⟨4, false, []⟩ (.cons ⟨5, false, []⟩ (.cons ⟨6, false, []⟩ (.cons ⟨7, false, []⟩ (.cons ⟨8, false, []⟩ (.cons ⟨9, false, []⟩ (.cons ⟨10, false, []⟩ (.cons ⟨11, false, []⟩ (.cons ⟨12, false, []⟩ (.cons ⟨13, false, []⟩ (.cons ⟨14, false, []⟩ (.cons ⟨15, false, []⟩ (.cons ⟨16, false, []⟩ (.cons ⟨17, false, []⟩ .nil))))))))))))))))) := rfl
theorem c_slices_insertionSortOrdered_int {v0 : List Int} {v1 : Int} {v2 : Int} {zb0 : Bool} {res : List Int} (h : m_slices_insertionSortOrdered_int v0 v1 v2 = some res) : CallOk Go.Proofs.Tryz.prog 139 [.ref 10000 0 0 v0.length, .lit (.int .i64 v1), .lit (.int .i64 v2)] [(10000, 0, .row zb0 (rowsOf eI v0))] (.tup []) [(10000, 0, .row zb0 (rowsOf eI res))] := by
  refine callOk_of (ra := []) (md := mdT) hT (hi := hi139) Go.Proofs.Tryz.func139 rfl rfl (by decide +kernel) (by simp) ?_
  unfold m_slices_insertionSortOrdered_int at h
  obtain ⟨q1006, l1, h⟩ := obnd_some h
  simp -implicitDefEqProofs -dsimp only [go_sem]
  refine loopW_loopO (m1 := .mk) (m2 := .mk) [.nf [0, 1, 2, 6] [10000]] (m_slices_insertionSortOrdered_int_L2_St zb0 v1 v2) l1 ?_ ?_
  · simp -implicitDefEqProofs -dsimp only [go_sem]
  · intro nb2 sb2 bb2 b2 gb2
    obtain ⟨v6_1, v0_1⟩ := sb2
    unfold m_slices_insertionSortOrdered_int_L2 at b2
    try dsimp only at b2
    rcases ite_some b2 with ⟨h3, b2⟩ | ⟨h3, b2⟩
    · obtain ⟨q1005, l4, b2⟩ := obnd_some b2
      simp -implicitDefEqProofs -dsimp only [go_sem, (eq_true h3)]
      refine loopW_loopO (m1 := .mk) (m2 := .mk) [.nf [0, 1, 2, 6, 7] [10000]] (m_slices_insertionSortOrdered_int_L1_St zb0 v1 v2 v6_1) l4 ?_ ?_
      · simp -implicitDefEqProofs -dsimp only [go_sem, (eq_true h3)]
      · intro nb5 sb5 bb5 b5 gb5
        obtain ⟨v7_2, v0_2⟩ := sb5
        unfold m_slices_insertionSortOrdered_int_L1 at b5
        try dsimp only at b5
        rcases ite_some b5 with ⟨h6, b5⟩ | ⟨h6, b5⟩
        · obtain ⟨x1001, g7, b5⟩ := obnd_some b5
          obtain ⟨h8, h9, h10⟩ := getI_some g7
          obtain ⟨x1002, g11, b5⟩ := obnd_some b5
          obtain ⟨h12, h13, h14⟩ := getI_some g11
          obtain ⟨r1003, g15, b5⟩ := obnd_some b5
          simp -implicitDefEqProofs -dsimp only [go_sem, (eq_true h3), (eq_true h6), h8, h9, h10, h12, h13, h14]
          refine callW_of (c_cmp_Less_int g15) ?_
          rcases ite_some b5 with ⟨h16, b5⟩ | ⟨h16, b5⟩
          · obtain ⟨x1004, g17, b5⟩ := obnd_some b5
            obtain ⟨h18, h19, h20⟩ := getI_some g17
            cases b5
            simp -implicitDefEqProofs -dsimp only [go_sem, (eq_true h3), (eq_true h6), h8, h9, h10, h12, h13, h14, (eq_true h16), (condZ_t h16), h18, h19, h20]
            refine next_of gb5 ?_
            simp -implicitDefEqProofs -dsimp only [go_sem, (eq_true h3), (eq_true h6), h8, h9, h10, h12, h13, h14, (eq_true h16), (condZ_t h16), h18, h19, h20]
          · cases b5
            have e21 := (done_of gb5).symm
            subst e21
            try dsimp only at b2
            cases b2
            simp -implicitDefEqProofs -dsimp only [go_sem, (eq_true h3), (eq_true h6), h8, h9, h10, h12, h13, h14, (eq_false h16), (condZ_f h16)]
            refine next_of gb2 ?_
            simp -implicitDefEqProofs -dsimp only [go_sem, (eq_true h3), (eq_true h6), h8, h9, h10, h12, h13, h14, (eq_false h16), (condZ_f h16)]
        · cases b5
          have e22 := (done_of gb5).symm
          subst e22
          try dsimp only at b2
          cases b2
          simp -implicitDefEqProofs -dsimp only [go_sem, (eq_true h3), (eq_false h6)]
          refine next_of gb2 ?_
          simp -implicitDefEqProofs -dsimp only [go_sem, (eq_true h3), (eq_false h6)]
    · cases b2
      have e23 := (done_of gb2).symm
      subst e23
      try dsimp only at h
      cases h
      simp -implicitDefEqProofs -dsimp only [go_sem, (eq_false h3)]
/- 125 slices.pdqsortOrdered[int] -/
def m_slices_pdqsortOrdered_int_L1_St (zb0 : Bool) (v1 : Int) (v2 : Int) (v3 : Int) (v0 : List Int) (_ : Unit) : St := ⟨[(0, .ref 10000 0 0 v0.length), (1, .lit (.int .i64 v1)), (2, .lit (.int .i64 v2)), (3, .lit (.int .i64 v3)), (8, .lit (.bool true)), (9, .lit (.bool true))], [(10000, 0, .row zb0 (rowsOf eI v0))], 2⟩
attribute [go_sem] m_slices_pdqsortOrdered_int_L1_St
def hi125 : Hint where
  acts := fun _ => []
  draws := fun
    | 17 => ⟨.cons ⟨0, false, []⟩ (.cons ⟨1, false, []⟩ (.cons ⟨2, false, []⟩ (.cons ⟨3, false, []⟩ (.cons ⟨4, false, []⟩ (.cons ⟨5, false, []⟩ (.cons ⟨6, false, []⟩ (.cons ⟨7, false, []⟩ (.cons ⟨8, false, []⟩ (.cons ⟨9, false, []⟩ (.cons ⟨10, false, []⟩ (.cons ⟨11, false, []⟩ (.cons ⟨12, false, []⟩ (.cons ⟨13, false, []⟩ (.cons ⟨14, false, []⟩ .nil)))))))))))))), [[], [0], [0, 1], [0, 1, 2], [0, 1, 2], [0, 1, 2, 4], [0, 1, 2, 3, 4, 5], [0, 1, 2, 3, 4, 5, 6], [0, 1, 2], [0, 1, 2], [0, 1, 2, 8, 9], [0, 1, 2, 8, 9, 10], [0, 1, 2, 3, 4, 5, 6, 7, 8, 9, 10, 11], [0, 1, 2, 3, 4, 5, 6, 7, 8, 9, 10, 11, 12], [0, 1, 2, 3, 4, 5, 6, 7, 8, 9, 10, 11, 12, 13]], [0, 1, 2, 3, 4, 5, 6, 7, 8, 9, 10, 11, 12, 13, 14]⟩
    | _ => ⟨.nil, [], []⟩
theorem hi125a (i : Nat) : hi125.acts i = [] := rfl
theorem hi125v (i : Nat) : hi125.views i = none := rfl
attribute [go_sem] hi125a hi125v Go.Proofs.Tryz.ntmps125 Go.Proofs.Tryz.results125
@[go_sem] theorem hi125d17 : (hi125.draws 17).order = .cons ⟨0, false, []⟩ (.cons ⟨1, false, []⟩ (.cons ⟨2, false, []⟩ (.cons ⟨3, false, []⟩ (.cons ⟨4, false, []⟩ (.cons ⟨5, false, []⟩ (.cons ⟨6, false, []⟩ (.cons ⟨7, false, []⟩ (.cons ⟨8, false, []⟩ (.cons ⟨9, false, []⟩ (.cons ⟨10, false, []⟩ (.cons ⟨11, false, []⟩ (.cons ⟨12, false, []⟩ (.cons ⟨13, false, []⟩ (.cons ⟨14, false, []⟩ .nil)))))))))))))) := rfl
theorem c_slices_pdqsortOrdered_int {v0 : List Int} {v1 : Int} {v2 : Int} {v3 : Int} {zb0 : Bool} {res : List Int} (h : m_slices_pdqsortOrdered_int v0 v1 v2 v3 = some res) : CallOk Go.Proofs.Tryz.prog 125 [.ref 10000 0 0 v0.length, .lit (.int .i64 v1), .lit (.int .i64 v2), .lit (.int .i64 v3)] [(10000, 0, .row zb0 (rowsOf eI v0))] (.tup []) [(10000, 0, .row zb0 (rowsOf eI res))] := by
  refine callOk_of (ra := []) (md := mdT) hT (hi := hi125) Go.Proofs.Tryz.func125 rfl rfl (by decide +kernel) (by simp) ?_
  unfold m_slices_pdqsortOrdered_int at h
  obtain ⟨q1002, l1, h⟩ := obnd_some h
  simp -implicitDefEqProofs -dsimp only [go_sem]
  refine loopW_loopO (m1 := .mk) (m2 := .mk) [.nf [0, 1, 2, 3, 8, 9] [10000]] (m_slices_pdqsortOrdered_int_L1_St zb0 v1 v2 v3 v0) l1 ?_ ?_
  · simp -implicitDefEqProofs -dsimp only [go_sem]
  · intro nb2 sb2 bb2 b2 gb2
    unfold m_slices_pdqsortOrdered_int_L1 at b2
    try dsimp only at b2
    rcases ite_some b2 with ⟨h3, b2⟩ | ⟨h3, b2⟩
    · obtain ⟨r1001, g4, b2⟩ := obnd_some b2
      simp -implicitDefEqProofs -dsimp only [go_sem, (eq_true h3)]
      refine callW_of (c_slices_insertionSortOrdered_int g4) ?_
      cases b2
      have e5 := (done_of gb2).symm
      subst e5
      try dsimp only at h
      cases h
      simp -implicitDefEqProofs -dsimp only [go_sem, (eq_true h3)]
    · cases b2
/- 99 slices.Sort[[]int,int] -/
def hi99 : Hint where
  acts := fun _ => []
  draws := fun
    | _ => ⟨.nil, [], []⟩
theorem hi99a (i : Nat) : hi99.acts i = [] := rfl
theorem hi99v (i : Nat) : hi99.views i = none := rfl
attribute [go_sem] hi99a hi99v Go.Proofs.Tryz.ntmps99 Go.Proofs.Tryz.results99
theorem c_slices_Sort_int {v0 : List Int} {zb0 : Bool} {res : List Int} (h : m_slices_Sort_int v0 = some res) : CallOk Go.Proofs.Tryz.prog 99 [.ref 10000 0 0 v0.length] [(10000, 0, .row zb0 (rowsOf eI v0))] (.tup []) [(10000, 0, .row zb0 (rowsOf eI res))] := by
  refine callOk_of (ra := []) (md := mdT) hT (hi := hi99) Go.Proofs.Tryz.func99 rfl rfl (by decide +kernel) (by simp) ?_
  unfold m_slices_Sort_int at h
  obtain ⟨r1001, g1, h⟩ := obnd_some h
  simp -implicitDefEqProofs -dsimp only [go_sem]
  refine callW_of (c_bits_Len g1) ?_
  obtain ⟨r1002, g2, h⟩ := obnd_some h
  simp -implicitDefEqProofs -dsimp only [go_sem]
  refine callW_of (c_slices_pdqsortOrdered_int g2) ?_
  cases h
  simp -implicitDefEqProofs -dsimp only [go_sem]
/- 62 loop.example/g00827/impl.endings -/
def m_impl_endings_L1_St (v21 : Int) (s_0 : List GNode) (s_1 : List GTie) (s_2 : Int) (v3_0 : Int) (v3_1 : List Int) (v3_2 : List Int) (v20 : List Int) : (Int × (List Int) × (List Int)) → St
  | (v22, must, may) => ⟨[(2, .ptr 128 1 0 0), (3, .ptr 192 1 0 0), (5, .ref 383 1 0 must.length), (6, .ref 447 1 0 may.length), (20, .ref 1280 1 0 v20.length), (21, .lit (.int .i64 v21)), (22, .lit (.int .i64 v22))], [(128, 1, .var [.sl (rowsOf GNode.encS s_0), .sl (rowsOf GTie.enc s_1), .lit (.int .i64 s_2)]), (192, 1, .var [.lit (.int .i64 v3_0), .sl (rowsOf eI v3_1), .sl (rowsOf eI v3_2)]), (383, 1, .row true (rowsOf eI must)), (447, 1, .row true (rowsOf eI may)), (1280, 1, .row true (rowsOf eI v20))], 2⟩
attribute [go_sem] m_impl_endings_L1_St
def m_impl_endings_L2_St (must : List Int) (may : List Int) : (Int × (List (List Int))) → St
  | (set, out) => ⟨[(5, .ref 383 1 0 must.length), (6, .ref 447 1 0 may.length), (10, .ref 703 1 0 out.length), (11, .lit (.int .i64 set))], [(383, 1, .tree (rowsOf eI must)), (447, 1, .row true (rowsOf eI may)), (703, 1, .row true (rowsOf (eLO eI) out))], 2⟩
attribute [go_sem] m_impl_endings_L2_St
def hi62 : Hint where
  acts := fun _ => []
  draws := fun
    | 7 => ⟨.cons ⟨0, false, []⟩ (.cons ⟨1, false, []⟩ (.cons ⟨2, false, []⟩ (.cons ⟨3, false, []⟩ (.cons ⟨4, false, []⟩ (.cons ⟨5, false, []⟩ (.cons ⟨6, false, []⟩ (.cons ⟨7, false, []⟩ (.cons ⟨8, false, []⟩ (.cons ⟨9, false, []⟩ (.cons ⟨10, false, []⟩ (.cons ⟨11, false, []⟩ (.cons ⟨12, false, []⟩ (.cons ⟨13, false, []⟩ .nil))))))))))))), [[], [0], [], [2], [], [4], [], [4, 5, 6], [4, 5, 6, 7], [4, 5, 6, 7, 8], [2, 3, 4, 5, 6, 7, 8, 9], [2, 3, 4, 5, 6, 7, 8, 9, 10], [0, 1, 2, 3, 4, 5, 6, 7, 8, 9, 10, 11], [0, 1, 2, 3, 4, 5, 6, 7, 8, 9, 10, 11, 12]], [0, 1, 2, 3, 4, 5, 6, 7, 8, 9, 10, 11, 12, 13]⟩
    | _ => ⟨.nil, [], []⟩
theorem hi62a (i : Nat) : hi62.acts i = [] := rfl
theorem hi62v (i : Nat) : hi62.views i = none := rfl
attribute [go_sem] hi62a hi62v Go.Proofs.Tryz.ntmps62 Go.Proofs.Tryz.results62
@[go_sem] theorem hi62d7 : (hi62.draws 7).order = .cons ⟨0, false, []⟩ (.cons ⟨1, false, []⟩ (.cons ⟨2, false, []⟩ (.cons ⟨3, false, []⟩ (.cons ⟨4, false, []⟩ (.cons ⟨5, false, []⟩ (.cons ⟨6, false, []⟩ (.cons ⟨7, false, []⟩ (.cons ⟨8, false, []⟩ (.cons ⟨9, false, []⟩ (.cons ⟨10, false, []⟩ (.cons ⟨11, false, []⟩ (.cons ⟨12, false, []⟩ (.cons ⟨13, false, []⟩ .nil))))))))))))) := rfl
theorem c_impl_endings {s : GShow} {v1 : GState} {res : List (List Int)} (h : m_impl_endings s v1 = some res) : CallOk Go.Proofs.Tryz.prog 62 [.agg [.sl (rowsOf GNode.encS s.nodes), .sl (rowsOf GTie.enc s.ties), .lit (.int .i64 s.horizon)], .agg [.lit (.int .i64 v1.now), .sl (rowsOf eI v1.times), .sl (rowsOf eI v1.values)]] [] (.ref 20000 1 0 res.length) [(20000, 1, .row true (rowsOf (eLO eI) res))] := by
  refine callOk_of (ra := [.home 4]) (md := mdT) hT (hi := hi62) Go.Proofs.Tryz.func62 rfl rfl (by decide +kernel) (by simp) ?_
  unfold m_impl_endings at h
  rcases ite_some h with ⟨h1, h⟩ | ⟨h1, h⟩
  · cases h
    simp -implicitDefEqProofs -dsimp only [go_sem, (eq_true h1)]
  · obtain ⟨r1001, g2, h⟩ := obnd_some h
    simp -implicitDefEqProofs -dsimp only [go_sem, (eq_false h1)]
    refine callW_of (c_impl_active g2) ?_
    obtain ⟨q1009, l3, h⟩ := obnd_some h
    simp -implicitDefEqProofs -dsimp only [go_sem, (eq_false h1)]
    refine loopW_loopO (m1 := .mk) (m2 := .mk) [.home 5, .home 6, .nf [2, 3, 5, 6, 20, 21, 22] [128, 192, 383, 447, 1280]] (m_impl_endings_L1_St ((r1001.length : Nat) : Int) s.nodes s.ties s.horizon v1.now v1.times v1.values r1001) l3 ?_ ?_
    · simp -implicitDefEqProofs -dsimp only [go_sem, (eq_false h1)]
    · intro nb4 sb4 bb4 b4 gb4
      obtain ⟨v22_1, must_1, may_1⟩ := sb4
      unfold m_impl_endings_L1 at b4
      try dsimp only at b4
      rcases ite_some b4 with ⟨h5, b4⟩ | ⟨h5, b4⟩
      · obtain ⟨x1002, g6, b4⟩ := obnd_some b4
        obtain ⟨h7, h8, h9⟩ := getI_some g6
        obtain ⟨x1003, g10, b4⟩ := obnd_some b4
        obtain ⟨h11, h12, h13⟩ := getI_some g10
        obtain ⟨x1004, g14, b4⟩ := obnd_some b4
        obtain ⟨h15, h16, h17⟩ := getI_some g14
        rcases ite_some b4 with ⟨h18, b4⟩ | ⟨h18, b4⟩
        · obtain ⟨h19, b4⟩ := chk_some b4
          obtain ⟨h20, b4⟩ := chk_some b4
          cases b4
          simp -implicitDefEqProofs -dsimp only [go_sem, (eq_false h1), (eq_true h5), h7, h8, h9, h11, h12, h13, h15, h16, h17, (eq_true h18), (eq_true h19), (eq_true h20)]
          refine next_of gb4 ?_
          simp -implicitDefEqProofs -dsimp only [go_sem, (eq_false h1), (eq_true h5), h7, h8, h9, h11, h12, h13, h15, h16, h17, (eq_true h18), (eq_true h19), (eq_true h20)]
        · rcases ite_some b4 with ⟨h21, b4⟩ | ⟨h21, b4⟩
          · obtain ⟨h22, b4⟩ := chk_some b4
            obtain ⟨h23, b4⟩ := chk_some b4
            cases b4
            simp -implicitDefEqProofs -dsimp only [go_sem, (eq_false h1), (eq_true h5), h7, h8, h9, h11, h12, h13, h15, h16, h17, (eq_false h18), (eq_true h21), (eq_true h22), (eq_true h23)]
            refine next_of gb4 ?_
            simp -implicitDefEqProofs -dsimp only [go_sem, (eq_false h1), (eq_true h5), h7, h8, h9, h11, h12, h13, h15, h16, h17, (eq_false h18), (eq_true h21), (eq_true h22), (eq_true h23)]
          · cases b4
            simp -implicitDefEqProofs -dsimp only [go_sem, (eq_false h1), (eq_true h5), h7, h8, h9, h11, h12, h13, h15, h16, h17, (eq_false h18), (eq_false h21)]
            refine next_of gb4 ?_
            simp -implicitDefEqProofs -dsimp only [go_sem, (eq_false h1), (eq_true h5), h7, h8, h9, h11, h12, h13, h15, h16, h17, (eq_false h18), (eq_false h21)]
      · cases b4
        have e24 := (done_of gb4).symm
        subst e24
        try dsimp only at h
        obtain ⟨q1008, l25, h⟩ := obnd_some h
        simp -implicitDefEqProofs -dsimp only [go_sem, (eq_false h1), (eq_false h5)]
        refine loopW_loopO (m1 := .mk) (m2 := .mk) [.home 10, .freeze [383], .nf [5, 6, 10, 11] [383, 447, 703]] (m_impl_endings_L2_St must_1 may_1) l25 ?_ ?_
        · simp -implicitDefEqProofs -dsimp only [go_sem, (eq_false h1), (eq_false h5)]
        · intro nb26 sb26 bb26 b26 gb26
          obtain ⟨set_2, out_2⟩ := sb26
          unfold m_impl_endings_L2 at b26
          try dsimp only at b26
          obtain ⟨h27, b26⟩ := chk_some b26
          rcases ite_some b26 with ⟨h28, b26⟩ | ⟨h28, b26⟩
          · obtain ⟨r1005, g29, b26⟩ := obnd_some b26
            simp -implicitDefEqProofs -dsimp only [go_sem, (eq_false h1), (eq_false h5), (eq_false h27), (eq_true h28)]
            refine callW_of (c_impl_members g29) ?_
            obtain ⟨r1006, g30, b26⟩ := obnd_some b26
            simp -implicitDefEqProofs -dsimp only [go_sem, (eq_false h1), (eq_false h5), (eq_false h27), (eq_true h28)]
            refine callW_of (c_slices_Concat_int g30) ?_
            obtain ⟨r1007, g31, b26⟩ := obnd_some b26
            simp -implicitDefEqProofs -dsimp only [go_sem, (eq_false h1), (eq_false h5), (eq_false h27), (eq_true h28)]
            refine callW_of (c_slices_Sort_int g31) ?_
            obtain ⟨h32, b26⟩ := chk_some b26
            obtain ⟨h33, b26⟩ := chk_some b26
            obtain ⟨h34, b26⟩ := chk_some b26
            cases b26
            simp -implicitDefEqProofs -dsimp only [go_sem, (eq_false h1), (eq_false h5), (eq_false h27), (eq_true h28), h32.symm, (eq_true h33), (eq_true h34)]
            refine next_of gb26 ?_
            simp -implicitDefEqProofs -dsimp only [go_sem, (eq_false h1), (eq_false h5), (eq_false h27), (eq_true h28), h32.symm, (eq_true h33), (eq_true h34)]
          · cases b26
            have e35 := (done_of gb26).symm
            subst e35
            try dsimp only at h
            cases h
            simp -implicitDefEqProofs -dsimp only [go_sem, (eq_false h1), (eq_false h5), (eq_false h27), (eq_false h28)]
/- 123 slices.IndexFunc[[][]int,[]int] -/
def m_slices_IndexFunc_intS_L1_St (v0 : List (List Int)) (f_v1 : Nat) (k_v1 : List AV) (v7 : Int) (v8 : Int) : St := ⟨[(0, .sl (rowsOf (eLS eI) v0)), (1, .fn f_v1 k_v1), (7, .lit (.int .i64 v7)), (8, .lit (.int .i64 v8))], [], 2⟩
attribute [go_sem] m_slices_IndexFunc_intS_L1_St
def hi123 : Hint where
  acts := fun _ => []
  draws := fun
    | _ => ⟨.nil, [], []⟩
theorem hi123a (i : Nat) : hi123.acts i = [] := rfl
theorem hi123v (i : Nat) : hi123.views i = none := rfl
attribute [go_sem] hi123a hi123v Go.Proofs.Tryz.ntmps123 Go.Proofs.Tryz.results123
theorem c_slices_IndexFunc_intS {v0 : List (List Int)} {v1 : (List Int) → Option Bool} {f_v1 : Nat} {k_v1 : List AV} (hp_v1 : ∀ y0 r, v1 y0 = some r → CallOk Go.Proofs.Tryz.prog f_v1 ([.sl (rowsOf eI y0)] ++ k_v1) [] (.lit (.bool r)) []) (hc_v1 : KC k_v1) (hm_v1 : mdT f_v1 = ⟨[], false⟩) {res : Int} (h : m_slices_IndexFunc_intS v0 v1 = some res) : CallOk Go.Proofs.Tryz.prog 123 [.sl (rowsOf (eLS eI) v0), .fn f_v1 k_v1] [] (.lit (.int .i64 res)) [] := by
  refine callOk_of (ra := []) (md := mdT) hT (hi := hi123) Go.Proofs.Tryz.func123 rfl rfl (by decide +kernel) (by simp) ?_
  unfold m_slices_IndexFunc_intS at h
  obtain ⟨q1003, l1, h⟩ := obnd_some h
  simp -implicitDefEqProofs -dsimp only [go_sem, hc_v1.1, hc_v1.2, hm_v1]
  refine loopW_loopO (m1 := .mk) (m2 := .mk) [.nf [0, 1, 7, 8] []] (m_slices_IndexFunc_intS_L1_St v0 f_v1 k_v1 ((v0.length : Nat) : Int)) l1 ?_ ?_
  · simp -implicitDefEqProofs -dsimp only [go_sem, hc_v1.1, hc_v1.2, hm_v1]
  · intro nb2 sb2 bb2 b2 gb2
    obtain ⟨v8_1, eb2⟩ : ∃ v, v = sb2 := ⟨_, rfl⟩; subst eb2
    unfold m_slices_IndexFunc_intS_L1 at b2
    try dsimp only at b2
    rcases ite_some b2 with ⟨h3, b2⟩ | ⟨h3, b2⟩
    · obtain ⟨x1001, g4, b2⟩ := obnd_some b2
      obtain ⟨h5, h6, h7⟩ := getI_some g4
      obtain ⟨r1002, g8, b2⟩ := obnd_some b2
      simp -implicitDefEqProofs -dsimp only [go_sem, hc_v1.1, hc_v1.2, hm_v1, (eq_true h3), h5, h6, h7]
      refine callW_of (hp_v1 _ _ g8) ?_
      rcases ite_some b2 with ⟨h9, b2⟩ | ⟨h9, b2⟩
      · cases b2
        have e10 := (done_of gb2).symm
        subst e10
        try dsimp only at h
        cases h
        simp -implicitDefEqProofs -dsimp only [go_sem, hc_v1.1, hc_v1.2, hm_v1, (eq_true h3), h5, h6, h7, (eq_true h9), (condZ_t h9)]
      · cases b2
        simp -implicitDefEqProofs -dsimp only [go_sem, hc_v1.1, hc_v1.2, hm_v1, (eq_true h3), h5, h6, h7, (eq_false h9), (condZ_f h9)]
        refine next_of gb2 ?_
        simp -implicitDefEqProofs -dsimp only [go_sem, hc_v1.1, hc_v1.2, hm_v1, (eq_true h3), h5, h6, h7, (eq_false h9), (condZ_f h9)]
    · cases b2
      have e11 := (done_of gb2).symm
      subst e11
      try dsimp only at h
      cases h
      simp -implicitDefEqProofs -dsimp only [go_sem, hc_v1.1, hc_v1.2, hm_v1, (eq_false h3)]
/- 94 slices.ContainsFunc[[][]int,[]int] -/
def hi94 : Hint where
  acts := fun _ => []
  draws := fun
    | _ => ⟨.nil, [], []⟩
theorem hi94a (i : Nat) : hi94.acts i = [] := rfl
theorem hi94v (i : Nat) : hi94.views i = none := rfl
attribute [go_sem] hi94a hi94v Go.Proofs.Tryz.ntmps94 Go.Proofs.Tryz.results94
theorem c_slices_ContainsFunc_intS {v0 : List (List Int)} {v1 : (List Int) → Option Bool} {f_v1 : Nat} {k_v1 : List AV} (hp_v1 : ∀ y0 r, v1 y0 = some r → CallOk Go.Proofs.Tryz.prog f_v1 ([.sl (rowsOf eI y0)] ++ k_v1) [] (.lit (.bool r)) []) (hc_v1 : KC k_v1) (hm_v1 : mdT f_v1 = ⟨[], false⟩) {res : Bool} (h : m_slices_ContainsFunc_intS v0 v1 = some res) : CallOk Go.Proofs.Tryz.prog 94 [.sl (rowsOf (eLS eI) v0), .fn f_v1 k_v1] [] (.lit (.bool res)) [] := by
  refine callOk_of (ra := []) (md := mdT) hT (hi := hi94) Go.Proofs.Tryz.func94 rfl rfl (by decide +kernel) (by simp) ?_
  unfold m_slices_ContainsFunc_intS at h
  obtain ⟨r1001, g1, h⟩ := obnd_some h
  simp -implicitDefEqProofs -dsimp only [go_sem, hc_v1.1, hc_v1.2, hm_v1]
  refine callW_of (c_slices_IndexFunc_intS hp_v1 hc_v1 hm_v1 g1) ?_
  cases h
  simp -implicitDefEqProofs -dsimp only [go_sem, hc_v1.1, hc_v1.2, hm_v1]
/- 95 loop.example/g00827/impl.has$1 -/
def hi95 : Hint where
  acts := fun _ => []
  draws := fun
    | _ => ⟨.nil, [], []⟩
theorem hi95a (i : Nat) : hi95.acts i = [] := rfl
theorem hi95v (i : Nat) : hi95.views i = none := rfl
attribute [go_sem] hi95a hi95v Go.Proofs.Tryz.ntmps95 Go.Proofs.Tryz.results95
theorem c_impl_has_c1 {y : List Int} {v1 : List Int} {res : Bool} (h : m_impl_has_c1 y v1 = some res) : CallOk Go.Proofs.Tryz.prog 95 [.sl (rowsOf eI y), .loc [.sl (rowsOf eI v1)]] [] (.lit (.bool res)) [] := by
  refine callOk_of (ra := []) (md := mdT) hT (hi := hi95) Go.Proofs.Tryz.func95 rfl rfl (by decide +kernel) (by simp) ?_
  unfold m_impl_has_c1 at h
  obtain ⟨r1001, g1, h⟩ := obnd_some h
  simp -implicitDefEqProofs -dsimp only [go_sem]
  refine callW_of (c_slices_Equal_int g1) ?_
  cases h
  simp -implicitDefEqProofs -dsimp only [go_sem]
/- 61 loop.example/g00827/impl.has -/
def hi61 : Hint where
  acts := fun _ => []
  draws := fun
    | _ => ⟨.nil, [], []⟩
theorem hi61a (i : Nat) : hi61.acts i = [] := rfl
theorem hi61v (i : Nat) : hi61.views i = none := rfl
attribute [go_sem] hi61a hi61v Go.Proofs.Tryz.ntmps61 Go.Proofs.Tryz.results61
theorem c_impl_has {list : List (List Int)} {v1 : List Int} {res : Bool} (h : m_impl_has list v1 = some res) : CallOk Go.Proofs.Tryz.prog 61 [.sl (rowsOf (eLS eI) list), .sl (rowsOf eI v1)] [] (.lit (.bool res)) [] := by
  refine callOk_of (ra := []) (md := mdT) hT (hi := hi61) Go.Proofs.Tryz.func61 rfl rfl (by decide +kernel) (by simp) ?_
  unfold m_impl_has at h
  obtain ⟨r1001, g1, h⟩ := obnd_some h
  simp -implicitDefEqProofs -dsimp only [go_sem]
  refine callW_of (c_slices_ContainsFunc_intS (by exact fun _ _ hr => c_impl_has_c1 hr) (by refine ⟨fun _ => ?_, fun _ => ?_⟩ <;> simp only [go_sem]) (by rfl) g1) ?_
  cases h
  simp -implicitDefEqProofs -dsimp only [go_sem]
/- 127 slices.Clone[[]int,int] -/
def hi127 : Hint where
  acts := fun _ => []
  draws := fun
    | _ => ⟨.nil, [], []⟩
theorem hi127a (i : Nat) : hi127.acts i = [] := rfl
theorem hi127v (i : Nat) : hi127.views i = none := rfl
attribute [go_sem] hi127a hi127v Go.Proofs.Tryz.ntmps127 Go.Proofs.Tryz.results127
theorem c_slices_Clone_int {v0 : List Int} {res : List Int} (h : m_slices_Clone_int v0 = some res) : CallOk Go.Proofs.Tryz.prog 127 [.sl (rowsOf eI v0)] [] (.ref 20000 1 0 res.length) [(20000, 1, .row true (rowsOf eI res))] := by
  refine callOk_of (ra := [.home 2]) (md := mdT) hT (hi := hi127) Go.Proofs.Tryz.func127 rfl rfl (by decide +kernel) (by simp) ?_
  unfold m_slices_Clone_int at h
  rcases nilQ_some h with ⟨h1, h3, h2⟩ | ⟨h1, h3⟩
  · cases h3
    simp -implicitDefEqProofs -dsimp only [go_sem, h1]
  · obtain ⟨h4, h3⟩ := chk_some h3
    obtain ⟨h5, h3⟩ := chk_some h3
    cases h3
    simp -implicitDefEqProofs -dsimp only [go_sem, evIsNil_ne h1, (eq_true h4), (eq_true h5)]
/- 100 loop.example/g00827/impl.copyState -/
def hi100 : Hint where
  acts := fun _ => []
  draws := fun
    | 1 => ⟨.cons ⟨0, true, []⟩ (.cons ⟨1, true, []⟩ (.cons ⟨2, false, []⟩ (.cons ⟨3, false, []⟩ (.cons ⟨5, true, []⟩ (.cons ⟨6, true, []⟩ (.cons ⟨4, false, [0, 1, 5, 6]⟩ (.cons ⟨7, false, [0, 1]⟩ (.cons ⟨8, false, []⟩ (.cons ⟨9, false, []⟩ .nil))))))))), [[], [0], [], [2], [2, 3], [], [5], [2, 3, 4, 5, 6], [0, 1, 2, 3, 4, 5, 6, 7], [0, 1, 2, 3, 4, 5, 6, 7, 8]], [0, 1, 2, 3, 4, 5, 6, 7, 8, 9]⟩
    | _ => ⟨.nil, [], []⟩
theorem hi100a (i : Nat) : hi100.acts i = [] := rfl
theorem hi100v (i : Nat) : hi100.views i = none := rfl
attribute [go_sem] hi100a hi100v Go.Proofs.Tryz.ntmps100 Go.Proofs.Tryz.results100
@[go_sem] theorem hi100d1 : (hi100.draws 1).order = .cons ⟨0, true, []⟩ (.cons ⟨1, true, []⟩ (.cons ⟨2, false, []⟩ (.cons ⟨3, false, []⟩ (.cons ⟨5, true, []⟩ (.cons ⟨6, true, []⟩ (.cons ⟨4, false, [0, 1, 5, 6]⟩ (.cons ⟨7, false, [0, 1]⟩ (.cons ⟨8, false, []⟩ (.cons ⟨9, false, []⟩ .nil))))))))) := rfl
theorem c_impl_copyState {v0 : GState} {res : GState} (h : m_impl_copyState v0 = some res) : CallOk Go.Proofs.Tryz.prog 100 [.agg [.lit (.int .i64 v0.now), .sl (rowsOf eI v0.times), .sl (rowsOf eI v0.values)]] [] (.agg [.lit (.int .i64 res.now), .ref 20000 1 0 res.times.length, .ref 20001 1 0 res.values.length]) [(20000, 1, .row true (rowsOf eI res.times)), (20001, 1, .row true (rowsOf eI res.values))] := by
  refine callOk_of (ra := [.homeCell 128 1, .homeCell 128 2]) (md := mdT) hT (hi := hi100) Go.Proofs.Tryz.func100 rfl rfl (by decide +kernel) (by simp) ?_
  unfold m_impl_copyState at h
  obtain ⟨r1001, g1, h⟩ := obnd_some h
  simp -implicitDefEqProofs -dsimp only [go_sem]
  refine callW_of (c_slices_Clone_int g1) ?_
  obtain ⟨r1002, g2, h⟩ := obnd_some h
  simp -implicitDefEqProofs -dsimp only [go_sem]
  refine callW_of (c_slices_Clone_int g2) ?_
  cases h
  simp -implicitDefEqProofs -dsimp only [go_sem]
/- 64 loop.example/g00827/impl.ended -/
def m_impl_ended_L1_St (v12 : List Int) (v13 : Int) (s_0 : List GNode) (s_1 : List GTie) (s_2 : Int) (v4_0 : Int) (v4_1 : List Int) (v4_2 : List Int) (out_0 : Int) (h705 : List Int) : (Int × (List Int)) → St
  | (v14, h704) => ⟨[(3, .ptr 192 1 0 0), (4, .ptr 256 1 0 0), (6, .ptr 384 1 0 0), (7, .ptr 448 1 0 0), (12, .sl (rowsOf eI v12)), (13, .lit (.int .i64 v13)), (14, .lit (.int .i64 v14))], [(192, 1, .var [.sl (rowsOf GNode.encS s_0), .sl (rowsOf GTie.enc s_1), .lit (.int .i64 s_2)]), (256, 1, .var [.lit (.int .i64 v4_0), .sl (rowsOf eI v4_1), .sl (rowsOf eI v4_2)]), (384, 1, .var [.lit (.int .i64 0), .lit (.slice none 0 0), .lit (.slice none 0 0)]), (448, 1, .var [.lit (.int .i64 out_0), .ref 704 1 0 h704.length, .ref 705 1 0 h705.length]), (704, 1, .row true (rowsOf eI h704)), (705, 1, .row true (rowsOf eI h705))], 2⟩
attribute [go_sem] m_impl_ended_L1_St
def hi64 : Hint where
  acts := fun _ => []
  draws := fun
    | 5 => ⟨.cons ⟨0, false, []⟩ (.cons ⟨1, false, []⟩ (.cons ⟨2, false, []⟩ (.cons ⟨3, false, []⟩ (.cons ⟨4, false, []⟩ (.cons ⟨5, false, []⟩ (.cons ⟨6, false, []⟩ (.cons ⟨7, false, []⟩ (.cons ⟨8, false, []⟩ (.cons ⟨9, false, []⟩ (.cons ⟨10, false, []⟩ (.cons ⟨11, false, []⟩ .nil))))))))))), [[], [0], [], [2], [], [2, 3, 4], [2, 3, 4, 5], [2, 3, 4, 5, 6], [], [8], [0, 1, 2, 3, 4, 5, 6, 7, 8, 9], [0, 1, 2, 3, 4, 5, 6, 7, 8, 9, 10]], [0, 1, 2, 3, 4, 5, 6, 7, 8, 9, 10, 11]⟩
    | _ => ⟨.nil, [], []⟩
theorem hi64a (i : Nat) : hi64.acts i = [] := rfl
theorem hi64v (i : Nat) : hi64.views i = none := rfl
attribute [go_sem] hi64a hi64v Go.Proofs.Tryz.ntmps64 Go.Proofs.Tryz.results64
@[go_sem] theorem hi64d5 : (hi64.draws 5).order = .cons ⟨0, false, []⟩ (.cons ⟨1, false, []⟩ (.cons ⟨2, false, []⟩ (.cons ⟨3, false, []⟩ (.cons ⟨4, false, []⟩ (.cons ⟨5, false, []⟩ (.cons ⟨6, false, []⟩ (.cons ⟨7, false, []⟩ (.cons ⟨8, false, []⟩ (.cons ⟨9, false, []⟩ (.cons ⟨10, false, []⟩ (.cons ⟨11, false, []⟩ .nil))))))))))) := rfl
theorem c_impl_ended {s : GShow} {v1 : GState} {ties : List Int} {res : GState} (h : m_impl_ended s v1 ties = some res) : CallOk Go.Proofs.Tryz.prog 64 [.agg [.sl (rowsOf GNode.encS s.nodes), .sl (rowsOf GTie.enc s.ties), .lit (.int .i64 s.horizon)], .agg [.lit (.int .i64 v1.now), .sl (rowsOf eI v1.times), .sl (rowsOf eI v1.values)], .sl (rowsOf eI ties)] [] (.agg [.lit (.int .i64 res.now), .ref 20000 1 0 res.times.length, .ref 20001 1 0 res.values.length]) [(20000, 1, .row true (rowsOf eI res.times)), (20001, 1, .row true (rowsOf eI res.values))] := by
  refine callOk_of (ra := [.homeCell 384 1, .homeCell 384 2]) (md := mdT) hT (hi := hi64) Go.Proofs.Tryz.func64 rfl rfl (by decide +kernel) (by simp) ?_
  unfold m_impl_ended at h
  obtain ⟨r1001, g1, h⟩ := obnd_some h
  simp -implicitDefEqProofs -dsimp only [go_sem]
  refine callW_of (c_impl_copyState g1) ?_
  obtain ⟨q1005, l2, h⟩ := obnd_some h
  simp -implicitDefEqProofs -dsimp only [go_sem]
  refine loopW_loopO (m1 := .mk) (m2 := .mk) [.nf [3, 4, 6, 7, 12, 13, 14] [192, 256, 384, 448, 704, 705]] (m_impl_ended_L1_St ties ((ties.length : Nat) : Int) s.nodes s.ties s.horizon v1.now v1.times v1.values r1001.now r1001.values) l2 ?_ ?_
  · simp -implicitDefEqProofs -dsimp only [go_sem]
  · intro nb3 sb3 bb3 b3 gb3
    obtain ⟨v14_1, h704_1⟩ := sb3
    unfold m_impl_ended_L1 at b3
    try dsimp only at b3
    rcases ite_some b3 with ⟨h4, b3⟩ | ⟨h4, b3⟩
    · obtain ⟨x1002, g5, b3⟩ := obnd_some b3
      obtain ⟨h6, h7, h8⟩ := getI_some g5
      obtain ⟨x1003, g9, b3⟩ := obnd_some b3
      obtain ⟨h10, h11, h12⟩ := getI_some g9
      obtain ⟨x1004, g13, b3⟩ := obnd_some b3
      obtain ⟨h14, h15, h16⟩ := getI_some g13
      cases b3
      simp -implicitDefEqProofs -dsimp only [go_sem, (eq_true h4), h6, h7, h8, h10, h11, h12, h14, h15, h16]
      refine next_of gb3 ?_
      simp -implicitDefEqProofs -dsimp only [go_sem, (eq_true h4), h6, h7, h8, h10, h11, h12, h14, h15, h16]
    · cases b3
      have e17 := (done_of gb3).symm
      subst e17
      try dsimp only at h
      cases h
      simp -implicitDefEqProofs -dsimp only [go_sem, (eq_false h4)]
/- 160 loop.example/g00827/impl.freeTie$1 -/
def hi160 : Hint where
  acts := fun _ => []
  draws := fun
    | _ => ⟨.nil, [], []⟩
theorem hi160a (i : Nat) : hi160.acts i = [] := rfl
theorem hi160v (i : Nat) : hi160.views i = none := rfl
attribute [go_sem] hi160a hi160v Go.Proofs.Tryz.ntmps160 Go.Proofs.Tryz.results160
theorem c_impl_freeTie_c1 {t : GTie} {node : Int} {res : Bool} (h : m_impl_freeTie_c1 t node = some res) : CallOk Go.Proofs.Tryz.prog 160 [.agg [.lit (.int .i64 t.from_), .lit (.int .i64 t.to), .lit (.int .i64 t.low), .lit (.int .i64 t.high), .lit (.bool t.free)], .loc [.lit (.int .i64 node)]] [] (.lit (.bool res)) [] := by
  refine callOk_of (ra := []) (md := mdT) hT (hi := hi160) Go.Proofs.Tryz.func160 rfl rfl (by decide +kernel) (by simp) ?_
  unfold m_impl_freeTie_c1 at h
  rcases ite_some h with ⟨h1, h⟩ | ⟨h1, h⟩
  · cases h
    simp -implicitDefEqProofs -dsimp only [go_sem, (eq_true h1), (condZ_t h1)]
  · cases h
    simp -implicitDefEqProofs -dsimp only [go_sem, (eq_false h1), (condZ_f h1)]
/- 150 loop.example/g00827/impl.freeTie -/
def hi150 : Hint where
  acts := fun _ => []
  draws := fun
    | _ => ⟨.nil, [], []⟩
theorem hi150a (i : Nat) : hi150.acts i = [] := rfl
theorem hi150v (i : Nat) : hi150.views i = none := rfl
attribute [go_sem] hi150a hi150v Go.Proofs.Tryz.ntmps150 Go.Proofs.Tryz.results150
theorem c_impl_freeTie {s : GShow} {node : Int} {res : Int} (h : m_impl_freeTie s node = some res) : CallOk Go.Proofs.Tryz.prog 150 [.agg [.sl (rowsOf GNode.encS s.nodes), .sl (rowsOf GTie.enc s.ties), .lit (.int .i64 s.horizon)], .lit (.int .i64 node)] [] (.lit (.int .i64 res)) [] := by
  refine callOk_of (ra := []) (md := mdT) hT (hi := hi150) Go.Proofs.Tryz.func150 rfl rfl (by decide +kernel) (by simp) ?_
  unfold m_impl_freeTie at h
  obtain ⟨r1001, g1, h⟩ := obnd_some h
  simp -implicitDefEqProofs -dsimp only [go_sem]
  refine callW_of (c_slices_IndexFunc_Tie (by exact fun _ _ hr => c_impl_freeTie_c1 hr) (by refine ⟨fun _ => ?_, fun _ => ?_⟩ <;> simp only [go_sem]) (by rfl) g1) ?_
  cases h
  simp -implicitDefEqProofs -dsimp only [go_sem]
/- 129 loop.example/g00827/impl.chosen -/
def m_impl_chosen_L1_St (s_0 : List GNode) (s_1 : List GTie) (s_2 : Int) : (Int × (List Int)) → St
  | (i, out) => ⟨[(1, .ptr 64 1 0 0), (3, .ref 255 1 0 out.length), (4, .lit (.int .i64 i))], [(64, 1, .var [.sl (rowsOf GNode.encS s_0), .sl (rowsOf GTie.enc s_1), .lit (.int .i64 s_2)]), (255, 1, .row true (rowsOf eI out))], 2⟩
attribute [go_sem] m_impl_chosen_L1_St
def hi129 : Hint where
  acts := fun _ => []
  draws := fun
    | _ => ⟨.nil, [], []⟩
theorem hi129a (i : Nat) : hi129.acts i = [] := rfl
theorem hi129v (i : Nat) : hi129.views i = none := rfl
attribute [go_sem] hi129a hi129v Go.Proofs.Tryz.ntmps129 Go.Proofs.Tryz.results129
theorem c_impl_chosen {s : GShow} {res : List Int} (h : m_impl_chosen s = some res) : CallOk Go.Proofs.Tryz.prog 129 [.agg [.sl (rowsOf GNode.encS s.nodes), .sl (rowsOf GTie.enc s.ties), .lit (.int .i64 s.horizon)]] [] (.ref 20000 1 0 res.length) [(20000, 1, .row true (rowsOf eI res))] := by
  refine callOk_of (ra := [.home 2]) (md := mdT) hT (hi := hi129) Go.Proofs.Tryz.func129 rfl rfl (by decide +kernel) (by simp) ?_
  unfold m_impl_chosen at h
  obtain ⟨q1002, l1, h⟩ := obnd_some h
  simp -implicitDefEqProofs -dsimp only [go_sem]
  refine loopW_loopO (m1 := .mk) (m2 := .mk) [.home 3, .nf [1, 3, 4] [64, 255]] (m_impl_chosen_L1_St s.nodes s.ties s.horizon) l1 ?_ ?_
  · simp -implicitDefEqProofs -dsimp only [go_sem]
  · intro nb2 sb2 bb2 b2 gb2
    obtain ⟨i_1, out_1⟩ := sb2
    unfold m_impl_chosen_L1 at b2
    try dsimp only at b2
    rcases ite_some b2 with ⟨h3, b2⟩ | ⟨h3, b2⟩
    · obtain ⟨r1001, g4, b2⟩ := obnd_some b2
      simp -implicitDefEqProofs -dsimp only [go_sem, (eq_true h3)]
      refine callW_of (c_impl_freeTie g4) ?_
      rcases ite_some b2 with ⟨h5, b2⟩ | ⟨h5, b2⟩
      · obtain ⟨h6, b2⟩ := chk_some b2
        obtain ⟨h7, b2⟩ := chk_some b2
        cases b2
        simp -implicitDefEqProofs -dsimp only [go_sem, (eq_true h3), (eq_true h5), (eq_true h6), (eq_true h7)]
        refine next_of gb2 ?_
        simp -implicitDefEqProofs -dsimp only [go_sem, (eq_true h3), (eq_true h5), (eq_true h6), (eq_true h7)]
      · cases b2
        simp -implicitDefEqProofs -dsimp only [go_sem, (eq_true h3), (eq_false h5)]
        refine next_of gb2 ?_
        simp -implicitDefEqProofs -dsimp only [go_sem, (eq_true h3), (eq_false h5)]
    · cases b2
      have e8 := (done_of gb2).symm
      subst e8
      try dsimp only at h
      cases h
      simp -implicitDefEqProofs -dsimp only [go_sem, (eq_false h3)]
/- 128 slices.DeleteFunc[[]int,int] -/
def m_slices_DeleteFunc_int_L1_St (zb0 : Bool) (f_v1 : Nat) (k_v1 : List AV) : (Int × Int × (List Int)) → St
  | (v5, v6, v0) => ⟨[(0, .ref 10000 0 0 v0.length), (1, .fn f_v1 k_v1), (5, .lit (.int .i64 v5)), (6, .lit (.int .i64 v6))], [(10000, 0, .row zb0 (rowsOf eI v0))], 2⟩
attribute [go_sem] m_slices_DeleteFunc_int_L1_St
def hi128 : Hint where
  acts := fun _ => []
  draws := fun
    | _ => ⟨.nil, [], []⟩
theorem hi128a (i : Nat) : hi128.acts i = [] := rfl
theorem hi128v (i : Nat) : hi128.views i = none := rfl
attribute [go_sem] hi128a hi128v Go.Proofs.Tryz.ntmps128 Go.Proofs.Tryz.results128
theorem c_slices_DeleteFunc_int {v0 : List Int} {v1 : Int → Option Bool} {zb0 : Bool} {f_v1 : Nat} {k_v1 : List AV} (hp_v1 : ∀ y0 r, v1 y0 = some r → CallOk Go.Proofs.Tryz.prog f_v1 ([.lit (.int .i64 y0)] ++ k_v1) [] (.lit (.bool r)) []) (hc_v1 : KC k_v1) (hm_v1 : mdT f_v1 = ⟨[], false⟩) {res : List Int} (h : m_slices_DeleteFunc_int v0 v1 = some res) : CallOk Go.Proofs.Tryz.prog 128 [.ref 10000 0 0 v0.length, .fn f_v1 k_v1] [(10000, 0, .row zb0 (rowsOf eI v0))] (.ref 10000 0 0 res.length) [(10000, 0, .row false (rowsOf eI res))] := by
  refine callOk_of (ra := [.home 4, .trim 4]) (md := mdT) hT (hi := hi128) Go.Proofs.Tryz.func128 rfl rfl (by decide +kernel) (by simp) ?_
  unfold m_slices_DeleteFunc_int at h
  obtain ⟨r1001, g1, h⟩ := obnd_some h
  simp -implicitDefEqProofs -dsimp only [go_sem, hc_v1.1, hc_v1.2, hm_v1]
  refine callW_of (c_slices_IndexFunc_int hp_v1 hc_v1 hm_v1 g1) ?_
  rcases ite_some h with ⟨h2, h⟩ | ⟨h2, h⟩
  · cases h
    simp -implicitDefEqProofs -dsimp only [go_sem, hc_v1.1, hc_v1.2, hm_v1, (eq_true h2)]
  · obtain ⟨q1005, l3, h⟩ := obnd_some h
    simp -implicitDefEqProofs -dsimp only [go_sem, hc_v1.1, hc_v1.2, hm_v1, (eq_false h2)]
    refine loopW_loopO (m1 := .mk) (m2 := .mk) [.nf [0, 1, 5, 6] [10000]] (m_slices_DeleteFunc_int_L1_St zb0 f_v1 k_v1) l3 ?_ ?_
    · simp -implicitDefEqProofs -dsimp only [go_sem, hc_v1.1, hc_v1.2, hm_v1, (eq_false h2)]
    · intro nb4 sb4 bb4 b4 gb4
      obtain ⟨v5_1, v6_1, v0_1⟩ := sb4
      unfold m_slices_DeleteFunc_int_L1 at b4
      try dsimp only at b4
      rcases ite_some b4 with ⟨h5, b4⟩ | ⟨h5, b4⟩
      · obtain ⟨x1002, g6, b4⟩ := obnd_some b4
        obtain ⟨h7, h8, h9⟩ := getI_some g6
        obtain ⟨r1003, g10, b4⟩ := obnd_some b4
        simp -implicitDefEqProofs -dsimp only [go_sem, hc_v1.1, hc_v1.2, hm_v1, (eq_false h2), (eq_true h5), h7, h8, h9]
        refine callW_of (hp_v1 _ _ g10) ?_
        rcases ite_some b4 with ⟨h11, b4⟩ | ⟨h11, b4⟩
        · cases b4
          simp -implicitDefEqProofs -dsimp only [go_sem, hc_v1.1, hc_v1.2, hm_v1, (eq_false h2), (eq_true h5), h7, h8, h9, (eq_true h11), (condZ_t h11)]
          refine next_of gb4 ?_
          simp -implicitDefEqProofs -dsimp only [go_sem, hc_v1.1, hc_v1.2, hm_v1, (eq_false h2), (eq_true h5), h7, h8, h9, (eq_true h11), (condZ_t h11)]
        · obtain ⟨x1004, g12, b4⟩ := obnd_some b4
          obtain ⟨h13, h14, h15⟩ := getI_some g12
          cases b4
          simp -implicitDefEqProofs -dsimp only [go_sem, hc_v1.1, hc_v1.2, hm_v1, (eq_false h2), (eq_true h5), h7, h8, h9, (eq_false h11), (condZ_f h11), h13, h14, h15]
          refine next_of gb4 ?_
          simp -implicitDefEqProofs -dsimp only [go_sem, hc_v1.1, hc_v1.2, hm_v1, (eq_false h2), (eq_true h5), h7, h8, h9, (eq_false h11), (condZ_f h11), h13, h14, h15]
      · cases b4
        have e16 := (done_of gb4).symm
        subst e16
        try dsimp only at h
        obtain ⟨h17, h⟩ := chk_some h
        obtain ⟨h18, h⟩ := chk_some h
        obtain ⟨h19, h⟩ := chk_some h
        cases h
        simp -implicitDefEqProofs -dsimp only [go_sem, hc_v1.1, hc_v1.2, hm_v1, (eq_false h2), (eq_false h5), (eq_true h17), (eq_true h18), (eq_true h19)]
/- 161 loop.example/g00827/impl.holds -/
def hi161 : Hint where
  acts := fun _ => []
  draws := fun
    | _ => ⟨.nil, [], []⟩
theorem hi161a (i : Nat) : hi161.acts i = [] := rfl
theorem hi161v (i : Nat) : hi161.views i = none := rfl
attribute [go_sem] hi161a hi161v Go.Proofs.Tryz.ntmps161 Go.Proofs.Tryz.results161
theorem c_impl_holds {l : Int} {v : List Int} {res : Int} (h : m_impl_holds l v = some res) : CallOk Go.Proofs.Tryz.prog 161 [.lit (.int .i64 l), .sl (rowsOf eI v)] [] (.lit (.int .i64 res)) [] := by
  refine callOk_of (ra := []) (md := mdT) hT (hi := hi161) Go.Proofs.Tryz.func161 rfl rfl (by decide +kernel) (by simp) ?_
  unfold m_impl_holds at h
  obtain ⟨r1001, g1, h⟩ := obnd_some h
  simp -implicitDefEqProofs -dsimp only [go_sem]
  refine callW_of (c_impl_propOf g1) ?_
  obtain ⟨x1002, g2, h⟩ := obnd_some h
  obtain ⟨h3, h4, h5⟩ := getI_some g2
  rcases ite_some h with ⟨h6, h⟩ | ⟨h6, h⟩
  · cases h
    simp -implicitDefEqProofs -dsimp only [go_sem, h3, h4, h5, (eq_true h6)]
  · cases h
    simp -implicitDefEqProofs -dsimp only [go_sem, h3, h4, h5, (eq_false h6)]
/- 151 loop.example/g00827/impl.LabelState -/
def m_impl_LabelState_L1_St (v : List Int) (v16 : List Int) (v17 : Int) : (Int × Int) → St
  | (out, v18) => ⟨[(1, .sl (rowsOf eI v)), (5, .lit (.int .i64 out)), (16, .sl (rowsOf eI v16)), (17, .lit (.int .i64 v17)), (18, .lit (.int .i64 v18))], [], 2⟩
attribute [go_sem] m_impl_LabelState_L1_St
def hi151 : Hint where
  acts := fun _ => []
  draws := fun
    | _ => ⟨.nil, [], []⟩
theorem hi151a (i : Nat) : hi151.acts i = [] := rfl
theorem hi151v (i : Nat) : hi151.views i = none := rfl
attribute [go_sem] hi151a hi151v Go.Proofs.Tryz.ntmps151 Go.Proofs.Tryz.results151
theorem c_impl_LabelState {l : List Int} {v : List Int} {res : Int} (h : m_impl_LabelState l v = some res) : CallOk Go.Proofs.Tryz.prog 151 [.sl (rowsOf eI l), .sl (rowsOf eI v)] [] (.lit (.int .i64 res)) [] := by
  refine callOk_of (ra := []) (md := mdT) hT (hi := hi151) Go.Proofs.Tryz.func151 rfl rfl (by decide +kernel) (by simp) ?_
  unfold m_impl_LabelState at h
  obtain ⟨r1001, g1, h⟩ := obnd_some h
  simp -implicitDefEqProofs -dsimp only [go_sem]
  refine callW_of (c_impl_LabelOk g1) ?_
  rcases ite_some h with ⟨h2, h⟩ | ⟨h2, h⟩
  · obtain ⟨r1002, g3, h⟩ := obnd_some h
    simp -implicitDefEqProofs -dsimp only [go_sem, (eq_true h2), (condZ_t h2)]
    refine callW_of (c_impl_ValuesOk g3) ?_
    rcases ite_some h with ⟨h4, h⟩ | ⟨h4, h⟩
    · obtain ⟨q1005, l5, h⟩ := obnd_some h
      simp -implicitDefEqProofs -dsimp only [go_sem, (eq_true h2), (condZ_t h2), (eq_true h4), (condZ_t h4)]
      refine loopW_loopO (m1 := .mk) (m2 := .mk) [.nf [1, 5, 16, 17, 18] []] (m_impl_LabelState_L1_St v l ((l.length : Nat) : Int)) l5 ?_ ?_
      · simp -implicitDefEqProofs -dsimp only [go_sem, (eq_true h2), (condZ_t h2), (eq_true h4), (condZ_t h4)]
      · intro nb6 sb6 bb6 b6 gb6
        obtain ⟨out_1, v18_1⟩ := sb6
        unfold m_impl_LabelState_L1 at b6
        try dsimp only at b6
        rcases ite_some b6 with ⟨h7, b6⟩ | ⟨h7, b6⟩
        · obtain ⟨x1003, g8, b6⟩ := obnd_some b6
          obtain ⟨h9, h10, h11⟩ := getI_some g8
          obtain ⟨r1004, g12, b6⟩ := obnd_some b6
          simp -implicitDefEqProofs -dsimp only [go_sem, (eq_true h2), (condZ_t h2), (eq_true h4), (condZ_t h4), (eq_true h7), h9, h10, h11]
          refine callW_of (c_impl_holds g12) ?_
          cases b6
          simp -implicitDefEqProofs -dsimp only [go_sem, (eq_true h2), (condZ_t h2), (eq_true h4), (condZ_t h4), (eq_true h7), h9, h10, h11]
          refine next_of gb6 ?_
          simp -implicitDefEqProofs -dsimp only [go_sem, (eq_true h2), (condZ_t h2), (eq_true h4), (condZ_t h4), (eq_true h7), h9, h10, h11]
        · cases b6
          have e13 := (done_of gb6).symm
          subst e13
          try dsimp only at h
          cases h
          simp -implicitDefEqProofs -dsimp only [go_sem, (eq_true h2), (condZ_t h2), (eq_true h4), (condZ_t h4), (eq_false h7)]
    · cases h
      simp -implicitDefEqProofs -dsimp only [go_sem, (eq_true h2), (condZ_t h2), (eq_false h4), (condZ_f h4)]
  · cases h
    simp -implicitDefEqProofs -dsimp only [go_sem, (eq_false h2), (condZ_f h2)]
/- 131 loop.example/g00827/impl.nodeState -/
def hi131 : Hint where
  acts := fun _ => []
  draws := fun
    | 1 => ⟨.cons ⟨0, false, []⟩ (.cons ⟨1, false, []⟩ (.cons ⟨2, false, []⟩ (.cons ⟨3, false, []⟩ (.cons ⟨4, false, []⟩ (.cons ⟨5, false, []⟩ (.cons ⟨6, false, []⟩ (.cons ⟨7, false, []⟩ (.cons ⟨8, false, []⟩ (.cons ⟨9, false, []⟩ .nil))))))))), [[], [0], [], [0, 1, 2], [0, 1, 2, 3], [0, 1, 2, 3, 4], [], [6], [0, 1, 2, 3, 4, 5, 6, 7], [0, 1, 2, 3, 4, 5, 6, 7, 8]], [0, 1, 2, 3, 4, 5, 6, 7, 8, 9]⟩
    | _ => ⟨.nil, [], []⟩
theorem hi131a (i : Nat) : hi131.acts i = [] := rfl
theorem hi131v (i : Nat) : hi131.views i = none := rfl
attribute [go_sem] hi131a hi131v Go.Proofs.Tryz.ntmps131 Go.Proofs.Tryz.results131
@[go_sem] theorem hi131d1 : (hi131.draws 1).order = .cons ⟨0, false, []⟩ (.cons ⟨1, false, []⟩ (.cons ⟨2, false, []⟩ (.cons ⟨3, false, []⟩ (.cons ⟨4, false, []⟩ (.cons ⟨5, false, []⟩ (.cons ⟨6, false, []⟩ (.cons ⟨7, false, []⟩ (.cons ⟨8, false, []⟩ (.cons ⟨9, false, []⟩ .nil))))))))) := rfl
theorem c_impl_nodeState {s : GShow} {v1 : GState} {node : Int} {res : Int} (h : m_impl_nodeState s v1 node = some res) : CallOk Go.Proofs.Tryz.prog 131 [.agg [.sl (rowsOf GNode.encS s.nodes), .sl (rowsOf GTie.enc s.ties), .lit (.int .i64 s.horizon)], .agg [.lit (.int .i64 v1.now), .sl (rowsOf eI v1.times), .sl (rowsOf eI v1.values)], .lit (.int .i64 node)] [] (.lit (.int .i64 res)) [] := by
  refine callOk_of (ra := []) (md := mdT) hT (hi := hi131) Go.Proofs.Tryz.func131 rfl rfl (by decide +kernel) (by simp) ?_
  unfold m_impl_nodeState at h
  obtain ⟨x1001, g1, h⟩ := obnd_some h
  obtain ⟨h2, h3, h4⟩ := getI_some g1
  obtain ⟨r1002, g5, h⟩ := obnd_some h
  simp -implicitDefEqProofs -dsimp only [go_sem, h2, h3, h4]
  refine callW_of (c_impl_LabelState g5) ?_
  cases h
  simp -implicitDefEqProofs -dsimp only [go_sem, h2, h3, h4]
/- 130 loop.example/g00827/impl.enabled$1 -/
def hi130 : Hint where
  acts := fun _ => []
  draws := fun
    | _ => ⟨.nil, [], []⟩
theorem hi130a (i : Nat) : hi130.acts i = [] := rfl
theorem hi130v (i : Nat) : hi130.views i = none := rfl
attribute [go_sem] hi130a hi130v Go.Proofs.Tryz.ntmps130 Go.Proofs.Tryz.results130
theorem c_impl_enabled_c1 {i : Int} {v1 : GState} {s : GShow} {res : Bool} (h : m_impl_enabled_c1 i v1 s = some res) : CallOk Go.Proofs.Tryz.prog 130 [.lit (.int .i64 i), .loc [.lit (.int .i64 v1.now), .sl (rowsOf eI v1.times), .sl (rowsOf eI v1.values)], .loc [.sl (rowsOf GNode.encS s.nodes), .sl (rowsOf GTie.enc s.ties), .lit (.int .i64 s.horizon)]] [] (.lit (.bool res)) [] := by
  refine callOk_of (ra := []) (md := mdT) hT (hi := hi130) Go.Proofs.Tryz.func130 rfl rfl (by decide +kernel) (by simp) ?_
  unfold m_impl_enabled_c1 at h
  obtain ⟨x1001, g1, h⟩ := obnd_some h
  obtain ⟨h2, h3, h4⟩ := getI_some g1
  rcases ite_some h with ⟨h5, h⟩ | ⟨h5, h⟩
  · obtain ⟨r1002, g6, h⟩ := obnd_some h
    simp -implicitDefEqProofs -dsimp only [go_sem, h2, h3, h4, (eq_true h5)]
    refine callW_of (c_impl_nodeState g6) ?_
    cases h
    simp -implicitDefEqProofs -dsimp only [go_sem, h2, h3, h4, (eq_true h5)]
  · cases h
    simp -implicitDefEqProofs -dsimp only [go_sem, h2, h3, h4, (eq_false h5)]
/- 101 loop.example/g00827/impl.enabled -/
def hi101 : Hint where
  acts := fun _ => []
  draws := fun
    | _ => ⟨.nil, [], []⟩
theorem hi101a (i : Nat) : hi101.acts i = [] := rfl
theorem hi101v (i : Nat) : hi101.views i = none := rfl
attribute [go_sem] hi101a hi101v Go.Proofs.Tryz.ntmps101 Go.Proofs.Tryz.results101
theorem c_impl_enabled {s : GShow} {v1 : GState} {res : List Int} (h : m_impl_enabled s v1 = some res) : CallOk Go.Proofs.Tryz.prog 101 [.agg [.sl (rowsOf GNode.encS s.nodes), .sl (rowsOf GTie.enc s.ties), .lit (.int .i64 s.horizon)], .agg [.lit (.int .i64 v1.now), .sl (rowsOf eI v1.times), .sl (rowsOf eI v1.values)]] [] (.ref 20000 1 0 res.length) [(20000, 1, .row false (rowsOf eI res))] := by
  refine callOk_of (ra := [.home 4, .trim 4]) (md := mdT) hT (hi := hi101) Go.Proofs.Tryz.func101 rfl rfl (by decide +kernel) (by simp) ?_
  unfold m_impl_enabled at h
  obtain ⟨r1001, g1, h⟩ := obnd_some h
  simp -implicitDefEqProofs -dsimp only [go_sem]
  refine callW_of (c_impl_chosen g1) ?_
  obtain ⟨r1002, g2, h⟩ := obnd_some h
  simp -implicitDefEqProofs -dsimp only [go_sem]
  refine callW_of (c_slices_DeleteFunc_int (by exact fun _ _ hr => c_impl_enabled_c1 hr) (by refine ⟨fun _ => ?_, fun _ => ?_⟩ <;> simp only [go_sem]) (by rfl) g2) ?_
  cases h
  simp -implicitDefEqProofs -dsimp only [go_sem]
/- 65 loop.example/g00827/impl.decisions -/
def m_impl_decisions_L1_St (nodes : List Int) : (Int × (List (List Int))) → St
  | (set, out) => ⟨[(5, .ref 640 1 0 nodes.length), (6, .ref 447 1 0 out.length), (7, .lit (.int .i64 set))], [(640, 1, .row false (rowsOf eI nodes)), (447, 1, .row true (rowsOf (eLO eI) out))], 2⟩
attribute [go_sem] m_impl_decisions_L1_St
def hi65 : Hint where
  acts := fun _ => []
  draws := fun
    | _ => ⟨.nil, [], []⟩
theorem hi65a (i : Nat) : hi65.acts i = [] := rfl
theorem hi65v (i : Nat) : hi65.views i = none := rfl
attribute [go_sem] hi65a hi65v Go.Proofs.Tryz.ntmps65 Go.Proofs.Tryz.results65
theorem c_impl_decisions {s : GShow} {v1 : GState} {res : List (List Int)} (h : m_impl_decisions s v1 = some res) : CallOk Go.Proofs.Tryz.prog 65 [.agg [.sl (rowsOf GNode.encS s.nodes), .sl (rowsOf GTie.enc s.ties), .lit (.int .i64 s.horizon)], .agg [.lit (.int .i64 v1.now), .sl (rowsOf eI v1.times), .sl (rowsOf eI v1.values)]] [] (.ref 20000 1 0 res.length) [(20000, 1, .row true (rowsOf (eLO eI) res))] := by
  refine callOk_of (ra := [.home 4]) (md := mdT) hT (hi := hi65) Go.Proofs.Tryz.func65 rfl rfl (by decide +kernel) (by simp) ?_
  unfold m_impl_decisions at h
  obtain ⟨r1001, g1, h⟩ := obnd_some h
  simp -implicitDefEqProofs -dsimp only [go_sem]
  refine callW_of (c_impl_enabled g1) ?_
  obtain ⟨h2, h⟩ := chk_some h
  obtain ⟨q1003, l3, h⟩ := obnd_some h
  simp -implicitDefEqProofs -dsimp only [go_sem, (eq_false h2)]
  refine loopW_loopO (m1 := .mk) (m2 := .mk) [.home 6, .nf [5, 6, 7] [640, 447]] (m_impl_decisions_L1_St r1001) l3 ?_ ?_
  · simp -implicitDefEqProofs -dsimp only [go_sem, (eq_false h2)]
  · intro nb4 sb4 bb4 b4 gb4
    obtain ⟨set_1, out_1⟩ := sb4
    unfold m_impl_decisions_L1 at b4
    try dsimp only at b4
    rcases ite_some b4 with ⟨h5, b4⟩ | ⟨h5, b4⟩
    · obtain ⟨r1002, g6, b4⟩ := obnd_some b4
      simp -implicitDefEqProofs -dsimp only [go_sem, (eq_false h2), (eq_true h5)]
      refine callW_of (c_impl_members g6) ?_
      obtain ⟨h7, b4⟩ := chk_some b4
      obtain ⟨h8, b4⟩ := chk_some b4
      cases b4
      simp -implicitDefEqProofs -dsimp only [go_sem, (eq_false h2), (eq_true h5), (eq_true h7), (eq_true h8)]
      refine next_of gb4 ?_
      simp -implicitDefEqProofs -dsimp only [go_sem, (eq_false h2), (eq_true h5), (eq_true h7), (eq_true h8)]
    · cases b4
      have e9 := (done_of gb4).symm
      subst e9
      try dsimp only at h
      cases h
      simp -implicitDefEqProofs -dsimp only [go_sem, (eq_false h2), (eq_false h5)]
/- 66 loop.example/g00827/impl.decided -/
def m_impl_decided_L1_St (v14 : List Int) (v15 : Int) (s_0 : List GNode) (s_1 : List GTie) (s_2 : Int) (v4_0 : Int) (v4_1 : List Int) (v4_2 : List Int) (out_0 : Int) (h833 : List Int) : (Int × (List Int) × (List Int)) → St
  | (v16, props, h832) => ⟨[(3, .ptr 192 1 0 0), (4, .ptr 256 1 0 0), (6, .ptr 384 1 0 0), (8, .ptr 512 1 0 0), (9, .ref 639 1 0 props.length), (14, .sl (rowsOf eI v14)), (15, .lit (.int .i64 v15)), (16, .lit (.int .i64 v16))], [(192, 1, .var [.sl (rowsOf GNode.encS s_0), .sl (rowsOf GTie.enc s_1), .lit (.int .i64 s_2)]), (256, 1, .var [.lit (.int .i64 v4_0), .sl (rowsOf eI v4_1), .sl (rowsOf eI v4_2)]), (384, 1, .var [.lit (.int .i64 0), .lit (.slice none 0 0), .lit (.slice none 0 0)]), (512, 1, .var [.lit (.int .i64 out_0), .ref 832 1 0 h832.length, .ref 833 1 0 h833.length]), (832, 1, .row true (rowsOf eI h832)), (833, 1, .row true (rowsOf eI h833)), (639, 1, .row true (rowsOf eI props))], 2⟩
attribute [go_sem] m_impl_decided_L1_St
def hi66 : Hint where
  acts := fun _ => []
  draws := fun
    | _ => ⟨.nil, [], []⟩
theorem hi66a (i : Nat) : hi66.acts i = [] := rfl
theorem hi66v (i : Nat) : hi66.views i = none := rfl
attribute [go_sem] hi66a hi66v Go.Proofs.Tryz.ntmps66 Go.Proofs.Tryz.results66
theorem c_impl_decided {s : GShow} {v1 : GState} {nodes : List Int} {res : GState × (List Int)} (h : m_impl_decided s v1 nodes = some res) : CallOk Go.Proofs.Tryz.prog 66 [.agg [.sl (rowsOf GNode.encS s.nodes), .sl (rowsOf GTie.enc s.ties), .lit (.int .i64 s.horizon)], .agg [.lit (.int .i64 v1.now), .sl (rowsOf eI v1.times), .sl (rowsOf eI v1.values)], .sl (rowsOf eI nodes)] [] (.tup [.agg [.lit (.int .i64 res.1.now), .ref 20000 1 0 res.1.times.length, .ref 20001 1 0 res.1.values.length], .ref 20002 1 0 res.2.length]) [(20000, 1, .row true (rowsOf eI res.1.times)), (20001, 1, .row true (rowsOf eI res.1.values)), (20002, 1, .row true (rowsOf eI res.2))] := by
  refine callOk_of (ra := [.homeCell 384 1, .homeCell 384 2, .home 7]) (md := mdT) hT (hi := hi66) Go.Proofs.Tryz.func66 rfl rfl (by decide +kernel) (by simp) ?_
  unfold m_impl_decided at h
  obtain ⟨r1001, g1, h⟩ := obnd_some h
  simp -implicitDefEqProofs -dsimp only [go_sem]
  refine callW_of (c_impl_copyState g1) ?_
  obtain ⟨q1006, l2, h⟩ := obnd_some h
  simp -implicitDefEqProofs -dsimp only [go_sem]
  refine loopW_loopO (m1 := .mk) (m2 := .mk) [.home 9, .nf [3, 4, 6, 8, 9, 14, 15, 16] [192, 256, 384, 512, 832, 833, 639]] (m_impl_decided_L1_St nodes ((nodes.length : Nat) : Int) s.nodes s.ties s.horizon v1.now v1.times v1.values r1001.now r1001.values) l2 ?_ ?_
  · simp -implicitDefEqProofs -dsimp only [go_sem]
  · intro nb3 sb3 bb3 b3 gb3
    obtain ⟨v16_1, props_1, h832_1⟩ := sb3
    unfold m_impl_decided_L1 at b3
    try dsimp only at b3
    rcases ite_some b3 with ⟨h4, b3⟩ | ⟨h4, b3⟩
    · obtain ⟨x1002, g5, b3⟩ := obnd_some b3
      obtain ⟨h6, h7, h8⟩ := getI_some g5
      obtain ⟨x1003, g9, b3⟩ := obnd_some b3
      obtain ⟨h10, h11, h12⟩ := getI_some g9
      obtain ⟨x1004, g13, b3⟩ := obnd_some b3
      obtain ⟨h14, h15, h16⟩ := getI_some g13
      rcases ite_some b3 with ⟨h17, b3⟩ | ⟨h17, b3⟩
      · cases b3
        simp -implicitDefEqProofs -dsimp only [go_sem, (eq_true h4), h6, h7, h8, h10, h11, h12, h14, h15, h16, (eq_true h17)]
        refine next_of gb3 ?_
        simp -implicitDefEqProofs -dsimp only [go_sem, (eq_true h4), h6, h7, h8, h10, h11, h12, h14, h15, h16, (eq_true h17)]
      · obtain ⟨h18, b3⟩ := chk_some b3
        obtain ⟨h19, b3⟩ := chk_some b3
        cases b3
        simp -implicitDefEqProofs -dsimp only [go_sem, (eq_true h4), h6, h7, h8, h10, h11, h12, h14, h15, h16, (eq_false h17), (eq_true h18), (eq_true h19)]
        refine next_of gb3 ?_
        simp -implicitDefEqProofs -dsimp only [go_sem, (eq_true h4), h6, h7, h8, h10, h11, h12, h14, h15, h16, (eq_false h17), (eq_true h18), (eq_true h19)]
    · cases b3
      have e20 := (done_of gb3).symm
      subst e20
      try dsimp only at h
      obtain ⟨r1005, g21, h⟩ := obnd_some h
      simp -implicitDefEqProofs -dsimp only [go_sem, (eq_false h4)]
      refine callW_of (c_slices_Sort_int g21) ?_
      obtain ⟨h22, h⟩ := chk_some h
      cases h
      simp -implicitDefEqProofs -dsimp only [go_sem, (eq_false h4), h22.symm]
/- 69 loop.example/g00827/impl.observed -/
def m_impl_observed_L1_St (values : List Int) (v12 : List Int) (v13 : Int) (out_0 : Int) (h704 : List Int) : (Int × (List Int)) → St
  | (v14, h705) => ⟨[(2, .sl (rowsOf eI values)), (6, .ptr 384 1 0 0), (7, .ptr 448 1 0 0), (12, .sl (rowsOf eI v12)), (13, .lit (.int .i64 v13)), (14, .lit (.int .i64 v14))], [(384, 1, .var [.lit (.int .i64 0), .lit (.slice none 0 0), .lit (.slice none 0 0)]), (448, 1, .var [.lit (.int .i64 out_0), .ref 704 1 0 h704.length, .ref 705 1 0 h705.length]), (704, 1, .row true (rowsOf eI h704)), (705, 1, .row true (rowsOf eI h705))], 2⟩
attribute [go_sem] m_impl_observed_L1_St
def hi69 : Hint where
  acts := fun _ => []
  draws := fun
    | 5 => ⟨.cons ⟨0, false, []⟩ (.cons ⟨1, false, []⟩ (.cons ⟨2, false, []⟩ (.cons ⟨3, false, []⟩ (.cons ⟨4, false, []⟩ (.cons ⟨5, false, []⟩ (.cons ⟨6, false, []⟩ (.cons ⟨7, false, []⟩ (.cons ⟨8, false, []⟩ (.cons ⟨9, false, []⟩ .nil))))))))), [[], [0], [], [2], [], [], [4, 5], [4, 5, 6], [0, 1, 2, 3, 4, 5, 6, 7], [0, 1, 2, 3, 4, 5, 6, 7, 8]], [0, 1, 2, 3, 4, 5, 6, 7, 8, 9]⟩
    | _ => ⟨.nil, [], []⟩
theorem hi69a (i : Nat) : hi69.acts i = [] := rfl
theorem hi69v (i : Nat) : hi69.views i = none := rfl
attribute [go_sem] hi69a hi69v Go.Proofs.Tryz.ntmps69 Go.Proofs.Tryz.results69
@[go_sem] theorem hi69d5 : (hi69.draws 5).order = .cons ⟨0, false, []⟩ (.cons ⟨1, false, []⟩ (.cons ⟨2, false, []⟩ (.cons ⟨3, false, []⟩ (.cons ⟨4, false, []⟩ (.cons ⟨5, false, []⟩ (.cons ⟨6, false, []⟩ (.cons ⟨7, false, []⟩ (.cons ⟨8, false, []⟩ (.cons ⟨9, false, []⟩ .nil))))))))) := rfl
theorem c_impl_observed {v0 : GState} {props : List Int} {values : List Int} {res : GState} (h : m_impl_observed v0 props values = some res) : CallOk Go.Proofs.Tryz.prog 69 [.agg [.lit (.int .i64 v0.now), .sl (rowsOf eI v0.times), .sl (rowsOf eI v0.values)], .sl (rowsOf eI props), .sl (rowsOf eI values)] [] (.agg [.lit (.int .i64 res.now), .ref 20000 1 0 res.times.length, .ref 20001 1 0 res.values.length]) [(20000, 1, .row true (rowsOf eI res.times)), (20001, 1, .row true (rowsOf eI res.values))] := by
  refine callOk_of (ra := [.homeCell 384 1, .homeCell 384 2]) (md := mdT) hT (hi := hi69) Go.Proofs.Tryz.func69 rfl rfl (by decide +kernel) (by simp) ?_
  unfold m_impl_observed at h
  obtain ⟨r1001, g1, h⟩ := obnd_some h
  simp -implicitDefEqProofs -dsimp only [go_sem]
  refine callW_of (c_impl_copyState g1) ?_
  obtain ⟨q1005, l2, h⟩ := obnd_some h
  simp -implicitDefEqProofs -dsimp only [go_sem]
  refine loopW_loopO (m1 := .mk) (m2 := .mk) [.nf [2, 6, 7, 12, 13, 14] [384, 448, 704, 705]] (m_impl_observed_L1_St values props ((props.length : Nat) : Int) r1001.now r1001.times) l2 ?_ ?_
  · simp -implicitDefEqProofs -dsimp only [go_sem]
  · intro nb3 sb3 bb3 b3 gb3
    obtain ⟨v14_1, h705_1⟩ := sb3
    unfold m_impl_observed_L1 at b3
    try dsimp only at b3
    rcases ite_some b3 with ⟨h4, b3⟩ | ⟨h4, b3⟩
    · obtain ⟨x1002, g5, b3⟩ := obnd_some b3
      obtain ⟨h6, h7, h8⟩ := getI_some g5
      obtain ⟨x1003, g9, b3⟩ := obnd_some b3
      obtain ⟨h10, h11, h12⟩ := getI_some g9
      obtain ⟨x1004, g13, b3⟩ := obnd_some b3
      obtain ⟨h14, h15, h16⟩ := getI_some g13
      cases b3
      simp -implicitDefEqProofs -dsimp only [go_sem, (eq_true h4), h6, h7, h8, h10, h11, h12, h14, h15, h16]
      refine next_of gb3 ?_
      simp -implicitDefEqProofs -dsimp only [go_sem, (eq_true h4), h6, h7, h8, h10, h11, h12, h14, h15, h16]
    · cases b3
      have e17 := (done_of gb3).symm
      subst e17
      try dsimp only at h
      cases h
      simp -implicitDefEqProofs -dsimp only [go_sem, (eq_false h4)]
/- 32 loop.example/g00827/impl.apply -/
def m_impl_apply_L1_St (v58 : List Int) (v59 : Int) (next_0 : Int) (h3456 : List Int) (h3457 : List Int) (props : List Int) : (Int × (List Int) × (List Int)) → St
  | (v60, seen, values) => ⟨[(6, .ptr 384 1 0 0), (9, .ptr 576 1 0 0), (10, .ref 3458 1 0 props.length), (11, .ref 767 1 0 seen.length), (12, .ref 831 1 0 values.length), (58, .sl (rowsOf eI v58)), (59, .lit (.int .i64 v59)), (60, .lit (.int .i64 v60))], [(384, 1, .var [.lit (.int .i64 0), .lit (.slice none 0 0), .lit (.slice none 0 0)]), (576, 1, .var [.lit (.int .i64 next_0), .ref 3456 1 0 h3456.length, .ref 3457 1 0 h3457.length]), (3456, 1, .row true (rowsOf eI h3456)), (3457, 1, .row true (rowsOf eI h3457)), (3458, 1, .row true (rowsOf eI props)), (767, 1, .row true (rowsOf eI seen)), (831, 1, .row true (rowsOf eI values))], 2⟩
attribute [go_sem] m_impl_apply_L1_St
def hi32 : Hint where
  acts := fun _ => []
  draws := fun
    | 1 => ⟨.cons ⟨0, false, []⟩ (.cons ⟨1, false, []⟩ (.cons ⟨2, false, []⟩ (.cons ⟨3, false, []⟩ (.cons ⟨4, false, []⟩ (.cons ⟨5, false, []⟩ (.cons ⟨6, false, []⟩ (.cons ⟨7, false, []⟩ (.cons ⟨9, true, []⟩ (.cons ⟨10, true, []⟩ (.cons ⟨8, false, [9, 10]⟩ (.cons ⟨11, false, []⟩ (.cons ⟨12, false, []⟩ (.cons ⟨13, false, []⟩ (.cons ⟨14, false, []⟩ (.cons ⟨15, false, []⟩ (.cons ⟨16, false, []⟩ (.cons ⟨17, false, []⟩ (.cons ⟨18, false, []⟩ (.cons ⟨19, false, []⟩ .nil))))))))))))))))))), [[], [0], [], [2], [0, 1, 2, 3], [0, 1, 2, 3, 4], [0, 1, 2, 3, 4, 5], [0, 1, 2, 3, 4, 5], [0, 1, 2, 3, 4, 5, 6, 7], [0, 1, 2, 3, 4, 5], [0, 1, 2, 3, 4, 5, 9], [0, 1, 2, 3, 4, 5, 6, 7, 8, 9, 10], [0, 1, 2, 3, 4, 5, 6, 7, 8, 9, 10, 11], [0, 1, 2, 3, 4, 5, 6, 7, 8, 9, 10, 11, 12], [0, 1, 2, 3, 4, 5, 6, 7, 8, 9, 10, 11, 12, 13], [0, 1, 2, 3, 4, 5, 6, 7, 8, 9, 10, 11, 12, 13, 14], [0, 1, 2, 3, 4, 5, 6, 7, 8, 9, 10, 11, 12, 13, 14, 15], [0, 1, 2, 3, 4, 5, 6, 7, 8, 9, 10, 11, 12, 13, 14, 15, 16], [0, 1, 2, 3, 4, 5, 6, 7, 8, 9, 10, 11, 12, 13, 14, 15, 16, 17], [0, 1, 2, 3, 4, 5, 6, 7, 8, 9, 10, 11, 12, 13, 14, 15, 16, 17, 18]], [0, 1, 2, 3, 4, 5, 6, 7, 8, 9, 10, 11, 12, 13, 14, 15, 16, 17, 18, 19]⟩
    | 4 => ⟨.cons ⟨0, false, []⟩ (.cons ⟨1, false, []⟩ (.cons ⟨3, true, []⟩ (.cons ⟨4, true, []⟩ (.cons ⟨2, false, [3, 4]⟩ (.cons ⟨5, false, []⟩ (.cons ⟨6, false, []⟩ .nil)))))), [[], [], [0, 1], [], [3], [0, 1, 2, 3, 4], [0, 1, 2, 3, 4, 5]], [0, 1, 2, 3, 4, 5, 6]⟩
    | _ => ⟨.nil, [], []⟩
theorem hi32a (i : Nat) : hi32.acts i = [] := rfl
theorem hi32v (i : Nat) : hi32.views i = none := rfl
attribute [go_sem] hi32a hi32v Go.Proofs.Tryz.ntmps32 Go.Proofs.Tryz.results32
@[go_sem] theorem hi32d1 : (hi32.draws 1).order = .cons ⟨0, false, []⟩ (.cons ⟨1, false, []⟩ (.cons ⟨2, false, []⟩ (.cons ⟨3, false, []⟩ (.cons ⟨4, false, []⟩ (.cons ⟨5, false, []⟩ (.cons ⟨6, false, []⟩ (.cons ⟨7, false, []⟩ (.cons ⟨9, true, []⟩ (.cons ⟨10, true, []⟩ (.cons ⟨8, false, [9, 10]⟩ (.cons ⟨11, false, []⟩ (.cons ⟨12, false, []⟩ (.cons ⟨13, false, []⟩ (.cons ⟨14, false, []⟩ (.cons ⟨15, false, []⟩ (.cons ⟨16, false, []⟩ (.cons ⟨17, false, []⟩ (.cons ⟨18, false, []⟩ (.cons ⟨19, false, []⟩ .nil))))))))))))))))))) := rfl
@[go_sem] theorem hi32d4 : (hi32.draws 4).order = .cons ⟨0, false, []⟩ (.cons ⟨1, false, []⟩ (.cons ⟨3, true, []⟩ (.cons ⟨4, true, []⟩ (.cons ⟨2, false, [3, 4]⟩ (.cons ⟨5, false, []⟩ (.cons ⟨6, false, []⟩ .nil)))))) := rfl
theorem c_impl_apply {s : GShow} {v1 : GState} {e : GEntry} {res : GState × Bool} (h : m_impl_apply s v1 e = some res) : CallOk Go.Proofs.Tryz.prog 32 [.agg [.sl (rowsOf GNode.encS s.nodes), .sl (rowsOf GTie.enc s.ties), .lit (.int .i64 s.horizon)], .agg [.lit (.int .i64 v1.now), .sl (rowsOf eI v1.times), .sl (rowsOf eI v1.values)], .agg [.lit (.int .i64 e.now), .sl (rowsOf eI e.ties), .sl (rowsOf eI e.nodes), .sl (rowsOf eI e.values)]] [] (.tup [.agg [.lit (.int .i64 res.1.now), .ref 20000 1 0 res.1.times.length, .ref 20001 1 0 res.1.values.length], .lit (.bool res.2)]) [(20000, 1, .row true (rowsOf eI res.1.times)), (20001, 1, .row true (rowsOf eI res.1.values))] := by
  refine callOk_of (ra := [.homeCell 384 1, .homeCell 384 2]) (md := mdT) hT (hi := hi32) Go.Proofs.Tryz.func32 rfl rfl (by decide +kernel) (by simp) ?_
  unfold m_impl_apply at h
  rcases ite_some h with ⟨h1, h⟩ | ⟨h1, h⟩
  · obtain ⟨r1001, g2, h⟩ := obnd_some h
    simp -implicitDefEqProofs -dsimp only [go_sem, (eq_true h1)]
    refine callW_of (c_impl_endings g2) ?_
    obtain ⟨r1002, g3, h⟩ := obnd_some h
    simp -implicitDefEqProofs -dsimp only [go_sem, (eq_true h1)]
    refine callW_of (c_impl_has g3) ?_
    rcases ite_some h with ⟨h4, h⟩ | ⟨h4, h⟩
    · obtain ⟨r1003, g5, h⟩ := obnd_some h
      simp -implicitDefEqProofs -dsimp only [go_sem, (eq_true h1), (eq_true h4), (condZ_t h4)]
      refine callW_of (c_impl_LabelOk g5) ?_
      rcases ite_some h with ⟨h6, h⟩ | ⟨h6, h⟩
      · obtain ⟨r1004, g7, h⟩ := obnd_some h
        simp -implicitDefEqProofs -dsimp only [go_sem, (eq_true h1), (eq_true h4), (condZ_t h4), (eq_true h6), (condZ_t h6)]
        refine callW_of (c_impl_ended g7) ?_
        obtain ⟨r1005, g8, h⟩ := obnd_some h
        simp -implicitDefEqProofs -dsimp only [go_sem, (eq_true h1), (eq_true h4), (condZ_t h4), (eq_true h6), (condZ_t h6)]
        refine callW_of (c_impl_decisions g8) ?_
        obtain ⟨r1006, g9, h⟩ := obnd_some h
        simp -implicitDefEqProofs -dsimp only [go_sem, (eq_true h1), (eq_true h4), (condZ_t h4), (eq_true h6), (condZ_t h6)]
        refine callW_of (c_impl_has g9) ?_
        rcases ite_some h with ⟨h10, h⟩ | ⟨h10, h⟩
        · obtain ⟨r1007, g11, h⟩ := obnd_some h
          simp -implicitDefEqProofs -dsimp only [go_sem, (eq_true h1), (eq_true h4), (condZ_t h4), (eq_true h6), (condZ_t h6), (eq_true h10), (condZ_t h10)]
          refine callW_of (c_impl_decided g11) ?_
          obtain ⟨q1013, l12, h⟩ := obnd_some h
          simp -implicitDefEqProofs -dsimp only [go_sem, (eq_true h1), (eq_true h4), (condZ_t h4), (eq_true h6), (condZ_t h6), (eq_true h10), (condZ_t h10)]
          refine loopW_loopO (m1 := .mk) (m2 := .mk) [.home 11, .home 12, .nf [6, 9, 10, 11, 12, 58, 59, 60] [384, 576, 3456, 3457, 3458, 767, 831]] (m_impl_apply_L1_St e.values ((e.values.length : Nat) : Int) r1007.1.now r1007.1.times r1007.1.values r1007.2) l12 ?_ ?_
          · simp -implicitDefEqProofs -dsimp only [go_sem, (eq_true h1), (eq_true h4), (condZ_t h4), (eq_true h6), (condZ_t h6), (eq_true h10), (condZ_t h10)]
          · intro nb13 sb13 bb13 b13 gb13
            obtain ⟨v60_1, seen_1, values_1⟩ := sb13
            unfold m_impl_apply_L1 at b13
            try dsimp only at b13
            rcases ite_some b13 with ⟨h14, b13⟩ | ⟨h14, b13⟩
            · obtain ⟨x1008, g15, b13⟩ := obnd_some b13
              obtain ⟨h16, h17, h18⟩ := getI_some g15
              obtain ⟨r1009, g19, b13⟩ := obnd_some b13
              simp -implicitDefEqProofs -dsimp only [go_sem, (eq_true h1), (eq_true h4), (condZ_t h4), (eq_true h6), (condZ_t h6), (eq_true h10), (condZ_t h10), (eq_true h14), h16, h17, h18]
              refine callW_of (c_impl_propOf g19) ?_
              obtain ⟨h20, b13⟩ := chk_some b13
              obtain ⟨h21, b13⟩ := chk_some b13
              obtain ⟨r1010, g22, b13⟩ := obnd_some b13
              simp -implicitDefEqProofs -dsimp only [go_sem, (eq_true h1), (eq_true h4), (condZ_t h4), (eq_true h6), (condZ_t h6), (eq_true h10), (condZ_t h10), (eq_true h14), h16, h17, h18, (eq_true h20), (eq_true h21)]
              refine callW_of (c_impl_propOf g22) ?_
              obtain ⟨h23, b13⟩ := chk_some b13
              obtain ⟨h24, b13⟩ := chk_some b13
              obtain ⟨h25, b13⟩ := chk_some b13
              cases b13
              simp -implicitDefEqProofs -dsimp only [go_sem, (eq_true h1), (eq_true h4), (condZ_t h4), (eq_true h6), (condZ_t h6), (eq_true h10), (condZ_t h10), (eq_true h14), h16, h17, h18, (eq_true h20), (eq_true h21), (eq_false h23), (eq_true h24), (eq_true h25)]
              refine next_of gb13 ?_
              simp -implicitDefEqProofs -dsimp only [go_sem, (eq_true h1), (eq_true h4), (condZ_t h4), (eq_true h6), (condZ_t h6), (eq_true h10), (condZ_t h10), (eq_true h14), h16, h17, h18, (eq_true h20), (eq_true h21), (eq_false h23), (eq_true h24), (eq_true h25)]
            · cases b13
              have e26 := (done_of gb13).symm
              subst e26
              try dsimp only at h
              obtain ⟨r1011, g27, h⟩ := obnd_some h
              simp -implicitDefEqProofs -dsimp only [go_sem, (eq_true h1), (eq_true h4), (condZ_t h4), (eq_true h6), (condZ_t h6), (eq_true h10), (condZ_t h10), (eq_false h14)]
              refine callW_of (c_slices_Equal_int g27) ?_
              rcases ite_some h with ⟨h28, h⟩ | ⟨h28, h⟩
              · obtain ⟨r1012, g29, h⟩ := obnd_some h
                simp -implicitDefEqProofs -dsimp only [go_sem, (eq_true h1), (eq_true h4), (condZ_t h4), (eq_true h6), (condZ_t h6), (eq_true h10), (condZ_t h10), (eq_false h14), (eq_true h28), (condZ_t h28)]
                refine callW_of (c_impl_observed g29) ?_
                cases h
                simp -implicitDefEqProofs -dsimp only [go_sem, (eq_true h1), (eq_true h4), (condZ_t h4), (eq_true h6), (condZ_t h6), (eq_true h10), (condZ_t h10), (eq_false h14), (eq_true h28), (condZ_t h28)]
              · cases h
                simp -implicitDefEqProofs -dsimp only [go_sem, (eq_true h1), (eq_true h4), (condZ_t h4), (eq_true h6), (condZ_t h6), (eq_true h10), (condZ_t h10), (eq_false h14), (eq_false h28), (condZ_f h28)]
        · cases h
          simp -implicitDefEqProofs -dsimp only [go_sem, (eq_true h1), (eq_true h4), (condZ_t h4), (eq_true h6), (condZ_t h6), (eq_false h10), (condZ_f h10)]
      · cases h
        simp -implicitDefEqProofs -dsimp only [go_sem, (eq_true h1), (eq_true h4), (condZ_t h4), (eq_false h6), (condZ_f h6)]
    · cases h
      simp -implicitDefEqProofs -dsimp only [go_sem, (eq_true h1), (eq_false h4), (condZ_f h4)]
  · cases h
    simp -implicitDefEqProofs -dsimp only [go_sem, (eq_false h1)]
/- 10 loop.example/g00827/impl.ReplayLog -/
def m_impl_ReplayLog_L1_St (v17 : List GEntry) (v18 : Int) (s_0 : List GNode) (s_1 : List GTie) (s_2 : Int) : (Int × Int × (List Int) × (List Int)) → St
  | (v19, v6_0, h1024, h1025) => ⟨[(2, .ptr 128 1 0 0), (4, .ptr 256 1 0 0), (6, .ptr 384 1 0 0), (17, .sl (rowsOf GEntry.encS v17)), (18, .lit (.int .i64 v18)), (19, .lit (.int .i64 v19))], [(128, 1, .var [.sl (rowsOf GNode.encS s_0), .sl (rowsOf GTie.enc s_1), .lit (.int .i64 s_2)]), (256, 1, .var [.lit (.int .i64 0), .lit (.slice none 0 0), .lit (.slice none 0 0)]), (384, 1, .var [.lit (.int .i64 v6_0), .ref 1024 1 0 h1024.length, .ref 1025 1 0 h1025.length]), (1024, 1, .row true (rowsOf eI h1024)), (1025, 1, .row true (rowsOf eI h1025))], 2⟩
attribute [go_sem] m_impl_ReplayLog_L1_St
def hi10 : Hint where
  acts := fun _ => []
  draws := fun
    | _ => ⟨.nil, [], []⟩
theorem hi10a (i : Nat) : hi10.acts i = [] := rfl
theorem hi10v (i : Nat) : hi10.views i = none := rfl
attribute [go_sem] hi10a hi10v Go.Proofs.Tryz.ntmps10 Go.Proofs.Tryz.results10
theorem c_impl_ReplayLog {s : GShow} {log : List GEntry} {res : GState × Bool} (h : m_impl_ReplayLog s log = some res) : CallOk Go.Proofs.Tryz.prog 10 [.agg [.sl (rowsOf GNode.encS s.nodes), .sl (rowsOf GTie.enc s.ties), .lit (.int .i64 s.horizon)], .sl (rowsOf GEntry.encS log)] [] (.tup [.agg [.lit (.int .i64 res.1.now), .ref 20000 1 0 res.1.times.length, .ref 20001 1 0 res.1.values.length], .lit (.bool res.2)]) [(20000, 1, .row true (rowsOf eI res.1.times)), (20001, 1, .row true (rowsOf eI res.1.values))] := by
  refine callOk_of (ra := [.homeCell 256 1, .homeCell 256 2]) (md := mdT) hT (hi := hi10) Go.Proofs.Tryz.func10 rfl rfl (by decide +kernel) (by simp) ?_
  unfold m_impl_ReplayLog at h
  obtain ⟨r1001, g1, h⟩ := obnd_some h
  simp -implicitDefEqProofs -dsimp only [go_sem]
  refine callW_of (c_impl_ShowOk g1) ?_
  rcases ite_some h with ⟨h2, h⟩ | ⟨h2, h⟩
  · obtain ⟨r1002, g3, h⟩ := obnd_some h
    simp -implicitDefEqProofs -dsimp only [go_sem, (eq_true h2), (condZ_t h2)]
    refine callW_of (c_impl_StartState g3) ?_
    obtain ⟨q1005, l4, h⟩ := obnd_some h
    simp -implicitDefEqProofs -dsimp only [go_sem, (eq_true h2), (condZ_t h2)]
    refine loopW_loopO (m1 := .mk) (m2 := .mk) [.nfp [2, 4, 6, 17, 18, 19] [(128, 128), (256, 256), (384, 384), (1728, 1024), (1024, 1024), (1729, 1025), (1025, 1025)] []] (m_impl_ReplayLog_L1_St log ((log.length : Nat) : Int) s.nodes s.ties s.horizon) l4 ?_ ?_
    · simp -implicitDefEqProofs -dsimp only [go_sem, (eq_true h2), (condZ_t h2)]
    · intro nb5 sb5 bb5 b5 gb5
      obtain ⟨v19_1, v6_0_1, h1024_1, h1025_1⟩ := sb5
      unfold m_impl_ReplayLog_L1 at b5
      try dsimp only at b5
      rcases ite_some b5 with ⟨h6, b5⟩ | ⟨h6, b5⟩
      · obtain ⟨x1003, g7, b5⟩ := obnd_some b5
        obtain ⟨h8, h9, h10⟩ := getI_some g7
        obtain ⟨r1004, g11, b5⟩ := obnd_some b5
        simp -implicitDefEqProofs -dsimp only [go_sem, (eq_true h2), (condZ_t h2), (eq_true h6), h8, h9, h10]
        refine callW_of (c_impl_apply g11) ?_
        rcases ite_some b5 with ⟨h12, b5⟩ | ⟨h12, b5⟩
        · cases b5
          simp -implicitDefEqProofs -dsimp only [go_sem, (eq_true h2), (condZ_t h2), (eq_true h6), h8, h9, h10, (eq_true h12), (condZ_t h12)]
          refine next_of gb5 ?_
          simp -implicitDefEqProofs -dsimp only [go_sem, (eq_true h2), (condZ_t h2), (eq_true h6), h8, h9, h10, (eq_true h12), (condZ_t h12)]
        · cases b5
          have e13 := (done_of gb5).symm
          subst e13
          try dsimp only at h
          cases h
          simp -implicitDefEqProofs -dsimp only [go_sem, (eq_true h2), (condZ_t h2), (eq_true h6), h8, h9, h10, (eq_false h12), (condZ_f h12)]
      · cases b5
        have e14 := (done_of gb5).symm
        subst e14
        try dsimp only at h
        cases h
        simp -implicitDefEqProofs -dsimp only [go_sem, (eq_true h2), (condZ_t h2), (eq_false h6)]
  · cases h
    simp -implicitDefEqProofs -dsimp only [go_sem, (eq_false h2), (condZ_f h2)]
/- 46 loop.example/g00827/impl.SameStates -/
def hi46 : Hint where
  acts := fun _ => []
  draws := fun
    | _ => ⟨.nil, [], []⟩
theorem hi46a (i : Nat) : hi46.acts i = [] := rfl
theorem hi46v (i : Nat) : hi46.views i = none := rfl
attribute [go_sem] hi46a hi46v Go.Proofs.Tryz.ntmps46 Go.Proofs.Tryz.results46
theorem c_impl_SameStates {a : GState} {b : GState} {res : Bool} (h : m_impl_SameStates a b = some res) : CallOk Go.Proofs.Tryz.prog 46 [.agg [.lit (.int .i64 a.now), .sl (rowsOf eI a.times), .sl (rowsOf eI a.values)], .agg [.lit (.int .i64 b.now), .sl (rowsOf eI b.times), .sl (rowsOf eI b.values)]] [] (.lit (.bool res)) [] := by
  refine callOk_of (ra := []) (md := mdT) hT (hi := hi46) Go.Proofs.Tryz.func46 rfl rfl (by decide +kernel) (by simp) ?_
  unfold m_impl_SameStates at h
  rcases ite_some h with ⟨h1, h⟩ | ⟨h1, h⟩
  · obtain ⟨r1001, g2, h⟩ := obnd_some h
    simp -implicitDefEqProofs -dsimp only [go_sem, (eq_true h1)]
    refine callW_of (c_slices_Equal_int g2) ?_
    rcases ite_some h with ⟨h3, h⟩ | ⟨h3, h⟩
    · obtain ⟨r1002, g4, h⟩ := obnd_some h
      simp -implicitDefEqProofs -dsimp only [go_sem, (eq_true h1), (eq_true h3), (condZ_t h3)]
      refine callW_of (c_slices_Equal_int g4) ?_
      cases h
      simp -implicitDefEqProofs -dsimp only [go_sem, (eq_true h1), (eq_true h3), (condZ_t h3)]
    · cases h
      simp -implicitDefEqProofs -dsimp only [go_sem, (eq_true h1), (eq_false h3), (condZ_f h3)]
  · cases h
    simp -implicitDefEqProofs -dsimp only [go_sem, (eq_false h1)]
/- 21 loop.example/g00827/impl.DeskOk -/
def hi21 : Hint where
  acts := fun _ => []
  draws := fun
    | _ => ⟨.nil, [], []⟩
theorem hi21a (i : Nat) : hi21.acts i = [] := rfl
theorem hi21v (i : Nat) : hi21.views i = none := rfl
attribute [go_sem] hi21a hi21v Go.Proofs.Tryz.ntmps21 Go.Proofs.Tryz.results21
theorem c_impl_DeskOk {d : GDesk} {res : Bool} (h : m_impl_DeskOk d = some res) : CallOk Go.Proofs.Tryz.prog 21 [.agg [.sl (rowsOf GNode.encS d.show_.nodes), .sl (rowsOf GTie.enc d.show_.ties), .lit (.int .i64 d.show_.horizon), .lit (.int .i64 d.state.now), .sl (rowsOf eI d.state.times), .sl (rowsOf eI d.state.values), .lit (.bool d.lazy), .sl (rowsOf GEntry.encS d.log)]] [] (.lit (.bool res)) [] := by
  refine callOk_of (ra := []) (md := mdT) hT (hi := hi21) Go.Proofs.Tryz.func21 rfl rfl (by decide +kernel) (by simp) ?_
  unfold m_impl_DeskOk at h
  obtain ⟨r1001, g1, h⟩ := obnd_some h
  simp -implicitDefEqProofs -dsimp only [go_sem]
  refine callW_of (c_impl_StateOk g1) ?_
  rcases ite_some h with ⟨h2, h⟩ | ⟨h2, h⟩
  · rcases ite_some h with ⟨h3, h⟩ | ⟨h3, h⟩
    · obtain ⟨r1002, g4, h⟩ := obnd_some h
      simp -implicitDefEqProofs -dsimp only [go_sem, (eq_true h2), (condZ_t h2), (eq_true h3)]
      refine callW_of (c_impl_ReplayLog g4) ?_
      rcases ite_some h with ⟨h5, h⟩ | ⟨h5, h⟩
      · obtain ⟨r1003, g6, h⟩ := obnd_some h
        simp -implicitDefEqProofs -dsimp only [go_sem, (eq_true h2), (condZ_t h2), (eq_true h3), (eq_true h5), (condZ_t h5)]
        refine callW_of (c_impl_SameStates g6) ?_
        cases h
        simp -implicitDefEqProofs -dsimp only [go_sem, (eq_true h2), (condZ_t h2), (eq_true h3), (eq_true h5), (condZ_t h5)]
      · cases h
        simp -implicitDefEqProofs -dsimp only [go_sem, (eq_true h2), (condZ_t h2), (eq_true h3), (eq_false h5), (condZ_f h5)]
    · cases h
      simp -implicitDefEqProofs -dsimp only [go_sem, (eq_true h2), (condZ_t h2), (eq_false h3)]
  · cases h
    simp -implicitDefEqProofs -dsimp only [go_sem, (eq_false h2), (condZ_f h2)]
/- 33 loop.example/g00827/laws.eqIntS -/
def m_laws_eqIntS_L1_St (a : List Int) (b : List Int) (i : Int) : St := ⟨[(0, .sl (rowsOf eI a)), (1, .sl (rowsOf eI b)), (5, .lit (.int .i64 i))], [], 2⟩
attribute [go_sem] m_laws_eqIntS_L1_St
def hi33 : Hint where
  acts := fun _ => []
  draws := fun
    | 6 => ⟨.cons ⟨0, false, []⟩ (.cons ⟨1, false, []⟩ (.cons ⟨2, false, []⟩ (.cons ⟨3, false, []⟩ (.cons ⟨4, false, []⟩ (.cons ⟨5, false, []⟩ (.cons ⟨6, false, []⟩ (.cons ⟨7, false, []⟩ (.cons ⟨8, false, []⟩ .nil)))))))), [[], [], [0, 1], [0, 1, 2], [], [], [4, 5], [4, 5, 6], [0, 1, 2, 3, 4, 5, 6, 7]], [0, 1, 2, 3, 4, 5, 6, 7, 8]⟩
    | _ => ⟨.nil, [], []⟩
theorem hi33a (i : Nat) : hi33.acts i = [] := rfl
theorem hi33v (i : Nat) : hi33.views i = none := rfl
attribute [go_sem] hi33a hi33v Go.Proofs.Tryz.ntmps33 Go.Proofs.Tryz.results33
@[go_sem] theorem hi33d6 : (hi33.draws 6).order = .cons ⟨0, false, []⟩ (.cons ⟨1, false, []⟩ (.cons ⟨2, false, []⟩ (.cons ⟨3, false, []⟩ (.cons ⟨4, false, []⟩ (.cons ⟨5, false, []⟩ (.cons ⟨6, false, []⟩ (.cons ⟨7, false, []⟩ (.cons ⟨8, false, []⟩ .nil)))))))) := rfl
theorem c_laws_eqIntS {a : List Int} {b : List Int} {res : Bool} (h : m_laws_eqIntS a b = some res) : CallOk Go.Proofs.Tryz.prog 33 [.sl (rowsOf eI a), .sl (rowsOf eI b)] [] (.lit (.bool res)) [] := by
  refine callOk_of (ra := []) (md := mdT) hT (hi := hi33) Go.Proofs.Tryz.func33 rfl rfl (by decide +kernel) (by simp) ?_
  unfold m_laws_eqIntS at h
  rcases ite_some h with ⟨h1, h⟩ | ⟨h1, h⟩
  · obtain ⟨q1003, l2, h⟩ := obnd_some h
    simp -implicitDefEqProofs -dsimp only [go_sem, (eq_true h1)]
    refine loopW_loopO (m1 := .mk) (m2 := .mk) [.nf [0, 1, 5] []] (m_laws_eqIntS_L1_St a b) l2 ?_ ?_
    · simp -implicitDefEqProofs -dsimp only [go_sem, (eq_true h1)]
    · intro nb3 sb3 bb3 b3 gb3
      obtain ⟨i_1, eb3⟩ : ∃ v, v = sb3 := ⟨_, rfl⟩; subst eb3
      unfold m_laws_eqIntS_L1 at b3
      try dsimp only at b3
      rcases ite_some b3 with ⟨h4, b3⟩ | ⟨h4, b3⟩
      · obtain ⟨x1001, g5, b3⟩ := obnd_some b3
        obtain ⟨h6, h7, h8⟩ := getI_some g5
        obtain ⟨x1002, g9, b3⟩ := obnd_some b3
        obtain ⟨h10, h11, h12⟩ := getI_some g9
        rcases ite_some b3 with ⟨h13, b3⟩ | ⟨h13, b3⟩
        · cases b3
          simp -implicitDefEqProofs -dsimp only [go_sem, (eq_true h1), (eq_true h4), h6, h7, h8, h10, h11, h12, (eq_true h13)]
          refine next_of gb3 ?_
          simp -implicitDefEqProofs -dsimp only [go_sem, (eq_true h1), (eq_true h4), h6, h7, h8, h10, h11, h12, (eq_true h13)]
        · cases b3
          have e14 := (done_of gb3).symm
          subst e14
          try dsimp only at h
          cases h
          simp -implicitDefEqProofs -dsimp only [go_sem, (eq_true h1), (eq_true h4), h6, h7, h8, h10, h11, h12, (eq_false h13)]
      · cases b3
        have e15 := (done_of gb3).symm
        subst e15
        try dsimp only at h
        cases h
        simp -implicitDefEqProofs -dsimp only [go_sem, (eq_true h1), (eq_false h4)]
  · cases h
    simp -implicitDefEqProofs -dsimp only [go_sem, (eq_false h1)]
/- 70 loop.example/g00827/laws.eqNode -/
def hi70 : Hint where
  acts := fun _ => []
  draws := fun
    | _ => ⟨.nil, [], []⟩
theorem hi70a (i : Nat) : hi70.acts i = [] := rfl
theorem hi70v (i : Nat) : hi70.views i = none := rfl
attribute [go_sem] hi70a hi70v Go.Proofs.Tryz.ntmps70 Go.Proofs.Tryz.results70
theorem c_laws_eqNode {a : GNode} {b : GNode} {res : Bool} (h : m_laws_eqNode a b = some res) : CallOk Go.Proofs.Tryz.prog 70 [.agg [.lit (.string a.name), .sl (rowsOf eI a.label), .lit (.int .i64 a.watch)], .agg [.lit (.string b.name), .sl (rowsOf eI b.label), .lit (.int .i64 b.watch)]] [] (.lit (.bool res)) [] := by
  refine callOk_of (ra := []) (md := mdT) hT (hi := hi70) Go.Proofs.Tryz.func70 rfl rfl (by decide +kernel) (by simp) ?_
  unfold m_laws_eqNode at h
  rcases ite_some h with ⟨h1, h⟩ | ⟨h1, h⟩
  · obtain ⟨r1001, g2, h⟩ := obnd_some h
    simp -implicitDefEqProofs -dsimp only [go_sem, (eq_true h1)]
    refine callW_of (c_laws_eqIntS g2) ?_
    rcases ite_some h with ⟨h3, h⟩ | ⟨h3, h⟩
    · rcases ite_some h with ⟨h4, h⟩ | ⟨h4, h⟩
      · cases h
        simp -implicitDefEqProofs -dsimp only [go_sem, (eq_true h1), (eq_true h3), (condZ_t h3), (eq_true h4)]
      · cases h
        simp -implicitDefEqProofs -dsimp only [go_sem, (eq_true h1), (eq_true h3), (condZ_t h3), (eq_false h4)]
    · cases h
      simp -implicitDefEqProofs -dsimp only [go_sem, (eq_true h1), (eq_false h3), (condZ_f h3)]
  · cases h
    simp -implicitDefEqProofs -dsimp only [go_sem, (eq_false h1)]
/- 34 loop.example/g00827/laws.eqNodeS -/
def m_laws_eqNodeS_L1_St (a : List GNode) (b : List GNode) (i : Int) : St := ⟨[(0, .sl (rowsOf GNode.encS a)), (1, .sl (rowsOf GNode.encS b)), (5, .lit (.int .i64 i))], [], 2⟩
attribute [go_sem] m_laws_eqNodeS_L1_St
def hi34 : Hint where
  acts := fun _ => []
  draws := fun
    | 6 => ⟨.cons ⟨0, false, []⟩ (.cons ⟨1, false, []⟩ (.cons ⟨2, false, []⟩ (.cons ⟨3, false, []⟩ (.cons ⟨4, false, []⟩ (.cons ⟨5, false, []⟩ (.cons ⟨6, false, []⟩ (.cons ⟨7, false, []⟩ (.cons ⟨8, false, []⟩ (.cons ⟨9, false, []⟩ .nil))))))))), [[], [], [0, 1], [0, 1, 2], [], [], [4, 5], [4, 5, 6], [0, 1, 2, 3, 4, 5, 6, 7], [0, 1, 2, 3, 4, 5, 6, 7, 8]], [0, 1, 2, 3, 4, 5, 6, 7, 8, 9]⟩
    | _ => ⟨.nil, [], []⟩
theorem hi34a (i : Nat) : hi34.acts i = [] := rfl
theorem hi34v (i : Nat) : hi34.views i = none := rfl
attribute [go_sem] hi34a hi34v Go.Proofs.Tryz.ntmps34 Go.Proofs.Tryz.results34
@[go_sem] theorem hi34d6 : (hi34.draws 6).order = .cons ⟨0, false, []⟩ (.cons ⟨1, false, []⟩ (.cons ⟨2, false, []⟩ (.cons ⟨3, false, []⟩ (.cons ⟨4, false, []⟩ (.cons ⟨5, false, []⟩ (.cons ⟨6, false, []⟩ (.cons ⟨7, false, []⟩ (.cons ⟨8, false, []⟩ (.cons ⟨9, false, []⟩ .nil))))))))) := rfl
theorem c_laws_eqNodeS {a : List GNode} {b : List GNode} {res : Bool} (h : m_laws_eqNodeS a b = some res) : CallOk Go.Proofs.Tryz.prog 34 [.sl (rowsOf GNode.encS a), .sl (rowsOf GNode.encS b)] [] (.lit (.bool res)) [] := by
  refine callOk_of (ra := []) (md := mdT) hT (hi := hi34) Go.Proofs.Tryz.func34 rfl rfl (by decide +kernel) (by simp) ?_
  unfold m_laws_eqNodeS at h
  rcases ite_some h with ⟨h1, h⟩ | ⟨h1, h⟩
  · obtain ⟨q1004, l2, h⟩ := obnd_some h
    simp -implicitDefEqProofs -dsimp only [go_sem, (eq_true h1)]
    refine loopW_loopO (m1 := .mk) (m2 := .mk) [.nf [0, 1, 5] []] (m_laws_eqNodeS_L1_St a b) l2 ?_ ?_
    · simp -implicitDefEqProofs -dsimp only [go_sem, (eq_true h1)]
    · intro nb3 sb3 bb3 b3 gb3
      obtain ⟨i_1, eb3⟩ : ∃ v, v = sb3 := ⟨_, rfl⟩; subst eb3
      unfold m_laws_eqNodeS_L1 at b3
      try dsimp only at b3
      rcases ite_some b3 with ⟨h4, b3⟩ | ⟨h4, b3⟩
      · obtain ⟨x1001, g5, b3⟩ := obnd_some b3
        obtain ⟨h6, h7, h8⟩ := getI_some g5
        obtain ⟨x1002, g9, b3⟩ := obnd_some b3
        obtain ⟨h10, h11, h12⟩ := getI_some g9
        obtain ⟨r1003, g13, b3⟩ := obnd_some b3
        simp -implicitDefEqProofs -dsimp only [go_sem, (eq_true h1), (eq_true h4), h6, h7, h8, h10, h11, h12]
        refine callW_of (c_laws_eqNode g13) ?_
        rcases ite_some b3 with ⟨h14, b3⟩ | ⟨h14, b3⟩
        · cases b3
          simp -implicitDefEqProofs -dsimp only [go_sem, (eq_true h1), (eq_true h4), h6, h7, h8, h10, h11, h12, (eq_true h14), (condZ_t h14)]
          refine next_of gb3 ?_
          simp -implicitDefEqProofs -dsimp only [go_sem, (eq_true h1), (eq_true h4), h6, h7, h8, h10, h11, h12, (eq_true h14), (condZ_t h14)]
        · cases b3
          have e15 := (done_of gb3).symm
          subst e15
          try dsimp only at h
          cases h
          simp -implicitDefEqProofs -dsimp only [go_sem, (eq_true h1), (eq_true h4), h6, h7, h8, h10, h11, h12, (eq_false h14), (condZ_f h14)]
      · cases b3
        have e16 := (done_of gb3).symm
        subst e16
        try dsimp only at h
        cases h
        simp -implicitDefEqProofs -dsimp only [go_sem, (eq_true h1), (eq_false h4)]
  · cases h
    simp -implicitDefEqProofs -dsimp only [go_sem, (eq_false h1)]
/- 71 loop.example/g00827/laws.eqTie -/
def hi71 : Hint where
  acts := fun _ => []
  draws := fun
    | _ => ⟨.nil, [], []⟩
theorem hi71a (i : Nat) : hi71.acts i = [] := rfl
theorem hi71v (i : Nat) : hi71.views i = none := rfl
attribute [go_sem] hi71a hi71v Go.Proofs.Tryz.ntmps71 Go.Proofs.Tryz.results71
theorem c_laws_eqTie {a : GTie} {b : GTie} {res : Bool} (h : m_laws_eqTie a b = some res) : CallOk Go.Proofs.Tryz.prog 71 [.agg [.lit (.int .i64 a.from_), .lit (.int .i64 a.to), .lit (.int .i64 a.low), .lit (.int .i64 a.high), .lit (.bool a.free)], .agg [.lit (.int .i64 b.from_), .lit (.int .i64 b.to), .lit (.int .i64 b.low), .lit (.int .i64 b.high), .lit (.bool b.free)]] [] (.lit (.bool res)) [] := by
  refine callOk_of (ra := []) (md := mdT) hT (hi := hi71) Go.Proofs.Tryz.func71 rfl rfl (by decide +kernel) (by simp) ?_
  unfold m_laws_eqTie at h
  rcases ite_some h with ⟨h1, h⟩ | ⟨h1, h⟩
  · rcases ite_some h with ⟨h2, h⟩ | ⟨h2, h⟩
    · rcases ite_some h with ⟨h3, h⟩ | ⟨h3, h⟩
      · rcases ite_some h with ⟨h4, h⟩ | ⟨h4, h⟩
        · rcases ite_some h with ⟨h5, h⟩ | ⟨h5, h⟩
          · cases h
            simp -implicitDefEqProofs -dsimp only [go_sem, (eq_true h1), (eq_true h2), (eq_true h3), (eq_true h4), (eq_true h5)]
          · cases h
            simp -implicitDefEqProofs -dsimp only [go_sem, (eq_true h1), (eq_true h2), (eq_true h3), (eq_true h4), (eq_false h5)]
        · cases h
          simp -implicitDefEqProofs -dsimp only [go_sem, (eq_true h1), (eq_true h2), (eq_true h3), (eq_false h4)]
      · cases h
        simp -implicitDefEqProofs -dsimp only [go_sem, (eq_true h1), (eq_true h2), (eq_false h3)]
    · cases h
      simp -implicitDefEqProofs -dsimp only [go_sem, (eq_true h1), (eq_false h2)]
  · cases h
    simp -implicitDefEqProofs -dsimp only [go_sem, (eq_false h1)]
/- 35 loop.example/g00827/laws.eqTieS -/
def m_laws_eqTieS_L1_St (a : List GTie) (b : List GTie) (i : Int) : St := ⟨[(0, .sl (rowsOf GTie.enc a)), (1, .sl (rowsOf GTie.enc b)), (5, .lit (.int .i64 i))], [], 2⟩
attribute [go_sem] m_laws_eqTieS_L1_St
def hi35 : Hint where
  acts := fun _ => []
  draws := fun
    | 6 => ⟨.cons ⟨0, false, []⟩ (.cons ⟨1, false, []⟩ (.cons ⟨2, false, []⟩ (.cons ⟨3, false, []⟩ (.cons ⟨4, false, []⟩ (.cons ⟨5, false, []⟩ (.cons ⟨6, false, []⟩ (.cons ⟨7, false, []⟩ (.cons ⟨8, false, []⟩ (.cons ⟨9, false, []⟩ .nil))))))))), [[], [], [0, 1], [0, 1, 2], [], [], [4, 5], [4, 5, 6], [0, 1, 2, 3, 4, 5, 6, 7], [0, 1, 2, 3, 4, 5, 6, 7, 8]], [0, 1, 2, 3, 4, 5, 6, 7, 8, 9]⟩
    | _ => ⟨.nil, [], []⟩
theorem hi35a (i : Nat) : hi35.acts i = [] := rfl
theorem hi35v (i : Nat) : hi35.views i = none := rfl
attribute [go_sem] hi35a hi35v Go.Proofs.Tryz.ntmps35 Go.Proofs.Tryz.results35
@[go_sem] theorem hi35d6 : (hi35.draws 6).order = .cons ⟨0, false, []⟩ (.cons ⟨1, false, []⟩ (.cons ⟨2, false, []⟩ (.cons ⟨3, false, []⟩ (.cons ⟨4, false, []⟩ (.cons ⟨5, false, []⟩ (.cons ⟨6, false, []⟩ (.cons ⟨7, false, []⟩ (.cons ⟨8, false, []⟩ (.cons ⟨9, false, []⟩ .nil))))))))) := rfl
theorem c_laws_eqTieS {a : List GTie} {b : List GTie} {res : Bool} (h : m_laws_eqTieS a b = some res) : CallOk Go.Proofs.Tryz.prog 35 [.sl (rowsOf GTie.enc a), .sl (rowsOf GTie.enc b)] [] (.lit (.bool res)) [] := by
  refine callOk_of (ra := []) (md := mdT) hT (hi := hi35) Go.Proofs.Tryz.func35 rfl rfl (by decide +kernel) (by simp) ?_
  unfold m_laws_eqTieS at h
  rcases ite_some h with ⟨h1, h⟩ | ⟨h1, h⟩
  · obtain ⟨q1004, l2, h⟩ := obnd_some h
    simp -implicitDefEqProofs -dsimp only [go_sem, (eq_true h1)]
    refine loopW_loopO (m1 := .mk) (m2 := .mk) [.nf [0, 1, 5] []] (m_laws_eqTieS_L1_St a b) l2 ?_ ?_
    · simp -implicitDefEqProofs -dsimp only [go_sem, (eq_true h1)]
    · intro nb3 sb3 bb3 b3 gb3
      obtain ⟨i_1, eb3⟩ : ∃ v, v = sb3 := ⟨_, rfl⟩; subst eb3
      unfold m_laws_eqTieS_L1 at b3
      try dsimp only at b3
      rcases ite_some b3 with ⟨h4, b3⟩ | ⟨h4, b3⟩
      · obtain ⟨x1001, g5, b3⟩ := obnd_some b3
        obtain ⟨h6, h7, h8⟩ := getI_some g5
        obtain ⟨x1002, g9, b3⟩ := obnd_some b3
        obtain ⟨h10, h11, h12⟩ := getI_some g9
        obtain ⟨r1003, g13, b3⟩ := obnd_some b3
        simp -implicitDefEqProofs -dsimp only [go_sem, (eq_true h1), (eq_true h4), h6, h7, h8, h10, h11, h12]
        refine callW_of (c_laws_eqTie g13) ?_
        rcases ite_some b3 with ⟨h14, b3⟩ | ⟨h14, b3⟩
        · cases b3
          simp -implicitDefEqProofs -dsimp only [go_sem, (eq_true h1), (eq_true h4), h6, h7, h8, h10, h11, h12, (eq_true h14), (condZ_t h14)]
          refine next_of gb3 ?_
          simp -implicitDefEqProofs -dsimp only [go_sem, (eq_true h1), (eq_true h4), h6, h7, h8, h10, h11, h12, (eq_true h14), (condZ_t h14)]
        · cases b3
          have e15 := (done_of gb3).symm
          subst e15
          try dsimp only at h
          cases h
          simp -implicitDefEqProofs -dsimp only [go_sem, (eq_true h1), (eq_true h4), h6, h7, h8, h10, h11, h12, (eq_false h14), (condZ_f h14)]
      · cases b3
        have e16 := (done_of gb3).symm
        subst e16
        try dsimp only at h
        cases h
        simp -implicitDefEqProofs -dsimp only [go_sem, (eq_true h1), (eq_false h4)]
  · cases h
    simp -implicitDefEqProofs -dsimp only [go_sem, (eq_false h1)]
/- 12 loop.example/g00827/laws.eqShow -/
def hi12 : Hint where
  acts := fun _ => []
  draws := fun
    | _ => ⟨.nil, [], []⟩
theorem hi12a (i : Nat) : hi12.acts i = [] := rfl
theorem hi12v (i : Nat) : hi12.views i = none := rfl
attribute [go_sem] hi12a hi12v Go.Proofs.Tryz.ntmps12 Go.Proofs.Tryz.results12
theorem c_laws_eqShow {a : GShow} {b : GShow} {res : Bool} (h : m_laws_eqShow a b = some res) : CallOk Go.Proofs.Tryz.prog 12 [.agg [.sl (rowsOf GNode.encS a.nodes), .sl (rowsOf GTie.enc a.ties), .lit (.int .i64 a.horizon)], .agg [.sl (rowsOf GNode.encS b.nodes), .sl (rowsOf GTie.enc b.ties), .lit (.int .i64 b.horizon)]] [] (.lit (.bool res)) [] := by
  refine callOk_of (ra := []) (md := mdT) hT (hi := hi12) Go.Proofs.Tryz.func12 rfl rfl (by decide +kernel) (by simp) ?_
  unfold m_laws_eqShow at h
  obtain ⟨r1001, g1, h⟩ := obnd_some h
  simp -implicitDefEqProofs -dsimp only [go_sem]
  refine callW_of (c_laws_eqNodeS g1) ?_
  rcases ite_some h with ⟨h2, h⟩ | ⟨h2, h⟩
  · obtain ⟨r1002, g3, h⟩ := obnd_some h
    simp -implicitDefEqProofs -dsimp only [go_sem, (eq_true h2), (condZ_t h2)]
    refine callW_of (c_laws_eqTieS g3) ?_
    rcases ite_some h with ⟨h4, h⟩ | ⟨h4, h⟩
    · rcases ite_some h with ⟨h5, h⟩ | ⟨h5, h⟩
      · cases h
        simp -implicitDefEqProofs -dsimp only [go_sem, (eq_true h2), (condZ_t h2), (eq_true h4), (condZ_t h4), (eq_true h5)]
      · cases h
        simp -implicitDefEqProofs -dsimp only [go_sem, (eq_true h2), (condZ_t h2), (eq_true h4), (condZ_t h4), (eq_false h5)]
    · cases h
      simp -implicitDefEqProofs -dsimp only [go_sem, (eq_true h2), (condZ_t h2), (eq_false h4), (condZ_f h4)]
  · cases h
    simp -implicitDefEqProofs -dsimp only [go_sem, (eq_false h2), (condZ_f h2)]
/- 11 loop.example/g00827/laws.eqState -/
def hi11 : Hint where
  acts := fun _ => []
  draws := fun
    | _ => ⟨.nil, [], []⟩
theorem hi11a (i : Nat) : hi11.acts i = [] := rfl
theorem hi11v (i : Nat) : hi11.views i = none := rfl
attribute [go_sem] hi11a hi11v Go.Proofs.Tryz.ntmps11 Go.Proofs.Tryz.results11
theorem c_laws_eqState {a : GState} {b : GState} {res : Bool} (h : m_laws_eqState a b = some res) : CallOk Go.Proofs.Tryz.prog 11 [.agg [.lit (.int .i64 a.now), .sl (rowsOf eI a.times), .sl (rowsOf eI a.values)], .agg [.lit (.int .i64 b.now), .sl (rowsOf eI b.times), .sl (rowsOf eI b.values)]] [] (.lit (.bool res)) [] := by
  refine callOk_of (ra := []) (md := mdT) hT (hi := hi11) Go.Proofs.Tryz.func11 rfl rfl (by decide +kernel) (by simp) ?_
  unfold m_laws_eqState at h
  rcases ite_some h with ⟨h1, h⟩ | ⟨h1, h⟩
  · obtain ⟨r1001, g2, h⟩ := obnd_some h
    simp -implicitDefEqProofs -dsimp only [go_sem, (eq_true h1)]
    refine callW_of (c_laws_eqIntS g2) ?_
    rcases ite_some h with ⟨h3, h⟩ | ⟨h3, h⟩
    · obtain ⟨r1002, g4, h⟩ := obnd_some h
      simp -implicitDefEqProofs -dsimp only [go_sem, (eq_true h1), (eq_true h3), (condZ_t h3)]
      refine callW_of (c_laws_eqIntS g4) ?_
      rcases ite_some h with ⟨h5, h⟩ | ⟨h5, h⟩
      · cases h
        simp -implicitDefEqProofs -dsimp only [go_sem, (eq_true h1), (eq_true h3), (condZ_t h3), (eq_true h5), (condZ_t h5)]
      · cases h
        simp -implicitDefEqProofs -dsimp only [go_sem, (eq_true h1), (eq_true h3), (condZ_t h3), (eq_false h5), (condZ_f h5)]
    · cases h
      simp -implicitDefEqProofs -dsimp only [go_sem, (eq_true h1), (eq_false h3), (condZ_f h3)]
  · cases h
    simp -implicitDefEqProofs -dsimp only [go_sem, (eq_false h1)]
/- 36 loop.example/g00827/laws.eqEntry -/
def hi36 : Hint where
  acts := fun _ => []
  draws := fun
    | _ => ⟨.nil, [], []⟩
theorem hi36a (i : Nat) : hi36.acts i = [] := rfl
theorem hi36v (i : Nat) : hi36.views i = none := rfl
attribute [go_sem] hi36a hi36v Go.Proofs.Tryz.ntmps36 Go.Proofs.Tryz.results36
theorem c_laws_eqEntry {a : GEntry} {b : GEntry} {res : Bool} (h : m_laws_eqEntry a b = some res) : CallOk Go.Proofs.Tryz.prog 36 [.agg [.lit (.int .i64 a.now), .sl (rowsOf eI a.ties), .sl (rowsOf eI a.nodes), .sl (rowsOf eI a.values)], .agg [.lit (.int .i64 b.now), .sl (rowsOf eI b.ties), .sl (rowsOf eI b.nodes), .sl (rowsOf eI b.values)]] [] (.lit (.bool res)) [] := by
  refine callOk_of (ra := []) (md := mdT) hT (hi := hi36) Go.Proofs.Tryz.func36 rfl rfl (by decide +kernel) (by simp) ?_
  unfold m_laws_eqEntry at h
  rcases ite_some h with ⟨h1, h⟩ | ⟨h1, h⟩
  · obtain ⟨r1001, g2, h⟩ := obnd_some h
    simp -implicitDefEqProofs -dsimp only [go_sem, (eq_true h1)]
    refine callW_of (c_laws_eqIntS g2) ?_
    rcases ite_some h with ⟨h3, h⟩ | ⟨h3, h⟩
    · obtain ⟨r1002, g4, h⟩ := obnd_some h
      simp -implicitDefEqProofs -dsimp only [go_sem, (eq_true h1), (eq_true h3), (condZ_t h3)]
      refine callW_of (c_laws_eqIntS g4) ?_
      rcases ite_some h with ⟨h5, h⟩ | ⟨h5, h⟩
      · obtain ⟨r1003, g6, h⟩ := obnd_some h
        simp -implicitDefEqProofs -dsimp only [go_sem, (eq_true h1), (eq_true h3), (condZ_t h3), (eq_true h5), (condZ_t h5)]
        refine callW_of (c_laws_eqIntS g6) ?_
        rcases ite_some h with ⟨h7, h⟩ | ⟨h7, h⟩
        · cases h
          simp -implicitDefEqProofs -dsimp only [go_sem, (eq_true h1), (eq_true h3), (condZ_t h3), (eq_true h5), (condZ_t h5), (eq_true h7), (condZ_t h7)]
        · cases h
          simp -implicitDefEqProofs -dsimp only [go_sem, (eq_true h1), (eq_true h3), (condZ_t h3), (eq_true h5), (condZ_t h5), (eq_false h7), (condZ_f h7)]
      · cases h
        simp -implicitDefEqProofs -dsimp only [go_sem, (eq_true h1), (eq_true h3), (condZ_t h3), (eq_false h5), (condZ_f h5)]
    · cases h
      simp -implicitDefEqProofs -dsimp only [go_sem, (eq_true h1), (eq_false h3), (condZ_f h3)]
  · cases h
    simp -implicitDefEqProofs -dsimp only [go_sem, (eq_false h1)]
/- 13 loop.example/g00827/laws.eqEntryS -/
def m_laws_eqEntryS_L1_St (a : List GEntry) (b : List GEntry) (i : Int) : St := ⟨[(0, .sl (rowsOf GEntry.encS a)), (1, .sl (rowsOf GEntry.encS b)), (5, .lit (.int .i64 i))], [], 2⟩
attribute [go_sem] m_laws_eqEntryS_L1_St
def hi13 : Hint where
  acts := fun _ => []
  draws := fun
    | 6 => ⟨.cons ⟨0, false, []⟩ (.cons ⟨1, false, []⟩ (.cons ⟨2, false, []⟩ (.cons ⟨3, false, []⟩ (.cons ⟨4, false, []⟩ (.cons ⟨5, false, []⟩ (.cons ⟨6, false, []⟩ (.cons ⟨7, false, []⟩ (.cons ⟨8, false, []⟩ (.cons ⟨9, false, []⟩ .nil))))))))), [[], [], [0, 1], [0, 1, 2], [], [], [4, 5], [4, 5, 6], [0, 1, 2, 3, 4, 5, 6, 7], [0, 1, 2, 3, 4, 5, 6, 7, 8]], [0, 1, 2, 3, 4, 5, 6, 7, 8, 9]⟩
    | _ => ⟨.nil, [], []⟩
theorem hi13a (i : Nat) : hi13.acts i = [] := rfl
theorem hi13v (i : Nat) : hi13.views i = none := rfl
attribute [go_sem] hi13a hi13v Go.Proofs.Tryz.ntmps13 Go.Proofs.Tryz.results13
@[go_sem] theorem hi13d6 : (hi13.draws 6).order = .cons ⟨0, false, []⟩ (.cons ⟨1, false, []⟩ (.cons ⟨2, false, []⟩ (.cons ⟨3, false, []⟩ (.cons ⟨4, false, []⟩ (.cons ⟨5, false, []⟩ (.cons ⟨6, false, []⟩ (.cons ⟨7, false, []⟩ (.cons ⟨8, false, []⟩ (.cons ⟨9, false, []⟩ .nil))))))))) := rfl
theorem c_laws_eqEntryS {a : List GEntry} {b : List GEntry} {res : Bool} (h : m_laws_eqEntryS a b = some res) : CallOk Go.Proofs.Tryz.prog 13 [.sl (rowsOf GEntry.encS a), .sl (rowsOf GEntry.encS b)] [] (.lit (.bool res)) [] := by
  refine callOk_of (ra := []) (md := mdT) hT (hi := hi13) Go.Proofs.Tryz.func13 rfl rfl (by decide +kernel) (by simp) ?_
  unfold m_laws_eqEntryS at h
  rcases ite_some h with ⟨h1, h⟩ | ⟨h1, h⟩
  · obtain ⟨q1004, l2, h⟩ := obnd_some h
    simp -implicitDefEqProofs -dsimp only [go_sem, (eq_true h1)]
    refine loopW_loopO (m1 := .mk) (m2 := .mk) [.nf [0, 1, 5] []] (m_laws_eqEntryS_L1_St a b) l2 ?_ ?_
    · simp -implicitDefEqProofs -dsimp only [go_sem, (eq_true h1)]
    · intro nb3 sb3 bb3 b3 gb3
      obtain ⟨i_1, eb3⟩ : ∃ v, v = sb3 := ⟨_, rfl⟩; subst eb3
      unfold m_laws_eqEntryS_L1 at b3
      try dsimp only at b3
      rcases ite_some b3 with ⟨h4, b3⟩ | ⟨h4, b3⟩
      · obtain ⟨x1001, g5, b3⟩ := obnd_some b3
        obtain ⟨h6, h7, h8⟩ := getI_some g5
        obtain ⟨x1002, g9, b3⟩ := obnd_some b3
        obtain ⟨h10, h11, h12⟩ := getI_some g9
        obtain ⟨r1003, g13, b3⟩ := obnd_some b3
        simp -implicitDefEqProofs -dsimp only [go_sem, (eq_true h1), (eq_true h4), h6, h7, h8, h10, h11, h12]
        refine callW_of (c_laws_eqEntry g13) ?_
        rcases ite_some b3 with ⟨h14, b3⟩ | ⟨h14, b3⟩
        · cases b3
          simp -implicitDefEqProofs -dsimp only [go_sem, (eq_true h1), (eq_true h4), h6, h7, h8, h10, h11, h12, (eq_true h14), (condZ_t h14)]
          refine next_of gb3 ?_
          simp -implicitDefEqProofs -dsimp only [go_sem, (eq_true h1), (eq_true h4), h6, h7, h8, h10, h11, h12, (eq_true h14), (condZ_t h14)]
        · cases b3
          have e15 := (done_of gb3).symm
          subst e15
          try dsimp only at h
          cases h
          simp -implicitDefEqProofs -dsimp only [go_sem, (eq_true h1), (eq_true h4), h6, h7, h8, h10, h11, h12, (eq_false h14), (condZ_f h14)]
      · cases b3
        have e16 := (done_of gb3).symm
        subst e16
        try dsimp only at h
        cases h
        simp -implicitDefEqProofs -dsimp only [go_sem, (eq_true h1), (eq_false h4)]
  · cases h
    simp -implicitDefEqProofs -dsimp only [go_sem, (eq_false h1)]
/- 22 loop.example/g00827/laws.eqDesk -/
def hi22 : Hint where
  acts := fun _ => []
  draws := fun
    | _ => ⟨.nil, [], []⟩
theorem hi22a (i : Nat) : hi22.acts i = [] := rfl
theorem hi22v (i : Nat) : hi22.views i = none := rfl
attribute [go_sem] hi22a hi22v Go.Proofs.Tryz.ntmps22 Go.Proofs.Tryz.results22
theorem c_laws_eqDesk {a : GDesk} {b : GDesk} {res : Bool} (h : m_laws_eqDesk a b = some res) : CallOk Go.Proofs.Tryz.prog 22 [.agg [.sl (rowsOf GNode.encS a.show_.nodes), .sl (rowsOf GTie.enc a.show_.ties), .lit (.int .i64 a.show_.horizon), .lit (.int .i64 a.state.now), .sl (rowsOf eI a.state.times), .sl (rowsOf eI a.state.values), .lit (.bool a.lazy), .sl (rowsOf GEntry.encS a.log)], .agg [.sl (rowsOf GNode.encS b.show_.nodes), .sl (rowsOf GTie.enc b.show_.ties), .lit (.int .i64 b.show_.horizon), .lit (.int .i64 b.state.now), .sl (rowsOf eI b.state.times), .sl (rowsOf eI b.state.values), .lit (.bool b.lazy), .sl (rowsOf GEntry.encS b.log)]] [] (.lit (.bool res)) [] := by
  refine callOk_of (ra := []) (md := mdT) hT (hi := hi22) Go.Proofs.Tryz.func22 rfl rfl (by decide +kernel) (by simp) ?_
  unfold m_laws_eqDesk at h
  obtain ⟨r1001, g1, h⟩ := obnd_some h
  simp -implicitDefEqProofs -dsimp only [go_sem]
  refine callW_of (c_laws_eqShow g1) ?_
  rcases ite_some h with ⟨h2, h⟩ | ⟨h2, h⟩
  · obtain ⟨r1002, g3, h⟩ := obnd_some h
    simp -implicitDefEqProofs -dsimp only [go_sem, (eq_true h2), (condZ_t h2)]
    refine callW_of (c_laws_eqState g3) ?_
    rcases ite_some h with ⟨h4, h⟩ | ⟨h4, h⟩
    · rcases ite_some h with ⟨h5, h⟩ | ⟨h5, h⟩
      · obtain ⟨r1003, g6, h⟩ := obnd_some h
        simp -implicitDefEqProofs -dsimp only [go_sem, (eq_true h2), (condZ_t h2), (eq_true h4), (condZ_t h4), (eq_true h5)]
        refine callW_of (c_laws_eqEntryS g6) ?_
        rcases ite_some h with ⟨h7, h⟩ | ⟨h7, h⟩
        · cases h
          simp -implicitDefEqProofs -dsimp only [go_sem, (eq_true h2), (condZ_t h2), (eq_true h4), (condZ_t h4), (eq_true h5), (eq_true h7), (condZ_t h7)]
        · cases h
          simp -implicitDefEqProofs -dsimp only [go_sem, (eq_true h2), (condZ_t h2), (eq_true h4), (condZ_t h4), (eq_true h5), (eq_false h7), (condZ_f h7)]
      · cases h
        simp -implicitDefEqProofs -dsimp only [go_sem, (eq_true h2), (condZ_t h2), (eq_true h4), (condZ_t h4), (eq_false h5)]
    · cases h
      simp -implicitDefEqProofs -dsimp only [go_sem, (eq_true h2), (condZ_t h2), (eq_false h4), (condZ_f h4)]
  · cases h
    simp -implicitDefEqProofs -dsimp only [go_sem, (eq_false h2), (condZ_f h2)]
/- 4 loop.example/g00827/laws.FnExactDeskOk -/
def hi4 : Hint where
  acts := fun _ => []
  draws := fun
    | 10 => ⟨.cons ⟨0, true, []⟩ (.cons ⟨1, false, []⟩ (.cons ⟨2, false, [0]⟩ (.cons ⟨3, false, []⟩ (.cons ⟨4, false, []⟩ .nil)))), [[], [], [1], [0, 1, 2], [0, 1, 2, 3]], [0, 1, 2, 3, 4]⟩
    | _ => ⟨.nil, [], []⟩
theorem hi4a (i : Nat) : hi4.acts i = [] := rfl
theorem hi4v (i : Nat) : hi4.views i = none := rfl
attribute [go_sem] hi4a hi4v Go.Proofs.Tryz.ntmps4 Go.Proofs.Tryz.results4
@[go_sem] theorem hi4d10 : (hi4.draws 10).order = .cons ⟨0, true, []⟩ (.cons ⟨1, false, []⟩ (.cons ⟨2, false, [0]⟩ (.cons ⟨3, false, []⟩ (.cons ⟨4, false, []⟩ .nil)))) := rfl
theorem c_laws_FnExactDeskOk {aD : GDesk} {res : Bool} (h : m_laws_FnExactDeskOk aD = some res) : CallOk Go.Proofs.Tryz.prog 4 [.agg [.sl (rowsOf GNode.encS aD.show_.nodes), .sl (rowsOf GTie.enc aD.show_.ties), .lit (.int .i64 aD.show_.horizon), .lit (.int .i64 aD.state.now), .sl (rowsOf eI aD.state.times), .sl (rowsOf eI aD.state.values), .lit (.bool aD.lazy), .sl (rowsOf GEntry.encS aD.log)]] [] (.lit (.bool res)) [] := by
  refine callOk_of (ra := []) (md := mdT) hT (hi := hi4) Go.Proofs.Tryz.func4 rfl rfl (by decide +kernel) (by simp) ?_
  unfold m_laws_FnExactDeskOk at h
  obtain ⟨r1001, g1, h⟩ := obnd_some h
  simp -implicitDefEqProofs -dsimp only [go_sem]
  refine callW_of (c_laws_szDesk g1) ?_
  rcases ite_some h with ⟨h2, h⟩ | ⟨h2, h⟩
  · cases h
    simp -implicitDefEqProofs -dsimp only [go_sem, (eq_true h2)]
  · obtain ⟨r1002, g3, h⟩ := obnd_some h
    simp -implicitDefEqProofs -dsimp only [go_sem, (eq_false h2)]
    refine callW_of (c_laws_toDesk g3) ?_
    obtain ⟨r1003, g4, h⟩ := obnd_some h
    simp -implicitDefEqProofs -dsimp only [go_sem, (eq_false h2)]
    refine callW_of (c_spec_DeskOk g4) ?_
    obtain ⟨r1004, g5, h⟩ := obnd_some h
    simp -implicitDefEqProofs -dsimp only [go_sem, (eq_false h2)]
    refine callW_of (c_laws_toDesk g5) ?_
    obtain ⟨r1005, g6, h⟩ := obnd_some h
    simp -implicitDefEqProofs -dsimp only [go_sem, (eq_false h2)]
    refine callW_of (c_impl_DeskOk g6) ?_
    rcases ite_some h with ⟨h7, h⟩ | ⟨h7, h⟩
    · obtain ⟨r1006, g8, h⟩ := obnd_some h
      simp -implicitDefEqProofs -dsimp only [go_sem, (eq_false h2), (eq_true h7)]
      refine callW_of (c_laws_toDesk g8) ?_
      obtain ⟨r1007, g9, h⟩ := obnd_some h
      simp -implicitDefEqProofs -dsimp only [go_sem, (eq_false h2), (eq_true h7)]
      refine callW_of (c_laws_eqDesk g9) ?_
      rcases ite_some h with ⟨h10, h⟩ | ⟨h10, h⟩
      · cases h
        simp -implicitDefEqProofs -dsimp only [go_sem, (eq_false h2), (eq_true h7), (eq_true h10), (condZ_t h10)]
      · cases h
        simp -implicitDefEqProofs -dsimp only [go_sem, (eq_false h2), (eq_true h7), (eq_false h10), (condZ_f h10)]
    · cases h
      simp -implicitDefEqProofs -dsimp only [go_sem, (eq_false h2), (eq_false h7)]
end Go.Proofs.YteijmljgodikiaaGreatZ
