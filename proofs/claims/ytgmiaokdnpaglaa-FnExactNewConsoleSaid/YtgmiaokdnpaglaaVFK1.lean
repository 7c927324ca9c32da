/- Functions. -/
import Derived.Test.YtgmiaokdnpaglaaVFK0
set_option linter.all false
set_option linter.unusedVariables false
set_option linter.unusedSimpArgs false
set_option maxRecDepth 100000
set_option maxHeartbeats 400000
namespace Go.Proofs.YtgmiaokdnpaglaaV
open Go
/- 173 loop.example/g00827/impl.areShown$1 -/
def hi173 : Hint where
  acts := fun _ => []
  draws := fun
    | _ => ⟨[], [], []⟩
theorem hi173a (i : Nat) : hi173.acts i = [] := rfl
theorem hi173v (i : Nat) : hi173.views i = none := rfl
attribute [go_sem] hi173a hi173v Go.Proofs.Try.ntmps173 Go.Proofs.Try.results173
theorem c_impl_areShown_c1 {n : Int} {res : Bool} (h : m_impl_areShown_c1 n = some res) : CallOk Go.Proofs.Try.prog 173 [.lit (.int .i64 n)] [] (.lit (.bool res)) [] := by
  refine callOk_of (ra := []) (md := mdT) hT (hi := hi173) Go.Proofs.Try.func173 rfl rfl (by decide +kernel) (by simp) ?_
  unfold m_impl_areShown_c1 at h
  rcases ite_some h with ⟨h1, h⟩ | ⟨h1, h⟩
  · cases h
    simp -implicitDefEqProofs -dsimp only [go_sem, ↓reduceIte, ↓dreduceIte, reduceCtorEq, Nat.reduceMul, Nat.reduceAdd, Nat.reduceSub, Nat.reduceDiv, Nat.reduceLT, Nat.reduceLeDiff, Nat.reduceEqDiff, Nat.reduceBEq, Int.reduceNeg, Int.reduceLT, Int.reduceLE, Int.reduceEq, Int.reduceToNat, (eq_true h1)]
  · cases h
    simp -implicitDefEqProofs -dsimp only [go_sem, ↓reduceIte, ↓dreduceIte, reduceCtorEq, Nat.reduceMul, Nat.reduceAdd, Nat.reduceSub, Nat.reduceDiv, Nat.reduceLT, Nat.reduceLeDiff, Nat.reduceEqDiff, Nat.reduceBEq, Int.reduceNeg, Int.reduceLT, Int.reduceLE, Int.reduceEq, Int.reduceToNat, (eq_false h1)]
/- 108 loop.example/g00827/impl.areShown -/
def hi108 : Hint where
  acts := fun _ => []
  draws := fun
    | _ => ⟨[], [], []⟩
theorem hi108a (i : Nat) : hi108.acts i = [] := rfl
theorem hi108v (i : Nat) : hi108.views i = none := rfl
attribute [go_sem] hi108a hi108v Go.Proofs.Try.ntmps108 Go.Proofs.Try.results108
theorem c_impl_areShown {s : GShow} {times : List Int} {res : Bool} (h : m_impl_areShown s times = some res) : CallOk Go.Proofs.Try.prog 108 [.agg [.sl (rowsOf GNode.encS s.nodes), .sl (rowsOf GTie.enc s.ties), .lit (.int .i64 s.horizon)], .sl (rowsOf eI times)] [] (.lit (.bool res)) [] := by
  refine callOk_of (ra := []) (md := mdT) hT (hi := hi108) Go.Proofs.Try.func108 rfl rfl (by decide +kernel) (by simp) ?_
  unfold m_impl_areShown at h
  obtain ⟨r1001, g1, h⟩ := obnd_some h
  simp -implicitDefEqProofs -dsimp only [go_sem, ↓reduceIte, ↓dreduceIte, reduceCtorEq, Nat.reduceMul, Nat.reduceAdd, Nat.reduceSub, Nat.reduceDiv, Nat.reduceLT, Nat.reduceLeDiff, Nat.reduceEqDiff, Nat.reduceBEq, Int.reduceNeg, Int.reduceLT, Int.reduceLE, Int.reduceEq, Int.reduceToNat]
  refine callW_of (c_impl_ShowOk g1) ?_
  rcases ite_some h with ⟨h2, h⟩ | ⟨h2, h⟩
  · rcases ite_some h with ⟨h3, h⟩ | ⟨h3, h⟩
    · obtain ⟨r1002, g4, h⟩ := obnd_some h
      simp -implicitDefEqProofs -dsimp only [go_sem, ↓reduceIte, ↓dreduceIte, reduceCtorEq, Nat.reduceMul, Nat.reduceAdd, Nat.reduceSub, Nat.reduceDiv, Nat.reduceLT, Nat.reduceLeDiff, Nat.reduceEqDiff, Nat.reduceBEq, Int.reduceNeg, Int.reduceLT, Int.reduceLE, Int.reduceEq, Int.reduceToNat, (eq_true h2), (condZ_t h2), (eq_true h3)]
      refine callW_of (c_slices_ContainsFunc_int (by exact fun _ _ hr => c_impl_areShown_c1 hr) (by refine ⟨fun _ => ?_, fun _ => ?_⟩ <;> simp only [go_sem]) (by rfl) g4) ?_
      cases h
      simp -implicitDefEqProofs -dsimp only [go_sem, ↓reduceIte, ↓dreduceIte, reduceCtorEq, Nat.reduceMul, Nat.reduceAdd, Nat.reduceSub, Nat.reduceDiv, Nat.reduceLT, Nat.reduceLeDiff, Nat.reduceEqDiff, Nat.reduceBEq, Int.reduceNeg, Int.reduceLT, Int.reduceLE, Int.reduceEq, Int.reduceToNat, (eq_true h2), (condZ_t h2), (eq_true h3)]
    · cases h
      simp -implicitDefEqProofs -dsimp only [go_sem, ↓reduceIte, ↓dreduceIte, reduceCtorEq, Nat.reduceMul, Nat.reduceAdd, Nat.reduceSub, Nat.reduceDiv, Nat.reduceLT, Nat.reduceLeDiff, Nat.reduceEqDiff, Nat.reduceBEq, Int.reduceNeg, Int.reduceLT, Int.reduceLE, Int.reduceEq, Int.reduceToNat, (eq_true h2), (condZ_t h2), (eq_false h3)]
  · cases h
    simp -implicitDefEqProofs -dsimp only [go_sem, ↓reduceIte, ↓dreduceIte, reduceCtorEq, Nat.reduceMul, Nat.reduceAdd, Nat.reduceSub, Nat.reduceDiv, Nat.reduceLT, Nat.reduceLeDiff, Nat.reduceEqDiff, Nat.reduceBEq, Int.reduceNeg, Int.reduceLT, Int.reduceLE, Int.reduceEq, Int.reduceToNat, (eq_false h2), (condZ_f h2)]
/- 35 loop.example/g00827/impl.BrokenTies -/
def m_impl_BrokenTies_L1_St (times : List Int) (v15 : List GTie) (v16 : Int) : (Int × (List Int)) → St
  | (v17, out) => ⟨[(1, .sl (rowsOf eI times)), (5, .ref 383 1 0 out.length), (15, .sl (rowsOf GTie.enc v15)), (16, .lit (.int .i64 v16)), (17, .lit (.int .i64 v17))], [(383, 1, .row true (rowsOf eI out))], 2⟩
attribute [go_sem] m_impl_BrokenTies_L1_St
def hi35 : Hint where
  acts := fun _ => []
  draws := fun
    | 7 => ⟨[⟨0, false, []⟩, ⟨1, false, []⟩, ⟨2, false, []⟩, ⟨3, false, []⟩, ⟨4, false, []⟩, ⟨5, false, []⟩, ⟨6, false, []⟩, ⟨7, false, []⟩, ⟨8, false, []⟩, ⟨9, false, []⟩, ⟨10, false, []⟩, ⟨11, false, []⟩], [[], [], [1], [0, 1, 2], [0, 1, 2, 3], [], [], [6], [5, 6, 7], [5, 6, 7, 8], [0, 1, 2, 3, 4], [0, 1, 2, 3, 4, 5, 6, 7, 8, 9, 10]], [0, 1, 2, 3, 4, 6, 7, 8, 9, 10, 5, 11]⟩
    | _ => ⟨[], [], []⟩
theorem hi35a (i : Nat) : hi35.acts i = [] := rfl
theorem hi35v (i : Nat) : hi35.views i = none := rfl
attribute [go_sem] hi35a hi35v Go.Proofs.Try.ntmps35 Go.Proofs.Try.results35
@[go_sem] theorem hi35d7 : (hi35.draws 7).order = [⟨0, false, []⟩, ⟨1, false, []⟩, ⟨2, false, []⟩, ⟨3, false, []⟩, ⟨4, false, []⟩, ⟨5, false, []⟩, ⟨6, false, []⟩, ⟨7, false, []⟩, ⟨8, false, []⟩, ⟨9, false, []⟩, ⟨10, false, []⟩, ⟨11, false, []⟩] := rfl
theorem c_impl_BrokenTies {s : GShow} {times : List Int} {res : List Int} (h : m_impl_BrokenTies s times = some res) : CallOk Go.Proofs.Try.prog 35 [.agg [.sl (rowsOf GNode.encS s.nodes), .sl (rowsOf GTie.enc s.ties), .lit (.int .i64 s.horizon)], .sl (rowsOf eI times)] [] (.ref 20000 1 0 res.length) [(20000, 1, .row true (rowsOf eI res))] := by
  refine callOk_of (ra := [.home 4]) (md := mdT) hT (hi := hi35) Go.Proofs.Try.func35 rfl rfl (by decide +kernel) (by simp) ?_
  unfold m_impl_BrokenTies at h
  obtain ⟨r1001, g1, h⟩ := obnd_some h
  simp -implicitDefEqProofs -dsimp only [go_sem, ↓reduceIte, ↓dreduceIte, reduceCtorEq, Nat.reduceMul, Nat.reduceAdd, Nat.reduceSub, Nat.reduceDiv, Nat.reduceLT, Nat.reduceLeDiff, Nat.reduceEqDiff, Nat.reduceBEq, Int.reduceNeg, Int.reduceLT, Int.reduceLE, Int.reduceEq, Int.reduceToNat]
  refine callW_of (c_impl_areShown g1) ?_
  rcases ite_some h with ⟨h2, h⟩ | ⟨h2, h⟩
  · obtain ⟨q1005, l3, h⟩ := obnd_some h
    simp -implicitDefEqProofs -dsimp only [go_sem, ↓reduceIte, ↓dreduceIte, reduceCtorEq, Nat.reduceMul, Nat.reduceAdd, Nat.reduceSub, Nat.reduceDiv, Nat.reduceLT, Nat.reduceLeDiff, Nat.reduceEqDiff, Nat.reduceBEq, Int.reduceNeg, Int.reduceLT, Int.reduceLE, Int.reduceEq, Int.reduceToNat, (eq_true h2), (condZ_t h2)]
    refine loopW_loopO (m1 := .mk) (m2 := .mk) [.home 5, .nf [1, 5, 15, 16, 17] [383]] (m_impl_BrokenTies_L1_St times s.ties ((s.ties.length : Nat) : Int)) l3 ?_ ?_
    · simp -implicitDefEqProofs -dsimp only [go_sem, ↓reduceIte, ↓dreduceIte, reduceCtorEq, Nat.reduceMul, Nat.reduceAdd, Nat.reduceSub, Nat.reduceDiv, Nat.reduceLT, Nat.reduceLeDiff, Nat.reduceEqDiff, Nat.reduceBEq, Int.reduceNeg, Int.reduceLT, Int.reduceLE, Int.reduceEq, Int.reduceToNat, (eq_true h2), (condZ_t h2)]
    · intro nb4 sb4 bb4 b4 gb4
      obtain ⟨v17_1, out_1⟩ := sb4
      unfold m_impl_BrokenTies_L1 at b4
      try dsimp only at b4
      rcases ite_some b4 with ⟨h5, b4⟩ | ⟨h5, b4⟩
      · obtain ⟨x1002, g6, b4⟩ := obnd_some b4
        obtain ⟨h7, h8, h9⟩ := getI_some g6
        obtain ⟨x1003, g10, b4⟩ := obnd_some b4
        obtain ⟨h11, h12, h13⟩ := getI_some g10
        obtain ⟨x1004, g14, b4⟩ := obnd_some b4
        obtain ⟨h15, h16, h17⟩ := getI_some g14
        rcases ite_some b4 with ⟨h18, b4⟩ | ⟨h18, b4⟩
        · cases b4
          simp -implicitDefEqProofs -dsimp only [go_sem, ↓reduceIte, ↓dreduceIte, reduceCtorEq, Nat.reduceMul, Nat.reduceAdd, Nat.reduceSub, Nat.reduceDiv, Nat.reduceLT, Nat.reduceLeDiff, Nat.reduceEqDiff, Nat.reduceBEq, Int.reduceNeg, Int.reduceLT, Int.reduceLE, Int.reduceEq, Int.reduceToNat, (eq_true h2), (condZ_t h2), (eq_true h5), h7, h8, h9, h11, h12, h13, h15, h16, h17, (eq_true h18)]
          refine next_of gb4 ?_
          simp -implicitDefEqProofs -dsimp only [go_sem, ↓reduceIte, ↓dreduceIte, reduceCtorEq, Nat.reduceMul, Nat.reduceAdd, Nat.reduceSub, Nat.reduceDiv, Nat.reduceLT, Nat.reduceLeDiff, Nat.reduceEqDiff, Nat.reduceBEq, Int.reduceNeg, Int.reduceLT, Int.reduceLE, Int.reduceEq, Int.reduceToNat, (eq_true h2), (condZ_t h2), (eq_true h5), h7, h8, h9, h11, h12, h13, h15, h16, h17, (eq_true h18)]
        · rcases ite_some b4 with ⟨h19, b4⟩ | ⟨h19, b4⟩
          · cases b4
            simp -implicitDefEqProofs -dsimp only [go_sem, ↓reduceIte, ↓dreduceIte, reduceCtorEq, Nat.reduceMul, Nat.reduceAdd, Nat.reduceSub, Nat.reduceDiv, Nat.reduceLT, Nat.reduceLeDiff, Nat.reduceEqDiff, Nat.reduceBEq, Int.reduceNeg, Int.reduceLT, Int.reduceLE, Int.reduceEq, Int.reduceToNat, (eq_true h2), (condZ_t h2), (eq_true h5), h7, h8, h9, h11, h12, h13, h15, h16, h17, (eq_false h18), (eq_true h19)]
            refine next_of gb4 ?_
            simp -implicitDefEqProofs -dsimp only [go_sem, ↓reduceIte, ↓dreduceIte, reduceCtorEq, Nat.reduceMul, Nat.reduceAdd, Nat.reduceSub, Nat.reduceDiv, Nat.reduceLT, Nat.reduceLeDiff, Nat.reduceEqDiff, Nat.reduceBEq, Int.reduceNeg, Int.reduceLT, Int.reduceLE, Int.reduceEq, Int.reduceToNat, (eq_true h2), (condZ_t h2), (eq_true h5), h7, h8, h9, h11, h12, h13, h15, h16, h17, (eq_false h18), (eq_true h19)]
          · rcases ite_some b4 with ⟨h20, b4⟩ | ⟨h20, b4⟩
            · obtain ⟨h21, b4⟩ := chk_some b4
              obtain ⟨h22, b4⟩ := chk_some b4
              cases b4
              simp -implicitDefEqProofs -dsimp only [go_sem, ↓reduceIte, ↓dreduceIte, reduceCtorEq, Nat.reduceMul, Nat.reduceAdd, Nat.reduceSub, Nat.reduceDiv, Nat.reduceLT, Nat.reduceLeDiff, Nat.reduceEqDiff, Nat.reduceBEq, Int.reduceNeg, Int.reduceLT, Int.reduceLE, Int.reduceEq, Int.reduceToNat, (eq_true h2), (condZ_t h2), (eq_true h5), h7, h8, h9, h11, h12, h13, h15, h16, h17, (eq_false h18), (eq_false h19), (eq_true h20), (eq_true h21), (eq_true h22)]
              refine next_of gb4 ?_
              simp -implicitDefEqProofs -dsimp only [go_sem, ↓reduceIte, ↓dreduceIte, reduceCtorEq, Nat.reduceMul, Nat.reduceAdd, Nat.reduceSub, Nat.reduceDiv, Nat.reduceLT, Nat.reduceLeDiff, Nat.reduceEqDiff, Nat.reduceBEq, Int.reduceNeg, Int.reduceLT, Int.reduceLE, Int.reduceEq, Int.reduceToNat, (eq_true h2), (condZ_t h2), (eq_true h5), h7, h8, h9, h11, h12, h13, h15, h16, h17, (eq_false h18), (eq_false h19), (eq_true h20), (eq_true h21), (eq_true h22)]
            · rcases ite_some b4 with ⟨h23, b4⟩ | ⟨h23, b4⟩
              · obtain ⟨h24, b4⟩ := chk_some b4
                obtain ⟨h25, b4⟩ := chk_some b4
                cases b4
                simp -implicitDefEqProofs -dsimp only [go_sem, ↓reduceIte, ↓dreduceIte, reduceCtorEq, Nat.reduceMul, Nat.reduceAdd, Nat.reduceSub, Nat.reduceDiv, Nat.reduceLT, Nat.reduceLeDiff, Nat.reduceEqDiff, Nat.reduceBEq, Int.reduceNeg, Int.reduceLT, Int.reduceLE, Int.reduceEq, Int.reduceToNat, (eq_true h2), (condZ_t h2), (eq_true h5), h7, h8, h9, h11, h12, h13, h15, h16, h17, (eq_false h18), (eq_false h19), (eq_false h20), (eq_true h23), (eq_true h24), (eq_true h25)]
                refine next_of gb4 ?_
                simp -implicitDefEqProofs -dsimp only [go_sem, ↓reduceIte, ↓dreduceIte, reduceCtorEq, Nat.reduceMul, Nat.reduceAdd, Nat.reduceSub, Nat.reduceDiv, Nat.reduceLT, Nat.reduceLeDiff, Nat.reduceEqDiff, Nat.reduceBEq, Int.reduceNeg, Int.reduceLT, Int.reduceLE, Int.reduceEq, Int.reduceToNat, (eq_true h2), (condZ_t h2), (eq_true h5), h7, h8, h9, h11, h12, h13, h15, h16, h17, (eq_false h18), (eq_false h19), (eq_false h20), (eq_true h23), (eq_true h24), (eq_true h25)]
              · cases b4
                simp -implicitDefEqProofs -dsimp only [go_sem, ↓reduceIte, ↓dreduceIte, reduceCtorEq, Nat.reduceMul, Nat.reduceAdd, Nat.reduceSub, Nat.reduceDiv, Nat.reduceLT, Nat.reduceLeDiff, Nat.reduceEqDiff, Nat.reduceBEq, Int.reduceNeg, Int.reduceLT, Int.reduceLE, Int.reduceEq, Int.reduceToNat, (eq_true h2), (condZ_t h2), (eq_true h5), h7, h8, h9, h11, h12, h13, h15, h16, h17, (eq_false h18), (eq_false h19), (eq_false h20), (eq_false h23)]
                refine next_of gb4 ?_
                simp -implicitDefEqProofs -dsimp only [go_sem, ↓reduceIte, ↓dreduceIte, reduceCtorEq, Nat.reduceMul, Nat.reduceAdd, Nat.reduceSub, Nat.reduceDiv, Nat.reduceLT, Nat.reduceLeDiff, Nat.reduceEqDiff, Nat.reduceBEq, Int.reduceNeg, Int.reduceLT, Int.reduceLE, Int.reduceEq, Int.reduceToNat, (eq_true h2), (condZ_t h2), (eq_true h5), h7, h8, h9, h11, h12, h13, h15, h16, h17, (eq_false h18), (eq_false h19), (eq_false h20), (eq_false h23)]
      · cases b4
        have e26 := done_of gb4
        subst e26
        try dsimp only at h
        cases h
        simp -implicitDefEqProofs -dsimp only [go_sem, ↓reduceIte, ↓dreduceIte, reduceCtorEq, Nat.reduceMul, Nat.reduceAdd, Nat.reduceSub, Nat.reduceDiv, Nat.reduceLT, Nat.reduceLeDiff, Nat.reduceEqDiff, Nat.reduceBEq, Int.reduceNeg, Int.reduceLT, Int.reduceLE, Int.reduceEq, Int.reduceToNat, (eq_true h2), (condZ_t h2), (eq_false h5)]
  · cases h
    simp -implicitDefEqProofs -dsimp only [go_sem, ↓reduceIte, ↓dreduceIte, reduceCtorEq, Nat.reduceMul, Nat.reduceAdd, Nat.reduceSub, Nat.reduceDiv, Nat.reduceLT, Nat.reduceLeDiff, Nat.reduceEqDiff, Nat.reduceBEq, Int.reduceNeg, Int.reduceLT, Int.reduceLE, Int.reduceEq, Int.reduceToNat, (eq_false h2), (condZ_f h2)]
/- 23 loop.example/g00827/laws.eqIntS -/
def m_laws_eqIntS_L1_St (a : List Int) (b : List Int) (i : Int) : St := ⟨[(0, .sl (rowsOf eI a)), (1, .sl (rowsOf eI b)), (5, .lit (.int .i64 i))], [], 2⟩
attribute [go_sem] m_laws_eqIntS_L1_St
def hi23 : Hint where
  acts := fun _ => []
  draws := fun
    | 6 => ⟨[⟨0, false, []⟩, ⟨1, false, []⟩, ⟨2, false, []⟩, ⟨3, false, []⟩, ⟨4, false, []⟩, ⟨5, false, []⟩, ⟨6, false, []⟩, ⟨7, false, []⟩, ⟨8, false, []⟩], [[], [], [0, 1], [0, 1, 2], [], [], [4, 5], [4, 5, 6], [0, 1, 2, 3, 4, 5, 6, 7]], [0, 1, 2, 3, 4, 5, 6, 7, 8]⟩
    | _ => ⟨[], [], []⟩
theorem hi23a (i : Nat) : hi23.acts i = [] := rfl
theorem hi23v (i : Nat) : hi23.views i = none := rfl
attribute [go_sem] hi23a hi23v Go.Proofs.Try.ntmps23 Go.Proofs.Try.results23
@[go_sem] theorem hi23d6 : (hi23.draws 6).order = [⟨0, false, []⟩, ⟨1, false, []⟩, ⟨2, false, []⟩, ⟨3, false, []⟩, ⟨4, false, []⟩, ⟨5, false, []⟩, ⟨6, false, []⟩, ⟨7, false, []⟩, ⟨8, false, []⟩] := rfl
theorem c_laws_eqIntS {a : List Int} {b : List Int} {res : Bool} (h : m_laws_eqIntS a b = some res) : CallOk Go.Proofs.Try.prog 23 [.sl (rowsOf eI a), .sl (rowsOf eI b)] [] (.lit (.bool res)) [] := by
  refine callOk_of (ra := []) (md := mdT) hT (hi := hi23) Go.Proofs.Try.func23 rfl rfl (by decide +kernel) (by simp) ?_
  unfold m_laws_eqIntS at h
  rcases ite_some h with ⟨h1, h⟩ | ⟨h1, h⟩
  · obtain ⟨q1003, l2, h⟩ := obnd_some h
    simp -implicitDefEqProofs -dsimp only [go_sem, ↓reduceIte, ↓dreduceIte, reduceCtorEq, Nat.reduceMul, Nat.reduceAdd, Nat.reduceSub, Nat.reduceDiv, Nat.reduceLT, Nat.reduceLeDiff, Nat.reduceEqDiff, Nat.reduceBEq, Int.reduceNeg, Int.reduceLT, Int.reduceLE, Int.reduceEq, Int.reduceToNat, (eq_true h1)]
    refine loopW_loopO (m1 := .mk) (m2 := .mk) [.nf [0, 1, 5] []] (m_laws_eqIntS_L1_St a b) l2 ?_ ?_
    · simp -implicitDefEqProofs -dsimp only [go_sem, ↓reduceIte, ↓dreduceIte, reduceCtorEq, Nat.reduceMul, Nat.reduceAdd, Nat.reduceSub, Nat.reduceDiv, Nat.reduceLT, Nat.reduceLeDiff, Nat.reduceEqDiff, Nat.reduceBEq, Int.reduceNeg, Int.reduceLT, Int.reduceLE, Int.reduceEq, Int.reduceToNat, (eq_true h1)]
    · intro nb3 sb3 bb3 b3 gb3
      obtain ⟨i_1, eb3⟩ : ∃ v, v = sb3 := ⟨_, rfl⟩; subst eb3
      unfold m_laws_eqIntS_L1 at b3
      try dsimp only at b3
      rcases ite_some b3 with ⟨h4, b3⟩ | ⟨h4, b3⟩
      · obtain ⟨x1001, g5, b3⟩ := obnd_some b3
        obtain ⟨h6, h7, h8⟩ := getI_some g5
        obtain ⟨x1002, g9, b3⟩ := obnd_some b3
        obtain ⟨h10, h11, h12⟩ := getI_some g9
        rcases ite_some b3 with ⟨h13, b3⟩ | ⟨h13, b3⟩
        · cases b3
          simp -implicitDefEqProofs -dsimp only [go_sem, ↓reduceIte, ↓dreduceIte, reduceCtorEq, Nat.reduceMul, Nat.reduceAdd, Nat.reduceSub, Nat.reduceDiv, Nat.reduceLT, Nat.reduceLeDiff, Nat.reduceEqDiff, Nat.reduceBEq, Int.reduceNeg, Int.reduceLT, Int.reduceLE, Int.reduceEq, Int.reduceToNat, (eq_true h1), (eq_true h4), h6, h7, h8, h10, h11, h12, (eq_true h13)]
          refine next_of gb3 ?_
          simp -implicitDefEqProofs -dsimp only [go_sem, ↓reduceIte, ↓dreduceIte, reduceCtorEq, Nat.reduceMul, Nat.reduceAdd, Nat.reduceSub, Nat.reduceDiv, Nat.reduceLT, Nat.reduceLeDiff, Nat.reduceEqDiff, Nat.reduceBEq, Int.reduceNeg, Int.reduceLT, Int.reduceLE, Int.reduceEq, Int.reduceToNat, (eq_true h1), (eq_true h4), h6, h7, h8, h10, h11, h12, (eq_true h13)]
        · cases b3
          have e14 := done_of gb3
          subst e14
          try dsimp only at h
          cases h
          simp -implicitDefEqProofs -dsimp only [go_sem, ↓reduceIte, ↓dreduceIte, reduceCtorEq, Nat.reduceMul, Nat.reduceAdd, Nat.reduceSub, Nat.reduceDiv, Nat.reduceLT, Nat.reduceLeDiff, Nat.reduceEqDiff, Nat.reduceBEq, Int.reduceNeg, Int.reduceLT, Int.reduceLE, Int.reduceEq, Int.reduceToNat, (eq_true h1), (eq_true h4), h6, h7, h8, h10, h11, h12, (eq_false h13)]
      · cases b3
        have e15 := done_of gb3
        subst e15
        try dsimp only at h
        cases h
        simp -implicitDefEqProofs -dsimp only [go_sem, ↓reduceIte, ↓dreduceIte, reduceCtorEq, Nat.reduceMul, Nat.reduceAdd, Nat.reduceSub, Nat.reduceDiv, Nat.reduceLT, Nat.reduceLeDiff, Nat.reduceEqDiff, Nat.reduceBEq, Int.reduceNeg, Int.reduceLT, Int.reduceLE, Int.reduceEq, Int.reduceToNat, (eq_true h1), (eq_false h4)]
  · cases h
    simp -implicitDefEqProofs -dsimp only [go_sem, ↓reduceIte, ↓dreduceIte, reduceCtorEq, Nat.reduceMul, Nat.reduceAdd, Nat.reduceSub, Nat.reduceDiv, Nat.reduceLT, Nat.reduceLeDiff, Nat.reduceEqDiff, Nat.reduceBEq, Int.reduceNeg, Int.reduceLT, Int.reduceLE, Int.reduceEq, Int.reduceToNat, (eq_false h1)]
/- 155 loop.example/g00827/laws.eqNode -/
def hi155 : Hint where
  acts := fun _ => []
  draws := fun
    | _ => ⟨[], [], []⟩
theorem hi155a (i : Nat) : hi155.acts i = [] := rfl
theorem hi155v (i : Nat) : hi155.views i = none := rfl
attribute [go_sem] hi155a hi155v Go.Proofs.Try.ntmps155 Go.Proofs.Try.results155
theorem c_laws_eqNode {a : GNode} {b : GNode} {res : Bool} (h : m_laws_eqNode a b = some res) : CallOk Go.Proofs.Try.prog 155 [.agg [.lit (.string a.name), .sl (rowsOf eI a.label), .lit (.int .i64 a.watch)], .agg [.lit (.string b.name), .sl (rowsOf eI b.label), .lit (.int .i64 b.watch)]] [] (.lit (.bool res)) [] := by
  refine callOk_of (ra := []) (md := mdT) hT (hi := hi155) Go.Proofs.Try.func155 rfl rfl (by decide +kernel) (by simp) ?_
  unfold m_laws_eqNode at h
  rcases ite_some h with ⟨h1, h⟩ | ⟨h1, h⟩
  · obtain ⟨r1001, g2, h⟩ := obnd_some h
    simp -implicitDefEqProofs -dsimp only [go_sem, ↓reduceIte, ↓dreduceIte, reduceCtorEq, Nat.reduceMul, Nat.reduceAdd, Nat.reduceSub, Nat.reduceDiv, Nat.reduceLT, Nat.reduceLeDiff, Nat.reduceEqDiff, Nat.reduceBEq, Int.reduceNeg, Int.reduceLT, Int.reduceLE, Int.reduceEq, Int.reduceToNat, (eq_true h1)]
    refine callW_of (c_laws_eqIntS g2) ?_
    rcases ite_some h with ⟨h3, h⟩ | ⟨h3, h⟩
    · rcases ite_some h with ⟨h4, h⟩ | ⟨h4, h⟩
      · cases h
        simp -implicitDefEqProofs -dsimp only [go_sem, ↓reduceIte, ↓dreduceIte, reduceCtorEq, Nat.reduceMul, Nat.reduceAdd, Nat.reduceSub, Nat.reduceDiv, Nat.reduceLT, Nat.reduceLeDiff, Nat.reduceEqDiff, Nat.reduceBEq, Int.reduceNeg, Int.reduceLT, Int.reduceLE, Int.reduceEq, Int.reduceToNat, (eq_true h1), (eq_true h3), (condZ_t h3), (eq_true h4)]
      · cases h
        simp -implicitDefEqProofs -dsimp only [go_sem, ↓reduceIte, ↓dreduceIte, reduceCtorEq, Nat.reduceMul, Nat.reduceAdd, Nat.reduceSub, Nat.reduceDiv, Nat.reduceLT, Nat.reduceLeDiff, Nat.reduceEqDiff, Nat.reduceBEq, Int.reduceNeg, Int.reduceLT, Int.reduceLE, Int.reduceEq, Int.reduceToNat, (eq_true h1), (eq_true h3), (condZ_t h3), (eq_false h4)]
    · cases h
      simp -implicitDefEqProofs -dsimp only [go_sem, ↓reduceIte, ↓dreduceIte, reduceCtorEq, Nat.reduceMul, Nat.reduceAdd, Nat.reduceSub, Nat.reduceDiv, Nat.reduceLT, Nat.reduceLeDiff, Nat.reduceEqDiff, Nat.reduceBEq, Int.reduceNeg, Int.reduceLT, Int.reduceLE, Int.reduceEq, Int.reduceToNat, (eq_true h1), (eq_false h3), (condZ_f h3)]
  · cases h
    simp -implicitDefEqProofs -dsimp only [go_sem, ↓reduceIte, ↓dreduceIte, reduceCtorEq, Nat.reduceMul, Nat.reduceAdd, Nat.reduceSub, Nat.reduceDiv, Nat.reduceLT, Nat.reduceLeDiff, Nat.reduceEqDiff, Nat.reduceBEq, Int.reduceNeg, Int.reduceLT, Int.reduceLE, Int.reduceEq, Int.reduceToNat, (eq_false h1)]
/- 90 loop.example/g00827/laws.eqNodeS -/
def m_laws_eqNodeS_L1_St (a : List GNode) (b : List GNode) (i : Int) : St := ⟨[(0, .sl (rowsOf GNode.encS a)), (1, .sl (rowsOf GNode.encS b)), (5, .lit (.int .i64 i))], [], 2⟩
attribute [go_sem] m_laws_eqNodeS_L1_St
def hi90 : Hint where
  acts := fun _ => []
  draws := fun
    | 6 => ⟨[⟨0, false, []⟩, ⟨1, false, []⟩, ⟨2, false, []⟩, ⟨3, false, []⟩, ⟨4, false, []⟩, ⟨5, false, []⟩, ⟨6, false, []⟩, ⟨7, false, []⟩, ⟨8, false, []⟩, ⟨9, false, []⟩], [[], [], [0, 1], [0, 1, 2], [], [], [4, 5], [4, 5, 6], [0, 1, 2, 3, 4, 5, 6, 7], [0, 1, 2, 3, 4, 5, 6, 7, 8]], [0, 1, 2, 3, 4, 5, 6, 7, 8, 9]⟩
    | _ => ⟨[], [], []⟩
theorem hi90a (i : Nat) : hi90.acts i = [] := rfl
theorem hi90v (i : Nat) : hi90.views i = none := rfl
attribute [go_sem] hi90a hi90v Go.Proofs.Try.ntmps90 Go.Proofs.Try.results90
@[go_sem] theorem hi90d6 : (hi90.draws 6).order = [⟨0, false, []⟩, ⟨1, false, []⟩, ⟨2, false, []⟩, ⟨3, false, []⟩, ⟨4, false, []⟩, ⟨5, false, []⟩, ⟨6, false, []⟩, ⟨7, false, []⟩, ⟨8, false, []⟩, ⟨9, false, []⟩] := rfl
theorem c_laws_eqNodeS {a : List GNode} {b : List GNode} {res : Bool} (h : m_laws_eqNodeS a b = some res) : CallOk Go.Proofs.Try.prog 90 [.sl (rowsOf GNode.encS a), .sl (rowsOf GNode.encS b)] [] (.lit (.bool res)) [] := by
  refine callOk_of (ra := []) (md := mdT) hT (hi := hi90) Go.Proofs.Try.func90 rfl rfl (by decide +kernel) (by simp) ?_
  unfold m_laws_eqNodeS at h
  rcases ite_some h with ⟨h1, h⟩ | ⟨h1, h⟩
  · obtain ⟨q1004, l2, h⟩ := obnd_some h
    simp -implicitDefEqProofs -dsimp only [go_sem, ↓reduceIte, ↓dreduceIte, reduceCtorEq, Nat.reduceMul, Nat.reduceAdd, Nat.reduceSub, Nat.reduceDiv, Nat.reduceLT, Nat.reduceLeDiff, Nat.reduceEqDiff, Nat.reduceBEq, Int.reduceNeg, Int.reduceLT, Int.reduceLE, Int.reduceEq, Int.reduceToNat, (eq_true h1)]
    refine loopW_loopO (m1 := .mk) (m2 := .mk) [.nf [0, 1, 5] []] (m_laws_eqNodeS_L1_St a b) l2 ?_ ?_
    · simp -implicitDefEqProofs -dsimp only [go_sem, ↓reduceIte, ↓dreduceIte, reduceCtorEq, Nat.reduceMul, Nat.reduceAdd, Nat.reduceSub, Nat.reduceDiv, Nat.reduceLT, Nat.reduceLeDiff, Nat.reduceEqDiff, Nat.reduceBEq, Int.reduceNeg, Int.reduceLT, Int.reduceLE, Int.reduceEq, Int.reduceToNat, (eq_true h1)]
    · intro nb3 sb3 bb3 b3 gb3
      obtain ⟨i_1, eb3⟩ : ∃ v, v = sb3 := ⟨_, rfl⟩; subst eb3
      unfold m_laws_eqNodeS_L1 at b3
      try dsimp only at b3
      rcases ite_some b3 with ⟨h4, b3⟩ | ⟨h4, b3⟩
      · obtain ⟨x1001, g5, b3⟩ := obnd_some b3
        obtain ⟨h6, h7, h8⟩ := getI_some g5
        obtain ⟨x1002, g9, b3⟩ := obnd_some b3
        obtain ⟨h10, h11, h12⟩ := getI_some g9
        obtain ⟨r1003, g13, b3⟩ := obnd_some b3
        simp -implicitDefEqProofs -dsimp only [go_sem, ↓reduceIte, ↓dreduceIte, reduceCtorEq, Nat.reduceMul, Nat.reduceAdd, Nat.reduceSub, Nat.reduceDiv, Nat.reduceLT, Nat.reduceLeDiff, Nat.reduceEqDiff, Nat.reduceBEq, Int.reduceNeg, Int.reduceLT, Int.reduceLE, Int.reduceEq, Int.reduceToNat, (eq_true h1), (eq_true h4), h6, h7, h8, h10, h11, h12]
        refine callW_of (c_laws_eqNode g13) ?_
        rcases ite_some b3 with ⟨h14, b3⟩ | ⟨h14, b3⟩
        · cases b3
          simp -implicitDefEqProofs -dsimp only [go_sem, ↓reduceIte, ↓dreduceIte, reduceCtorEq, Nat.reduceMul, Nat.reduceAdd, Nat.reduceSub, Nat.reduceDiv, Nat.reduceLT, Nat.reduceLeDiff, Nat.reduceEqDiff, Nat.reduceBEq, Int.reduceNeg, Int.reduceLT, Int.reduceLE, Int.reduceEq, Int.reduceToNat, (eq_true h1), (eq_true h4), h6, h7, h8, h10, h11, h12, (eq_true h14), (condZ_t h14)]
          refine next_of gb3 ?_
          simp -implicitDefEqProofs -dsimp only [go_sem, ↓reduceIte, ↓dreduceIte, reduceCtorEq, Nat.reduceMul, Nat.reduceAdd, Nat.reduceSub, Nat.reduceDiv, Nat.reduceLT, Nat.reduceLeDiff, Nat.reduceEqDiff, Nat.reduceBEq, Int.reduceNeg, Int.reduceLT, Int.reduceLE, Int.reduceEq, Int.reduceToNat, (eq_true h1), (eq_true h4), h6, h7, h8, h10, h11, h12, (eq_true h14), (condZ_t h14)]
        · cases b3
          have e15 := done_of gb3
          subst e15
          try dsimp only at h
          cases h
          simp -implicitDefEqProofs -dsimp only [go_sem, ↓reduceIte, ↓dreduceIte, reduceCtorEq, Nat.reduceMul, Nat.reduceAdd, Nat.reduceSub, Nat.reduceDiv, Nat.reduceLT, Nat.reduceLeDiff, Nat.reduceEqDiff, Nat.reduceBEq, Int.reduceNeg, Int.reduceLT, Int.reduceLE, Int.reduceEq, Int.reduceToNat, (eq_true h1), (eq_true h4), h6, h7, h8, h10, h11, h12, (eq_false h14), (condZ_f h14)]
      · cases b3
        have e16 := done_of gb3
        subst e16
        try dsimp only at h
        cases h
        simp -implicitDefEqProofs -dsimp only [go_sem, ↓reduceIte, ↓dreduceIte, reduceCtorEq, Nat.reduceMul, Nat.reduceAdd, Nat.reduceSub, Nat.reduceDiv, Nat.reduceLT, Nat.reduceLeDiff, Nat.reduceEqDiff, Nat.reduceBEq, Int.reduceNeg, Int.reduceLT, Int.reduceLE, Int.reduceEq, Int.reduceToNat, (eq_true h1), (eq_false h4)]
  · cases h
    simp -implicitDefEqProofs -dsimp only [go_sem, ↓reduceIte, ↓dreduceIte, reduceCtorEq, Nat.reduceMul, Nat.reduceAdd, Nat.reduceSub, Nat.reduceDiv, Nat.reduceLT, Nat.reduceLeDiff, Nat.reduceEqDiff, Nat.reduceBEq, Int.reduceNeg, Int.reduceLT, Int.reduceLE, Int.reduceEq, Int.reduceToNat, (eq_false h1)]
/- 156 loop.example/g00827/laws.eqTie -/
def hi156 : Hint where
  acts := fun _ => []
  draws := fun
    | _ => ⟨[], [], []⟩
theorem hi156a (i : Nat) : hi156.acts i = [] := rfl
theorem hi156v (i : Nat) : hi156.views i = none := rfl
attribute [go_sem] hi156a hi156v Go.Proofs.Try.ntmps156 Go.Proofs.Try.results156
theorem c_laws_eqTie {a : GTie} {b : GTie} {res : Bool} (h : m_laws_eqTie a b = some res) : CallOk Go.Proofs.Try.prog 156 [.agg [.lit (.int .i64 a.from_), .lit (.int .i64 a.to), .lit (.int .i64 a.low), .lit (.int .i64 a.high), .lit (.bool a.free)], .agg [.lit (.int .i64 b.from_), .lit (.int .i64 b.to), .lit (.int .i64 b.low), .lit (.int .i64 b.high), .lit (.bool b.free)]] [] (.lit (.bool res)) [] := by
  refine callOk_of (ra := []) (md := mdT) hT (hi := hi156) Go.Proofs.Try.func156 rfl rfl (by decide +kernel) (by simp) ?_
  unfold m_laws_eqTie at h
  rcases ite_some h with ⟨h1, h⟩ | ⟨h1, h⟩
  · rcases ite_some h with ⟨h2, h⟩ | ⟨h2, h⟩
    · rcases ite_some h with ⟨h3, h⟩ | ⟨h3, h⟩
      · rcases ite_some h with ⟨h4, h⟩ | ⟨h4, h⟩
        · rcases ite_some h with ⟨h5, h⟩ | ⟨h5, h⟩
          · cases h
            simp -implicitDefEqProofs -dsimp only [go_sem, ↓reduceIte, ↓dreduceIte, reduceCtorEq, Nat.reduceMul, Nat.reduceAdd, Nat.reduceSub, Nat.reduceDiv, Nat.reduceLT, Nat.reduceLeDiff, Nat.reduceEqDiff, Nat.reduceBEq, Int.reduceNeg, Int.reduceLT, Int.reduceLE, Int.reduceEq, Int.reduceToNat, (eq_true h1), (eq_true h2), (eq_true h3), (eq_true h4), (eq_true h5)]
          · cases h
            simp -implicitDefEqProofs -dsimp only [go_sem, ↓reduceIte, ↓dreduceIte, reduceCtorEq, Nat.reduceMul, Nat.reduceAdd, Nat.reduceSub, Nat.reduceDiv, Nat.reduceLT, Nat.reduceLeDiff, Nat.reduceEqDiff, Nat.reduceBEq, Int.reduceNeg, Int.reduceLT, Int.reduceLE, Int.reduceEq, Int.reduceToNat, (eq_true h1), (eq_true h2), (eq_true h3), (eq_true h4), (eq_false h5)]
        · cases h
          simp -implicitDefEqProofs -dsimp only [go_sem, ↓reduceIte, ↓dreduceIte, reduceCtorEq, Nat.reduceMul, Nat.reduceAdd, Nat.reduceSub, Nat.reduceDiv, Nat.reduceLT, Nat.reduceLeDiff, Nat.reduceEqDiff, Nat.reduceBEq, Int.reduceNeg, Int.reduceLT, Int.reduceLE, Int.reduceEq, Int.reduceToNat, (eq_true h1), (eq_true h2), (eq_true h3), (eq_false h4)]
      · cases h
        simp -implicitDefEqProofs -dsimp only [go_sem, ↓reduceIte, ↓dreduceIte, reduceCtorEq, Nat.reduceMul, Nat.reduceAdd, Nat.reduceSub, Nat.reduceDiv, Nat.reduceLT, Nat.reduceLeDiff, Nat.reduceEqDiff, Nat.reduceBEq, Int.reduceNeg, Int.reduceLT, Int.reduceLE, Int.reduceEq, Int.reduceToNat, (eq_true h1), (eq_true h2), (eq_false h3)]
    · cases h
      simp -implicitDefEqProofs -dsimp only [go_sem, ↓reduceIte, ↓dreduceIte, reduceCtorEq, Nat.reduceMul, Nat.reduceAdd, Nat.reduceSub, Nat.reduceDiv, Nat.reduceLT, Nat.reduceLeDiff, Nat.reduceEqDiff, Nat.reduceBEq, Int.reduceNeg, Int.reduceLT, Int.reduceLE, Int.reduceEq, Int.reduceToNat, (eq_true h1), (eq_false h2)]
  · cases h
    simp -implicitDefEqProofs -dsimp only [go_sem, ↓reduceIte, ↓dreduceIte, reduceCtorEq, Nat.reduceMul, Nat.reduceAdd, Nat.reduceSub, Nat.reduceDiv, Nat.reduceLT, Nat.reduceLeDiff, Nat.reduceEqDiff, Nat.reduceBEq, Int.reduceNeg, Int.reduceLT, Int.reduceLE, Int.reduceEq, Int.reduceToNat, (eq_false h1)]
/- 91 loop.example/g00827/laws.eqTieS -/
def m_laws_eqTieS_L1_St (a : List GTie) (b : List GTie) (i : Int) : St := ⟨[(0, .sl (rowsOf GTie.enc a)), (1, .sl (rowsOf GTie.enc b)), (5, .lit (.int .i64 i))], [], 2⟩
attribute [go_sem] m_laws_eqTieS_L1_St
def hi91 : Hint where
  acts := fun _ => []
  draws := fun
    | 6 => ⟨[⟨0, false, []⟩, ⟨1, false, []⟩, ⟨2, false, []⟩, ⟨3, false, []⟩, ⟨4, false, []⟩, ⟨5, false, []⟩, ⟨6, false, []⟩, ⟨7, false, []⟩, ⟨8, false, []⟩, ⟨9, false, []⟩], [[], [], [0, 1], [0, 1, 2], [], [], [4, 5], [4, 5, 6], [0, 1, 2, 3, 4, 5, 6, 7], [0, 1, 2, 3, 4, 5, 6, 7, 8]], [0, 1, 2, 3, 4, 5, 6, 7, 8, 9]⟩
    | _ => ⟨[], [], []⟩
theorem hi91a (i : Nat) : hi91.acts i = [] := rfl
theorem hi91v (i : Nat) : hi91.views i = none := rfl
attribute [go_sem] hi91a hi91v Go.Proofs.Try.ntmps91 Go.Proofs.Try.results91
@[go_sem] theorem hi91d6 : (hi91.draws 6).order = [⟨0, false, []⟩, ⟨1, false, []⟩, ⟨2, false, []⟩, ⟨3, false, []⟩, ⟨4, false, []⟩, ⟨5, false, []⟩, ⟨6, false, []⟩, ⟨7, false, []⟩, ⟨8, false, []⟩, ⟨9, false, []⟩] := rfl
theorem c_laws_eqTieS {a : List GTie} {b : List GTie} {res : Bool} (h : m_laws_eqTieS a b = some res) : CallOk Go.Proofs.Try.prog 91 [.sl (rowsOf GTie.enc a), .sl (rowsOf GTie.enc b)] [] (.lit (.bool res)) [] := by
  refine callOk_of (ra := []) (md := mdT) hT (hi := hi91) Go.Proofs.Try.func91 rfl rfl (by decide +kernel) (by simp) ?_
  unfold m_laws_eqTieS at h
  rcases ite_some h with ⟨h1, h⟩ | ⟨h1, h⟩
  · obtain ⟨q1004, l2, h⟩ := obnd_some h
    simp -implicitDefEqProofs -dsimp only [go_sem, ↓reduceIte, ↓dreduceIte, reduceCtorEq, Nat.reduceMul, Nat.reduceAdd, Nat.reduceSub, Nat.reduceDiv, Nat.reduceLT, Nat.reduceLeDiff, Nat.reduceEqDiff, Nat.reduceBEq, Int.reduceNeg, Int.reduceLT, Int.reduceLE, Int.reduceEq, Int.reduceToNat, (eq_true h1)]
    refine loopW_loopO (m1 := .mk) (m2 := .mk) [.nf [0, 1, 5] []] (m_laws_eqTieS_L1_St a b) l2 ?_ ?_
    · simp -implicitDefEqProofs -dsimp only [go_sem, ↓reduceIte, ↓dreduceIte, reduceCtorEq, Nat.reduceMul, Nat.reduceAdd, Nat.reduceSub, Nat.reduceDiv, Nat.reduceLT, Nat.reduceLeDiff, Nat.reduceEqDiff, Nat.reduceBEq, Int.reduceNeg, Int.reduceLT, Int.reduceLE, Int.reduceEq, Int.reduceToNat, (eq_true h1)]
    · intro nb3 sb3 bb3 b3 gb3
      obtain ⟨i_1, eb3⟩ : ∃ v, v = sb3 := ⟨_, rfl⟩; subst eb3
      unfold m_laws_eqTieS_L1 at b3
      try dsimp only at b3
      rcases ite_some b3 with ⟨h4, b3⟩ | ⟨h4, b3⟩
      · obtain ⟨x1001, g5, b3⟩ := obnd_some b3
        obtain ⟨h6, h7, h8⟩ := getI_some g5
        obtain ⟨x1002, g9, b3⟩ := obnd_some b3
        obtain ⟨h10, h11, h12⟩ := getI_some g9
        obtain ⟨r1003, g13, b3⟩ := obnd_some b3
        simp -implicitDefEqProofs -dsimp only [go_sem, ↓reduceIte, ↓dreduceIte, reduceCtorEq, Nat.reduceMul, Nat.reduceAdd, Nat.reduceSub, Nat.reduceDiv, Nat.reduceLT, Nat.reduceLeDiff, Nat.reduceEqDiff, Nat.reduceBEq, Int.reduceNeg, Int.reduceLT, Int.reduceLE, Int.reduceEq, Int.reduceToNat, (eq_true h1), (eq_true h4), h6, h7, h8, h10, h11, h12]
        refine callW_of (c_laws_eqTie g13) ?_
        rcases ite_some b3 with ⟨h14, b3⟩ | ⟨h14, b3⟩
        · cases b3
          simp -implicitDefEqProofs -dsimp only [go_sem, ↓reduceIte, ↓dreduceIte, reduceCtorEq, Nat.reduceMul, Nat.reduceAdd, Nat.reduceSub, Nat.reduceDiv, Nat.reduceLT, Nat.reduceLeDiff, Nat.reduceEqDiff, Nat.reduceBEq, Int.reduceNeg, Int.reduceLT, Int.reduceLE, Int.reduceEq, Int.reduceToNat, (eq_true h1), (eq_true h4), h6, h7, h8, h10, h11, h12, (eq_true h14), (condZ_t h14)]
          refine next_of gb3 ?_
          simp -implicitDefEqProofs -dsimp only [go_sem, ↓reduceIte, ↓dreduceIte, reduceCtorEq, Nat.reduceMul, Nat.reduceAdd, Nat.reduceSub, Nat.reduceDiv, Nat.reduceLT, Nat.reduceLeDiff, Nat.reduceEqDiff, Nat.reduceBEq, Int.reduceNeg, Int.reduceLT, Int.reduceLE, Int.reduceEq, Int.reduceToNat, (eq_true h1), (eq_true h4), h6, h7, h8, h10, h11, h12, (eq_true h14), (condZ_t h14)]
        · cases b3
          have e15 := done_of gb3
          subst e15
          try dsimp only at h
          cases h
          simp -implicitDefEqProofs -dsimp only [go_sem, ↓reduceIte, ↓dreduceIte, reduceCtorEq, Nat.reduceMul, Nat.reduceAdd, Nat.reduceSub, Nat.reduceDiv, Nat.reduceLT, Nat.reduceLeDiff, Nat.reduceEqDiff, Nat.reduceBEq, Int.reduceNeg, Int.reduceLT, Int.reduceLE, Int.reduceEq, Int.reduceToNat, (eq_true h1), (eq_true h4), h6, h7, h8, h10, h11, h12, (eq_false h14), (condZ_f h14)]
      · cases b3
        have e16 := done_of gb3
        subst e16
        try dsimp only at h
        cases h
        simp -implicitDefEqProofs -dsimp only [go_sem, ↓reduceIte, ↓dreduceIte, reduceCtorEq, Nat.reduceMul, Nat.reduceAdd, Nat.reduceSub, Nat.reduceDiv, Nat.reduceLT, Nat.reduceLeDiff, Nat.reduceEqDiff, Nat.reduceBEq, Int.reduceNeg, Int.reduceLT, Int.reduceLE, Int.reduceEq, Int.reduceToNat, (eq_true h1), (eq_false h4)]
  · cases h
    simp -implicitDefEqProofs -dsimp only [go_sem, ↓reduceIte, ↓dreduceIte, reduceCtorEq, Nat.reduceMul, Nat.reduceAdd, Nat.reduceSub, Nat.reduceDiv, Nat.reduceLT, Nat.reduceLeDiff, Nat.reduceEqDiff, Nat.reduceBEq, Int.reduceNeg, Int.reduceLT, Int.reduceLE, Int.reduceEq, Int.reduceToNat, (eq_false h1)]
/- 24 loop.example/g00827/laws.eqShow -/
def hi24 : Hint where
  acts := fun _ => []
  draws := fun
    | _ => ⟨[], [], []⟩
theorem hi24a (i : Nat) : hi24.acts i = [] := rfl
theorem hi24v (i : Nat) : hi24.views i = none := rfl
attribute [go_sem] hi24a hi24v Go.Proofs.Try.ntmps24 Go.Proofs.Try.results24
theorem c_laws_eqShow {a : GShow} {b : GShow} {res : Bool} (h : m_laws_eqShow a b = some res) : CallOk Go.Proofs.Try.prog 24 [.agg [.sl (rowsOf GNode.encS a.nodes), .sl (rowsOf GTie.enc a.ties), .lit (.int .i64 a.horizon)], .agg [.sl (rowsOf GNode.encS b.nodes), .sl (rowsOf GTie.enc b.ties), .lit (.int .i64 b.horizon)]] [] (.lit (.bool res)) [] := by
  refine callOk_of (ra := []) (md := mdT) hT (hi := hi24) Go.Proofs.Try.func24 rfl rfl (by decide +kernel) (by simp) ?_
  unfold m_laws_eqShow at h
  obtain ⟨r1001, g1, h⟩ := obnd_some h
  simp -implicitDefEqProofs -dsimp only [go_sem, ↓reduceIte, ↓dreduceIte, reduceCtorEq, Nat.reduceMul, Nat.reduceAdd, Nat.reduceSub, Nat.reduceDiv, Nat.reduceLT, Nat.reduceLeDiff, Nat.reduceEqDiff, Nat.reduceBEq, Int.reduceNeg, Int.reduceLT, Int.reduceLE, Int.reduceEq, Int.reduceToNat]
  refine callW_of (c_laws_eqNodeS g1) ?_
  rcases ite_some h with ⟨h2, h⟩ | ⟨h2, h⟩
  · obtain ⟨r1002, g3, h⟩ := obnd_some h
    simp -implicitDefEqProofs -dsimp only [go_sem, ↓reduceIte, ↓dreduceIte, reduceCtorEq, Nat.reduceMul, Nat.reduceAdd, Nat.reduceSub, Nat.reduceDiv, Nat.reduceLT, Nat.reduceLeDiff, Nat.reduceEqDiff, Nat.reduceBEq, Int.reduceNeg, Int.reduceLT, Int.reduceLE, Int.reduceEq, Int.reduceToNat, (eq_true h2), (condZ_t h2)]
    refine callW_of (c_laws_eqTieS g3) ?_
    rcases ite_some h with ⟨h4, h⟩ | ⟨h4, h⟩
    · rcases ite_some h with ⟨h5, h⟩ | ⟨h5, h⟩
      · cases h
        simp -implicitDefEqProofs -dsimp only [go_sem, ↓reduceIte, ↓dreduceIte, reduceCtorEq, Nat.reduceMul, Nat.reduceAdd, Nat.reduceSub, Nat.reduceDiv, Nat.reduceLT, Nat.reduceLeDiff, Nat.reduceEqDiff, Nat.reduceBEq, Int.reduceNeg, Int.reduceLT, Int.reduceLE, Int.reduceEq, Int.reduceToNat, (eq_true h2), (condZ_t h2), (eq_true h4), (condZ_t h4), (eq_true h5)]
      · cases h
        simp -implicitDefEqProofs -dsimp only [go_sem, ↓reduceIte, ↓dreduceIte, reduceCtorEq, Nat.reduceMul, Nat.reduceAdd, Nat.reduceSub, Nat.reduceDiv, Nat.reduceLT, Nat.reduceLeDiff, Nat.reduceEqDiff, Nat.reduceBEq, Int.reduceNeg, Int.reduceLT, Int.reduceLE, Int.reduceEq, Int.reduceToNat, (eq_true h2), (condZ_t h2), (eq_true h4), (condZ_t h4), (eq_false h5)]
    · cases h
      simp -implicitDefEqProofs -dsimp only [go_sem, ↓reduceIte, ↓dreduceIte, reduceCtorEq, Nat.reduceMul, Nat.reduceAdd, Nat.reduceSub, Nat.reduceDiv, Nat.reduceLT, Nat.reduceLeDiff, Nat.reduceEqDiff, Nat.reduceBEq, Int.reduceNeg, Int.reduceLT, Int.reduceLE, Int.reduceEq, Int.reduceToNat, (eq_true h2), (condZ_t h2), (eq_false h4), (condZ_f h4)]
  · cases h
    simp -implicitDefEqProofs -dsimp only [go_sem, ↓reduceIte, ↓dreduceIte, reduceCtorEq, Nat.reduceMul, Nat.reduceAdd, Nat.reduceSub, Nat.reduceDiv, Nat.reduceLT, Nat.reduceLeDiff, Nat.reduceEqDiff, Nat.reduceBEq, Int.reduceNeg, Int.reduceLT, Int.reduceLE, Int.reduceEq, Int.reduceToNat, (eq_false h2), (condZ_f h2)]
/- 157 loop.example/g00827/laws.markText -/
def m_laws_markText_L1_St  : (Int × ByteArray) → St
  | (k, out) => ⟨[(0, .lit (.int .i64 k)), (3, .lit (.string out))], [], 2⟩
attribute [go_sem] m_laws_markText_L1_St
def hi157 : Hint where
  acts := fun _ => []
  draws := fun
    | _ => ⟨[], [], []⟩
theorem hi157a (i : Nat) : hi157.acts i = [] := rfl
theorem hi157v (i : Nat) : hi157.views i = none := rfl
attribute [go_sem] hi157a hi157v Go.Proofs.Try.ntmps157 Go.Proofs.Try.results157
theorem c_laws_markText {k : Int} {res : ByteArray} (h : m_laws_markText k = some res) : CallOk Go.Proofs.Try.prog 157 [.lit (.int .i64 k)] [] (.lit (.string res)) [] := by
  refine callOk_of (ra := []) (md := mdT) hT (hi := hi157) Go.Proofs.Try.func157 rfl rfl (by decide +kernel) (by simp) ?_
  unfold m_laws_markText at h
  rcases ite_some h with ⟨h1, h⟩ | ⟨h1, h⟩
  · cases h
    simp -implicitDefEqProofs -dsimp only [go_sem, ↓reduceIte, ↓dreduceIte, reduceCtorEq, Nat.reduceMul, Nat.reduceAdd, Nat.reduceSub, Nat.reduceDiv, Nat.reduceLT, Nat.reduceLeDiff, Nat.reduceEqDiff, Nat.reduceBEq, Int.reduceNeg, Int.reduceLT, Int.reduceLE, Int.reduceEq, Int.reduceToNat, (eq_true h1)]
  · obtain ⟨q1001, l2, h⟩ := obnd_some h
    simp -implicitDefEqProofs -dsimp only [go_sem, ↓reduceIte, ↓dreduceIte, reduceCtorEq, Nat.reduceMul, Nat.reduceAdd, Nat.reduceSub, Nat.reduceDiv, Nat.reduceLT, Nat.reduceLeDiff, Nat.reduceEqDiff, Nat.reduceBEq, Int.reduceNeg, Int.reduceLT, Int.reduceLE, Int.reduceEq, Int.reduceToNat, (eq_false h1)]
    refine loopW_loopO (m1 := .mk) (m2 := .mk) [.nf [0, 3] []] (m_laws_markText_L1_St) l2 ?_ ?_
    · simp -implicitDefEqProofs -dsimp only [go_sem, ↓reduceIte, ↓dreduceIte, reduceCtorEq, Nat.reduceMul, Nat.reduceAdd, Nat.reduceSub, Nat.reduceDiv, Nat.reduceLT, Nat.reduceLeDiff, Nat.reduceEqDiff, Nat.reduceBEq, Int.reduceNeg, Int.reduceLT, Int.reduceLE, Int.reduceEq, Int.reduceToNat, (eq_false h1)]
    · intro nb3 sb3 bb3 b3 gb3
      obtain ⟨k_1, out_1⟩ := sb3
      unfold m_laws_markText_L1 at b3
      try dsimp only at b3
      rcases ite_some b3 with ⟨h4, b3⟩ | ⟨h4, b3⟩
      · obtain ⟨h5, b3⟩ := chk_some b3
        cases b3
        simp -implicitDefEqProofs -dsimp only [go_sem, ↓reduceIte, ↓dreduceIte, reduceCtorEq, Nat.reduceMul, Nat.reduceAdd, Nat.reduceSub, Nat.reduceDiv, Nat.reduceLT, Nat.reduceLeDiff, Nat.reduceEqDiff, Nat.reduceBEq, Int.reduceNeg, Int.reduceLT, Int.reduceLE, Int.reduceEq, Int.reduceToNat, (eq_false h1), (eq_true h4), (eq_true h5)]
        refine next_of gb3 ?_
        simp -implicitDefEqProofs -dsimp only [go_sem, ↓reduceIte, ↓dreduceIte, reduceCtorEq, Nat.reduceMul, Nat.reduceAdd, Nat.reduceSub, Nat.reduceDiv, Nat.reduceLT, Nat.reduceLeDiff, Nat.reduceEqDiff, Nat.reduceBEq, Int.reduceNeg, Int.reduceLT, Int.reduceLE, Int.reduceEq, Int.reduceToNat, (eq_false h1), (eq_true h4), (eq_true h5)]
      · cases b3
        have e6 := done_of gb3
        subst e6
        try dsimp only at h
        obtain ⟨h7, h⟩ := chk_some h
        cases h
        simp -implicitDefEqProofs -dsimp only [go_sem, ↓reduceIte, ↓dreduceIte, reduceCtorEq, Nat.reduceMul, Nat.reduceAdd, Nat.reduceSub, Nat.reduceDiv, Nat.reduceLT, Nat.reduceLeDiff, Nat.reduceEqDiff, Nat.reduceBEq, Int.reduceNeg, Int.reduceLT, Int.reduceLE, Int.reduceEq, Int.reduceToNat, (eq_false h1), (eq_false h4), (eq_true h7)]
/- 26 loop.example/g00827/laws.markIntS -/
def m_laws_markIntS_L1_St  : (Int × Int × (List Int)) → St
  | (k, i, a) => ⟨[(0, .ref 10000 0 0 a.length), (1, .lit (.int .i64 k)), (5, .lit (.int .i64 i))], [(10000, 0, .row true (rowsOf eI a))], 2⟩
attribute [go_sem] m_laws_markIntS_L1_St
def hi26 : Hint where
  acts := fun _ => []
  draws := fun
    | _ => ⟨[], [], []⟩
theorem hi26a (i : Nat) : hi26.acts i = [] := rfl
theorem hi26v (i : Nat) : hi26.views i = none := rfl
attribute [go_sem] hi26a hi26v Go.Proofs.Try.ntmps26 Go.Proofs.Try.results26
theorem c_laws_markIntS {a : List Int} {k : Int} {res : Int × (List Int)} (h : m_laws_markIntS a k = some res) : CallOk Go.Proofs.Try.prog 26 [.ref 10000 0 0 a.length, .lit (.int .i64 k)] [(10000, 0, .row true (rowsOf eI a))] (.lit (.int .i64 res.1)) [(10000, 0, .row true (rowsOf eI res.2))] := by
  refine callOk_of (ra := []) (md := mdT) hT (hi := hi26) Go.Proofs.Try.func26 rfl rfl (by decide +kernel) (by simp) ?_
  unfold m_laws_markIntS at h
  obtain ⟨q1002, l1, h⟩ := obnd_some h
  simp -implicitDefEqProofs -dsimp only [go_sem, ↓reduceIte, ↓dreduceIte, reduceCtorEq, Nat.reduceMul, Nat.reduceAdd, Nat.reduceSub, Nat.reduceDiv, Nat.reduceLT, Nat.reduceLeDiff, Nat.reduceEqDiff, Nat.reduceBEq, Int.reduceNeg, Int.reduceLT, Int.reduceLE, Int.reduceEq, Int.reduceToNat]
  refine loopW_loopO (m1 := .mk) (m2 := .mk) [.nf [0, 1, 5] [10000]] (m_laws_markIntS_L1_St) l1 ?_ ?_
  · simp -implicitDefEqProofs -dsimp only [go_sem, ↓reduceIte, ↓dreduceIte, reduceCtorEq, Nat.reduceMul, Nat.reduceAdd, Nat.reduceSub, Nat.reduceDiv, Nat.reduceLT, Nat.reduceLeDiff, Nat.reduceEqDiff, Nat.reduceBEq, Int.reduceNeg, Int.reduceLT, Int.reduceLE, Int.reduceEq, Int.reduceToNat]
  · intro nb2 sb2 bb2 b2 gb2
    obtain ⟨k_1, i_1, a_1⟩ := sb2
    unfold m_laws_markIntS_L1 at b2
    try dsimp only at b2
    rcases ite_some b2 with ⟨h3, b2⟩ | ⟨h3, b2⟩
    · obtain ⟨x1001, g4, b2⟩ := obnd_some b2
      obtain ⟨h5, h6, h7⟩ := getI_some g4
      cases b2
      simp -implicitDefEqProofs -dsimp only [go_sem, ↓reduceIte, ↓dreduceIte, reduceCtorEq, Nat.reduceMul, Nat.reduceAdd, Nat.reduceSub, Nat.reduceDiv, Nat.reduceLT, Nat.reduceLeDiff, Nat.reduceEqDiff, Nat.reduceBEq, Int.reduceNeg, Int.reduceLT, Int.reduceLE, Int.reduceEq, Int.reduceToNat, (eq_true h3), h5, h6, h7]
      refine next_of gb2 ?_
      simp -implicitDefEqProofs -dsimp only [go_sem, ↓reduceIte, ↓dreduceIte, reduceCtorEq, Nat.reduceMul, Nat.reduceAdd, Nat.reduceSub, Nat.reduceDiv, Nat.reduceLT, Nat.reduceLeDiff, Nat.reduceEqDiff, Nat.reduceBEq, Int.reduceNeg, Int.reduceLT, Int.reduceLE, Int.reduceEq, Int.reduceToNat, (eq_true h3), h5, h6, h7]
    · cases b2
      have e8 := done_of gb2
      subst e8
      try dsimp only at h
      cases h
      simp -implicitDefEqProofs -dsimp only [go_sem, ↓reduceIte, ↓dreduceIte, reduceCtorEq, Nat.reduceMul, Nat.reduceAdd, Nat.reduceSub, Nat.reduceDiv, Nat.reduceLT, Nat.reduceLeDiff, Nat.reduceEqDiff, Nat.reduceBEq, Int.reduceNeg, Int.reduceLT, Int.reduceLE, Int.reduceEq, Int.reduceToNat, (eq_false h3)]
/- 92 loop.example/g00827/laws.markNodeS -/
def m_laws_markNodeS_L1_St  : (Int × Int × (List GNode)) → St
  | (k, i, a) => ⟨[(0, .ref 10000 0 0 a.length), (1, .lit (.int .i64 k)), (5, .lit (.int .i64 i))], [(10000, 0, .row true (rowsOf GNode.encO a))], 2⟩
attribute [go_sem] m_laws_markNodeS_L1_St
def hi92 : Hint where
  acts := fun _ => []
  views := fun
    | 6 => some (4, 1)
    | _ => none
  draws := fun
    | _ => ⟨[], [], []⟩
theorem hi92a (i : Nat) : hi92.acts i = [] := rfl
@[go_sem] theorem hi92v0 : hi92.views 0 = none := rfl
@[go_sem] theorem hi92v1 : hi92.views 1 = none := rfl
@[go_sem] theorem hi92v2 : hi92.views 2 = none := rfl
@[go_sem] theorem hi92v4 : hi92.views 4 = none := rfl
@[go_sem] theorem hi92v5 : hi92.views 5 = none := rfl
@[go_sem] theorem hi92v6 : hi92.views 6 = some (4, 1) := rfl
@[go_sem] theorem hi92v7 : hi92.views 7 = none := rfl
@[go_sem] theorem hi92v8 : hi92.views 8 = none := rfl
@[go_sem] theorem hi92v3 : hi92.views 3 = none := rfl
@[go_sem] theorem hi92v9 : hi92.views 9 = none := rfl
attribute [go_sem] hi92a Go.Proofs.Try.ntmps92 Go.Proofs.Try.results92
theorem c_laws_markNodeS {a : List GNode} {k : Int} {res : Int × (List GNode)} (h : m_laws_markNodeS a k = some res) : CallOk Go.Proofs.Try.prog 92 [.ref 10000 0 0 a.length, .lit (.int .i64 k)] [(10000, 0, .row true (rowsOf GNode.encO a))] (.lit (.int .i64 res.1)) [(10000, 0, .row true (rowsOf GNode.encO res.2))] := by
  refine callOk_of (ra := []) (md := mdT) hT (hi := hi92) Go.Proofs.Try.func92 rfl rfl (by decide +kernel) (by simp) ?_
  unfold m_laws_markNodeS at h
  obtain ⟨q1006, l1, h⟩ := obnd_some h
  simp -implicitDefEqProofs -dsimp only [go_sem, ↓reduceIte, ↓dreduceIte, reduceCtorEq, Nat.reduceMul, Nat.reduceAdd, Nat.reduceSub, Nat.reduceDiv, Nat.reduceLT, Nat.reduceLeDiff, Nat.reduceEqDiff, Nat.reduceBEq, Int.reduceNeg, Int.reduceLT, Int.reduceLE, Int.reduceEq, Int.reduceToNat]
  refine loopW_loopO (m1 := .mk) (m2 := .mk) [.nf [0, 1, 5] [10000]] (m_laws_markNodeS_L1_St) l1 ?_ ?_
  · simp -implicitDefEqProofs -dsimp only [go_sem, ↓reduceIte, ↓dreduceIte, reduceCtorEq, Nat.reduceMul, Nat.reduceAdd, Nat.reduceSub, Nat.reduceDiv, Nat.reduceLT, Nat.reduceLeDiff, Nat.reduceEqDiff, Nat.reduceBEq, Int.reduceNeg, Int.reduceLT, Int.reduceLE, Int.reduceEq, Int.reduceToNat]
  · intro nb2 sb2 bb2 b2 gb2
    obtain ⟨k_1, i_1, a_1⟩ := sb2
    unfold m_laws_markNodeS_L1 at b2
    try dsimp only at b2
    rcases ite_some b2 with ⟨h3, b2⟩ | ⟨h3, b2⟩
    · obtain ⟨r1001, g4, b2⟩ := obnd_some b2
      simp -implicitDefEqProofs -dsimp only [go_sem, ↓reduceIte, ↓dreduceIte, reduceCtorEq, Nat.reduceMul, Nat.reduceAdd, Nat.reduceSub, Nat.reduceDiv, Nat.reduceLT, Nat.reduceLeDiff, Nat.reduceEqDiff, Nat.reduceBEq, Int.reduceNeg, Int.reduceLT, Int.reduceLE, Int.reduceEq, Int.reduceToNat, (eq_true h3)]
      refine callW_of (c_laws_markText g4) ?_
      obtain ⟨x1002, g5, b2⟩ := obnd_some b2
      obtain ⟨h6, h7, h8⟩ := getI_some g5
      obtain ⟨x1003, g9, b2⟩ := obnd_some b2
      obtain ⟨h10, h11, h12⟩ := getI_some g9
      obtain ⟨r1004, g13, b2⟩ := obnd_some b2
      obtain ⟨h14, b2⟩ := chk_some b2
      simp -implicitDefEqProofs -dsimp only [go_sem, ↓reduceIte, ↓dreduceIte, reduceCtorEq, Nat.reduceMul, Nat.reduceAdd, Nat.reduceSub, Nat.reduceDiv, Nat.reduceLT, Nat.reduceLeDiff, Nat.reduceEqDiff, Nat.reduceBEq, Int.reduceNeg, Int.reduceLT, Int.reduceLE, Int.reduceEq, Int.reduceToNat, (eq_true h3), h6, h7, h8, h10, h11, h12]
      refine viewW_of h14 (by simp only [go_sem]) (c_laws_markIntS g13) ?_
      obtain ⟨x1005, g15, b2⟩ := obnd_some b2
      obtain ⟨h16, h17, h18⟩ := getI_some g15
      cases b2
      simp -implicitDefEqProofs -dsimp only [go_sem, ↓reduceIte, ↓dreduceIte, reduceCtorEq, Nat.reduceMul, Nat.reduceAdd, Nat.reduceSub, Nat.reduceDiv, Nat.reduceLT, Nat.reduceLeDiff, Nat.reduceEqDiff, Nat.reduceBEq, Int.reduceNeg, Int.reduceLT, Int.reduceLE, Int.reduceEq, Int.reduceToNat, (eq_true h3), h6, h7, h8, h10, h11, h12, h16, h17, h18]
      refine next_of gb2 ?_
      simp -implicitDefEqProofs -dsimp only [go_sem, ↓reduceIte, ↓dreduceIte, reduceCtorEq, Nat.reduceMul, Nat.reduceAdd, Nat.reduceSub, Nat.reduceDiv, Nat.reduceLT, Nat.reduceLeDiff, Nat.reduceEqDiff, Nat.reduceBEq, Int.reduceNeg, Int.reduceLT, Int.reduceLE, Int.reduceEq, Int.reduceToNat, (eq_true h3), h6, h7, h8, h10, h11, h12, h16, h17, h18]
    · cases b2
      have e19 := done_of gb2
      subst e19
      try dsimp only at h
      cases h
      simp -implicitDefEqProofs -dsimp only [go_sem, ↓reduceIte, ↓dreduceIte, reduceCtorEq, Nat.reduceMul, Nat.reduceAdd, Nat.reduceSub, Nat.reduceDiv, Nat.reduceLT, Nat.reduceLeDiff, Nat.reduceEqDiff, Nat.reduceBEq, Int.reduceNeg, Int.reduceLT, Int.reduceLE, Int.reduceEq, Int.reduceToNat, (eq_false h3)]
/- 93 loop.example/g00827/laws.markTieS -/
def m_laws_markTieS_L1_St  : (Int × Int × (List GTie)) → St
  | (k, i, a) => ⟨[(0, .ref 10000 0 0 a.length), (1, .lit (.int .i64 k)), (5, .lit (.int .i64 i))], [(10000, 0, .row true (rowsOf GTie.enc a))], 2⟩
attribute [go_sem] m_laws_markTieS_L1_St
def hi93 : Hint where
  acts := fun _ => []
  draws := fun
    | _ => ⟨[], [], []⟩
theorem hi93a (i : Nat) : hi93.acts i = [] := rfl
theorem hi93v (i : Nat) : hi93.views i = none := rfl
attribute [go_sem] hi93a hi93v Go.Proofs.Try.ntmps93 Go.Proofs.Try.results93
theorem c_laws_markTieS {a : List GTie} {k : Int} {res : Int × (List GTie)} (h : m_laws_markTieS a k = some res) : CallOk Go.Proofs.Try.prog 93 [.ref 10000 0 0 a.length, .lit (.int .i64 k)] [(10000, 0, .row true (rowsOf GTie.enc a))] (.lit (.int .i64 res.1)) [(10000, 0, .row true (rowsOf GTie.enc res.2))] := by
  refine callOk_of (ra := []) (md := mdT) hT (hi := hi93) Go.Proofs.Try.func93 rfl rfl (by decide +kernel) (by simp) ?_
  unfold m_laws_markTieS at h
  obtain ⟨q1006, l1, h⟩ := obnd_some h
  simp -implicitDefEqProofs -dsimp only [go_sem, ↓reduceIte, ↓dreduceIte, reduceCtorEq, Nat.reduceMul, Nat.reduceAdd, Nat.reduceSub, Nat.reduceDiv, Nat.reduceLT, Nat.reduceLeDiff, Nat.reduceEqDiff, Nat.reduceBEq, Int.reduceNeg, Int.reduceLT, Int.reduceLE, Int.reduceEq, Int.reduceToNat]
  refine loopW_loopO (m1 := .mk) (m2 := .mk) [.nf [0, 1, 5] [10000]] (m_laws_markTieS_L1_St) l1 ?_ ?_
  · simp -implicitDefEqProofs -dsimp only [go_sem, ↓reduceIte, ↓dreduceIte, reduceCtorEq, Nat.reduceMul, Nat.reduceAdd, Nat.reduceSub, Nat.reduceDiv, Nat.reduceLT, Nat.reduceLeDiff, Nat.reduceEqDiff, Nat.reduceBEq, Int.reduceNeg, Int.reduceLT, Int.reduceLE, Int.reduceEq, Int.reduceToNat]
  · intro nb2 sb2 bb2 b2 gb2
    obtain ⟨k_1, i_1, a_1⟩ := sb2
    unfold m_laws_markTieS_L1 at b2
    try dsimp only at b2
    rcases ite_some b2 with ⟨h3, b2⟩ | ⟨h3, b2⟩
    · obtain ⟨x1001, g4, b2⟩ := obnd_some b2
      obtain ⟨h5, h6, h7⟩ := getI_some g4
      obtain ⟨x1002, g8, b2⟩ := obnd_some b2
      obtain ⟨h9, h10, h11⟩ := getI_some g8
      obtain ⟨x1003, g12, b2⟩ := obnd_some b2
      obtain ⟨h13, h14, h15⟩ := getI_some g12
      obtain ⟨x1004, g16, b2⟩ := obnd_some b2
      obtain ⟨h17, h18, h19⟩ := getI_some g16
      obtain ⟨x1005, g20, b2⟩ := obnd_some b2
      obtain ⟨h21, h22, h23⟩ := getI_some g20
      cases b2
      simp -implicitDefEqProofs -dsimp only [go_sem, ↓reduceIte, ↓dreduceIte, reduceCtorEq, Nat.reduceMul, Nat.reduceAdd, Nat.reduceSub, Nat.reduceDiv, Nat.reduceLT, Nat.reduceLeDiff, Nat.reduceEqDiff, Nat.reduceBEq, Int.reduceNeg, Int.reduceLT, Int.reduceLE, Int.reduceEq, Int.reduceToNat, (eq_true h3), h5, h6, h7, h9, h10, h11, h13, h14, h15, h17, h18, h19, h21, h22, h23]
      refine next_of gb2 ?_
      simp -implicitDefEqProofs -dsimp only [go_sem, ↓reduceIte, ↓dreduceIte, reduceCtorEq, Nat.reduceMul, Nat.reduceAdd, Nat.reduceSub, Nat.reduceDiv, Nat.reduceLT, Nat.reduceLeDiff, Nat.reduceEqDiff, Nat.reduceBEq, Int.reduceNeg, Int.reduceLT, Int.reduceLE, Int.reduceEq, Int.reduceToNat, (eq_true h3), h5, h6, h7, h9, h10, h11, h13, h14, h15, h17, h18, h19, h21, h22, h23]
    · cases b2
      have e24 := done_of gb2
      subst e24
      try dsimp only at h
      cases h
      simp -implicitDefEqProofs -dsimp only [go_sem, ↓reduceIte, ↓dreduceIte, reduceCtorEq, Nat.reduceMul, Nat.reduceAdd, Nat.reduceSub, Nat.reduceDiv, Nat.reduceLT, Nat.reduceLeDiff, Nat.reduceEqDiff, Nat.reduceBEq, Int.reduceNeg, Int.reduceLT, Int.reduceLE, Int.reduceEq, Int.reduceToNat, (eq_false h3)]
/- 25 loop.example/g00827/laws.markShow -/
def hi25 : Hint where
  acts := fun _ => []
  draws := fun
    | _ => ⟨[], [], []⟩
theorem hi25a (i : Nat) : hi25.acts i = [] := rfl
theorem hi25v (i : Nat) : hi25.views i = none := rfl
attribute [go_sem] hi25a hi25v Go.Proofs.Try.ntmps25 Go.Proofs.Try.results25
theorem c_laws_markShow {a : GShow} {k : Int} {res : Int × (List GNode) × (List GTie)} (h : m_laws_markShow a k = some res) : CallOk Go.Proofs.Try.prog 25 [.agg [.ref 10000 0 0 a.nodes.length, .ref 10001 0 0 a.ties.length, .lit (.int .i64 a.horizon)], .lit (.int .i64 k)] [(10000, 0, .row true (rowsOf GNode.encO a.nodes)), (10001, 0, .row true (rowsOf GTie.enc a.ties))] (.lit (.int .i64 res.1)) [(10000, 0, .row true (rowsOf GNode.encO res.2.1)), (10001, 0, .row true (rowsOf GTie.enc res.2.2))] := by
  refine callOk_of (ra := []) (md := mdT) hT (hi := hi25) Go.Proofs.Try.func25 rfl rfl (by decide +kernel) (by simp) ?_
  unfold m_laws_markShow at h
  obtain ⟨r1001, g1, h⟩ := obnd_some h
  simp -implicitDefEqProofs -dsimp only [go_sem, ↓reduceIte, ↓dreduceIte, reduceCtorEq, Nat.reduceMul, Nat.reduceAdd, Nat.reduceSub, Nat.reduceDiv, Nat.reduceLT, Nat.reduceLeDiff, Nat.reduceEqDiff, Nat.reduceBEq, Int.reduceNeg, Int.reduceLT, Int.reduceLE, Int.reduceEq, Int.reduceToNat]
  refine callW_of (c_laws_markNodeS g1) ?_
  obtain ⟨r1002, g2, h⟩ := obnd_some h
  simp -implicitDefEqProofs -dsimp only [go_sem, ↓reduceIte, ↓dreduceIte, reduceCtorEq, Nat.reduceMul, Nat.reduceAdd, Nat.reduceSub, Nat.reduceDiv, Nat.reduceLT, Nat.reduceLeDiff, Nat.reduceEqDiff, Nat.reduceBEq, Int.reduceNeg, Int.reduceLT, Int.reduceLE, Int.reduceEq, Int.reduceToNat]
  refine callW_of (c_laws_markTieS g2) ?_
  cases h
  simp -implicitDefEqProofs -dsimp only [go_sem, ↓reduceIte, ↓dreduceIte, reduceCtorEq, Nat.reduceMul, Nat.reduceAdd, Nat.reduceSub, Nat.reduceDiv, Nat.reduceLT, Nat.reduceLeDiff, Nat.reduceEqDiff, Nat.reduceBEq, Int.reduceNeg, Int.reduceLT, Int.reduceLE, Int.reduceEq, Int.reduceToNat]
/- 27 loop.example/g00827/laws.heldIntS -/
def m_laws_heldIntS_L1_St (a : List Int) : (Int × Int) → St
  | (k, i) => ⟨[(0, .sl (rowsOf eI a)), (1, .lit (.int .i64 k)), (5, .lit (.int .i64 i))], [], 2⟩
attribute [go_sem] m_laws_heldIntS_L1_St
def hi27 : Hint where
  acts := fun _ => []
  draws := fun
    | _ => ⟨[], [], []⟩
theorem hi27a (i : Nat) : hi27.acts i = [] := rfl
theorem hi27v (i : Nat) : hi27.views i = none := rfl
attribute [go_sem] hi27a hi27v Go.Proofs.Try.ntmps27 Go.Proofs.Try.results27
theorem c_laws_heldIntS {a : List Int} {k : Int} {res : Int} (h : m_laws_heldIntS a k = some res) : CallOk Go.Proofs.Try.prog 27 [.sl (rowsOf eI a), .lit (.int .i64 k)] [] (.lit (.int .i64 res)) [] := by
  refine callOk_of (ra := []) (md := mdT) hT (hi := hi27) Go.Proofs.Try.func27 rfl rfl (by decide +kernel) (by simp) ?_
  unfold m_laws_heldIntS at h
  obtain ⟨q1002, l1, h⟩ := obnd_some h
  simp -implicitDefEqProofs -dsimp only [go_sem, ↓reduceIte, ↓dreduceIte, reduceCtorEq, Nat.reduceMul, Nat.reduceAdd, Nat.reduceSub, Nat.reduceDiv, Nat.reduceLT, Nat.reduceLeDiff, Nat.reduceEqDiff, Nat.reduceBEq, Int.reduceNeg, Int.reduceLT, Int.reduceLE, Int.reduceEq, Int.reduceToNat]
  refine loopW_loopO (m1 := .mk) (m2 := .mk) [.nf [0, 1, 5] []] (m_laws_heldIntS_L1_St a) l1 ?_ ?_
  · simp -implicitDefEqProofs -dsimp only [go_sem, ↓reduceIte, ↓dreduceIte, reduceCtorEq, Nat.reduceMul, Nat.reduceAdd, Nat.reduceSub, Nat.reduceDiv, Nat.reduceLT, Nat.reduceLeDiff, Nat.reduceEqDiff, Nat.reduceBEq, Int.reduceNeg, Int.reduceLT, Int.reduceLE, Int.reduceEq, Int.reduceToNat]
  · intro nb2 sb2 bb2 b2 gb2
    obtain ⟨k_1, i_1⟩ := sb2
    unfold m_laws_heldIntS_L1 at b2
    try dsimp only at b2
    rcases ite_some b2 with ⟨h3, b2⟩ | ⟨h3, b2⟩
    · obtain ⟨x1001, g4, b2⟩ := obnd_some b2
      obtain ⟨h5, h6, h7⟩ := getI_some g4
      rcases ite_some b2 with ⟨h8, b2⟩ | ⟨h8, b2⟩
      · cases b2
        simp -implicitDefEqProofs -dsimp only [go_sem, ↓reduceIte, ↓dreduceIte, reduceCtorEq, Nat.reduceMul, Nat.reduceAdd, Nat.reduceSub, Nat.reduceDiv, Nat.reduceLT, Nat.reduceLeDiff, Nat.reduceEqDiff, Nat.reduceBEq, Int.reduceNeg, Int.reduceLT, Int.reduceLE, Int.reduceEq, Int.reduceToNat, (eq_true h3), h5, h6, h7, (eq_true h8)]
        refine next_of gb2 ?_
        simp -implicitDefEqProofs -dsimp only [go_sem, ↓reduceIte, ↓dreduceIte, reduceCtorEq, Nat.reduceMul, Nat.reduceAdd, Nat.reduceSub, Nat.reduceDiv, Nat.reduceLT, Nat.reduceLeDiff, Nat.reduceEqDiff, Nat.reduceBEq, Int.reduceNeg, Int.reduceLT, Int.reduceLE, Int.reduceEq, Int.reduceToNat, (eq_true h3), h5, h6, h7, (eq_true h8)]
      · cases b2
        have e9 := done_of gb2
        subst e9
        try dsimp only at h
        cases h
        simp -implicitDefEqProofs -dsimp only [go_sem, ↓reduceIte, ↓dreduceIte, reduceCtorEq, Nat.reduceMul, Nat.reduceAdd, Nat.reduceSub, Nat.reduceDiv, Nat.reduceLT, Nat.reduceLeDiff, Nat.reduceEqDiff, Nat.reduceBEq, Int.reduceNeg, Int.reduceLT, Int.reduceLE, Int.reduceEq, Int.reduceToNat, (eq_true h3), h5, h6, h7, (eq_false h8)]
    · cases b2
      have e10 := done_of gb2
      subst e10
      try dsimp only at h
      cases h
      simp -implicitDefEqProofs -dsimp only [go_sem, ↓reduceIte, ↓dreduceIte, reduceCtorEq, Nat.reduceMul, Nat.reduceAdd, Nat.reduceSub, Nat.reduceDiv, Nat.reduceLT, Nat.reduceLeDiff, Nat.reduceEqDiff, Nat.reduceBEq, Int.reduceNeg, Int.reduceLT, Int.reduceLE, Int.reduceEq, Int.reduceToNat, (eq_false h3)]
/- 10 loop.example/g00827/laws.FnExactBrokenTies -/
def hi10 : Hint where
  acts := fun _ => []
  draws := fun
    | 13 => ⟨[⟨0, true, []⟩, ⟨1, false, []⟩, ⟨2, false, [0]⟩, ⟨3, false, []⟩, ⟨4, false, []⟩], [[], [], [1], [0, 1, 2], [0, 1, 2, 3]], [0, 1, 2, 3, 4]⟩
    | _ => ⟨[], [], []⟩
theorem hi10a (i : Nat) : hi10.acts i = [] := rfl
theorem hi10v (i : Nat) : hi10.views i = none := rfl
attribute [go_sem] hi10a hi10v Go.Proofs.Try.ntmps10 Go.Proofs.Try.results10
@[go_sem] theorem hi10d13 : (hi10.draws 13).order = [⟨0, true, []⟩, ⟨1, false, []⟩, ⟨2, false, [0]⟩, ⟨3, false, []⟩, ⟨4, false, []⟩] := rfl
theorem c_laws_FnExactBrokenTies {aS : GShow} {aTimes : List Int} {res : Bool} (h : m_laws_FnExactBrokenTies aS aTimes = some res) : CallOk Go.Proofs.Try.prog 10 [.agg [.sl (rowsOf GNode.encS aS.nodes), .sl (rowsOf GTie.enc aS.ties), .lit (.int .i64 aS.horizon)], .sl (rowsOf eI aTimes)] [] (.lit (.bool res)) [] := by
  refine callOk_of (ra := []) (md := mdT) hT (hi := hi10) Go.Proofs.Try.func10 rfl rfl (by decide +kernel) (by simp) ?_
  unfold m_laws_FnExactBrokenTies at h
  rcases ite_some h with ⟨h1, h⟩ | ⟨h1, h⟩
  · cases h
    simp -implicitDefEqProofs -dsimp only [go_sem, ↓reduceIte, ↓dreduceIte, reduceCtorEq, Nat.reduceMul, Nat.reduceAdd, Nat.reduceSub, Nat.reduceDiv, Nat.reduceLT, Nat.reduceLeDiff, Nat.reduceEqDiff, Nat.reduceBEq, Int.reduceNeg, Int.reduceLT, Int.reduceLE, Int.reduceEq, Int.reduceToNat, (eq_true h1)]
  · obtain ⟨r1001, g2, h⟩ := obnd_some h
    simp -implicitDefEqProofs -dsimp only [go_sem, ↓reduceIte, ↓dreduceIte, reduceCtorEq, Nat.reduceMul, Nat.reduceAdd, Nat.reduceSub, Nat.reduceDiv, Nat.reduceLT, Nat.reduceLeDiff, Nat.reduceEqDiff, Nat.reduceBEq, Int.reduceNeg, Int.reduceLT, Int.reduceLE, Int.reduceEq, Int.reduceToNat, (eq_false h1)]
    refine callW_of (c_laws_szShow g2) ?_
    rcases ite_some h with ⟨h3, h⟩ | ⟨h3, h⟩
    · cases h
      simp -implicitDefEqProofs -dsimp only [go_sem, ↓reduceIte, ↓dreduceIte, reduceCtorEq, Nat.reduceMul, Nat.reduceAdd, Nat.reduceSub, Nat.reduceDiv, Nat.reduceLT, Nat.reduceLeDiff, Nat.reduceEqDiff, Nat.reduceBEq, Int.reduceNeg, Int.reduceLT, Int.reduceLE, Int.reduceEq, Int.reduceToNat, (eq_false h1), (eq_true h3)]
    · obtain ⟨r1002, g4, h⟩ := obnd_some h
      simp -implicitDefEqProofs -dsimp only [go_sem, ↓reduceIte, ↓dreduceIte, reduceCtorEq, Nat.reduceMul, Nat.reduceAdd, Nat.reduceSub, Nat.reduceDiv, Nat.reduceLT, Nat.reduceLeDiff, Nat.reduceEqDiff, Nat.reduceBEq, Int.reduceNeg, Int.reduceLT, Int.reduceLE, Int.reduceEq, Int.reduceToNat, (eq_false h1), (eq_false h3)]
      refine callW_of (c_laws_toShow g4) ?_
      obtain ⟨r1003, g5, h⟩ := obnd_some h
      simp -implicitDefEqProofs -dsimp only [go_sem, ↓reduceIte, ↓dreduceIte, reduceCtorEq, Nat.reduceMul, Nat.reduceAdd, Nat.reduceSub, Nat.reduceDiv, Nat.reduceLT, Nat.reduceLeDiff, Nat.reduceEqDiff, Nat.reduceBEq, Int.reduceNeg, Int.reduceLT, Int.reduceLE, Int.reduceEq, Int.reduceToNat, (eq_false h1), (eq_false h3)]
      refine callW_of (c_laws_toIntS g5) ?_
      obtain ⟨r1004, g6, h⟩ := obnd_some h
      simp -implicitDefEqProofs -dsimp only [go_sem, ↓reduceIte, ↓dreduceIte, reduceCtorEq, Nat.reduceMul, Nat.reduceAdd, Nat.reduceSub, Nat.reduceDiv, Nat.reduceLT, Nat.reduceLeDiff, Nat.reduceEqDiff, Nat.reduceBEq, Int.reduceNeg, Int.reduceLT, Int.reduceLE, Int.reduceEq, Int.reduceToNat, (eq_false h1), (eq_false h3)]
      refine callW_of (c_spec_BrokenTies g6) ?_
      obtain ⟨r1005, g7, h⟩ := obnd_some h
      simp -implicitDefEqProofs -dsimp only [go_sem, ↓reduceIte, ↓dreduceIte, reduceCtorEq, Nat.reduceMul, Nat.reduceAdd, Nat.reduceSub, Nat.reduceDiv, Nat.reduceLT, Nat.reduceLeDiff, Nat.reduceEqDiff, Nat.reduceBEq, Int.reduceNeg, Int.reduceLT, Int.reduceLE, Int.reduceEq, Int.reduceToNat, (eq_false h1), (eq_false h3)]
      refine callW_of (c_laws_toShow g7) ?_
      obtain ⟨r1006, g8, h⟩ := obnd_some h
      simp -implicitDefEqProofs -dsimp only [go_sem, ↓reduceIte, ↓dreduceIte, reduceCtorEq, Nat.reduceMul, Nat.reduceAdd, Nat.reduceSub, Nat.reduceDiv, Nat.reduceLT, Nat.reduceLeDiff, Nat.reduceEqDiff, Nat.reduceBEq, Int.reduceNeg, Int.reduceLT, Int.reduceLE, Int.reduceEq, Int.reduceToNat, (eq_false h1), (eq_false h3)]
      refine callW_of (c_laws_toIntS g8) ?_
      obtain ⟨r1007, g9, h⟩ := obnd_some h
      simp -implicitDefEqProofs -dsimp only [go_sem, ↓reduceIte, ↓dreduceIte, reduceCtorEq, Nat.reduceMul, Nat.reduceAdd, Nat.reduceSub, Nat.reduceDiv, Nat.reduceLT, Nat.reduceLeDiff, Nat.reduceEqDiff, Nat.reduceBEq, Int.reduceNeg, Int.reduceLT, Int.reduceLE, Int.reduceEq, Int.reduceToNat, (eq_false h1), (eq_false h3)]
      refine callW_of (c_impl_BrokenTies g9) ?_
      obtain ⟨r1008, g10, h⟩ := obnd_some h
      simp -implicitDefEqProofs -dsimp only [go_sem, ↓reduceIte, ↓dreduceIte, reduceCtorEq, Nat.reduceMul, Nat.reduceAdd, Nat.reduceSub, Nat.reduceDiv, Nat.reduceLT, Nat.reduceLeDiff, Nat.reduceEqDiff, Nat.reduceBEq, Int.reduceNeg, Int.reduceLT, Int.reduceLE, Int.reduceEq, Int.reduceToNat, (eq_false h1), (eq_false h3)]
      refine callW_of (c_laws_eqIntS g10) ?_
      rcases ite_some h with ⟨h11, h⟩ | ⟨h11, h⟩
      · obtain ⟨r1009, g12, h⟩ := obnd_some h
        simp -implicitDefEqProofs -dsimp only [go_sem, ↓reduceIte, ↓dreduceIte, reduceCtorEq, Nat.reduceMul, Nat.reduceAdd, Nat.reduceSub, Nat.reduceDiv, Nat.reduceLT, Nat.reduceLeDiff, Nat.reduceEqDiff, Nat.reduceBEq, Int.reduceNeg, Int.reduceLT, Int.reduceLE, Int.reduceEq, Int.reduceToNat, (eq_false h1), (eq_false h3), (eq_true h11), (condZ_t h11)]
        refine callW_of (c_laws_toShow g12) ?_
        obtain ⟨r1010, g13, h⟩ := obnd_some h
        simp -implicitDefEqProofs -dsimp only [go_sem, ↓reduceIte, ↓dreduceIte, reduceCtorEq, Nat.reduceMul, Nat.reduceAdd, Nat.reduceSub, Nat.reduceDiv, Nat.reduceLT, Nat.reduceLeDiff, Nat.reduceEqDiff, Nat.reduceBEq, Int.reduceNeg, Int.reduceLT, Int.reduceLE, Int.reduceEq, Int.reduceToNat, (eq_false h1), (eq_false h3), (eq_true h11), (condZ_t h11)]
        refine callW_of (c_laws_eqShow g13) ?_
        rcases ite_some h with ⟨h14, h⟩ | ⟨h14, h⟩
        · obtain ⟨r1011, g15, h⟩ := obnd_some h
          simp -implicitDefEqProofs -dsimp only [go_sem, ↓reduceIte, ↓dreduceIte, reduceCtorEq, Nat.reduceMul, Nat.reduceAdd, Nat.reduceSub, Nat.reduceDiv, Nat.reduceLT, Nat.reduceLeDiff, Nat.reduceEqDiff, Nat.reduceBEq, Int.reduceNeg, Int.reduceLT, Int.reduceLE, Int.reduceEq, Int.reduceToNat, (eq_false h1), (eq_false h3), (eq_true h11), (condZ_t h11), (eq_true h14), (condZ_t h14)]
          refine callW_of (c_laws_toIntS g15) ?_
          obtain ⟨r1012, g16, h⟩ := obnd_some h
          simp -implicitDefEqProofs -dsimp only [go_sem, ↓reduceIte, ↓dreduceIte, reduceCtorEq, Nat.reduceMul, Nat.reduceAdd, Nat.reduceSub, Nat.reduceDiv, Nat.reduceLT, Nat.reduceLeDiff, Nat.reduceEqDiff, Nat.reduceBEq, Int.reduceNeg, Int.reduceLT, Int.reduceLE, Int.reduceEq, Int.reduceToNat, (eq_false h1), (eq_false h3), (eq_true h11), (condZ_t h11), (eq_true h14), (condZ_t h14)]
          refine callW_of (c_laws_eqIntS g16) ?_
          rcases ite_some h with ⟨h17, h⟩ | ⟨h17, h⟩
          · obtain ⟨r1013, g18, h⟩ := obnd_some h
            simp -implicitDefEqProofs -dsimp only [go_sem, ↓reduceIte, ↓dreduceIte, reduceCtorEq, Nat.reduceMul, Nat.reduceAdd, Nat.reduceSub, Nat.reduceDiv, Nat.reduceLT, Nat.reduceLeDiff, Nat.reduceEqDiff, Nat.reduceBEq, Int.reduceNeg, Int.reduceLT, Int.reduceLE, Int.reduceEq, Int.reduceToNat, (eq_false h1), (eq_false h3), (eq_true h11), (condZ_t h11), (eq_true h14), (condZ_t h14), (eq_true h17), (condZ_t h17)]
            refine callW_of (c_laws_markShow g18) ?_
            obtain ⟨r1014, g19, h⟩ := obnd_some h
            simp -implicitDefEqProofs -dsimp only [go_sem, ↓reduceIte, ↓dreduceIte, reduceCtorEq, Nat.reduceMul, Nat.reduceAdd, Nat.reduceSub, Nat.reduceDiv, Nat.reduceLT, Nat.reduceLeDiff, Nat.reduceEqDiff, Nat.reduceBEq, Int.reduceNeg, Int.reduceLT, Int.reduceLE, Int.reduceEq, Int.reduceToNat, (eq_false h1), (eq_false h3), (eq_true h11), (condZ_t h11), (eq_true h14), (condZ_t h14), (eq_true h17), (condZ_t h17)]
            refine callW_of (c_laws_markIntS g19) ?_
            rcases ite_some h with ⟨h20, h⟩ | ⟨h20, h⟩
            · cases h
              simp -implicitDefEqProofs -dsimp only [go_sem, ↓reduceIte, ↓dreduceIte, reduceCtorEq, Nat.reduceMul, Nat.reduceAdd, Nat.reduceSub, Nat.reduceDiv, Nat.reduceLT, Nat.reduceLeDiff, Nat.reduceEqDiff, Nat.reduceBEq, Int.reduceNeg, Int.reduceLT, Int.reduceLE, Int.reduceEq, Int.reduceToNat, (eq_false h1), (eq_false h3), (eq_true h11), (condZ_t h11), (eq_true h14), (condZ_t h14), (eq_true h17), (condZ_t h17), (eq_true h20)]
            · obtain ⟨r1015, g21, h⟩ := obnd_some h
              simp -implicitDefEqProofs -dsimp only [go_sem, ↓reduceIte, ↓dreduceIte, reduceCtorEq, Nat.reduceMul, Nat.reduceAdd, Nat.reduceSub, Nat.reduceDiv, Nat.reduceLT, Nat.reduceLeDiff, Nat.reduceEqDiff, Nat.reduceBEq, Int.reduceNeg, Int.reduceLT, Int.reduceLE, Int.reduceEq, Int.reduceToNat, (eq_false h1), (eq_false h3), (eq_true h11), (condZ_t h11), (eq_true h14), (condZ_t h14), (eq_true h17), (condZ_t h17), (eq_false h20)]
              refine callW_of (c_laws_eqIntS g21) ?_
              rcases ite_some h with ⟨h22, h⟩ | ⟨h22, h⟩
              · obtain ⟨r1016, g23, h⟩ := obnd_some h
                simp -implicitDefEqProofs -dsimp only [go_sem, ↓reduceIte, ↓dreduceIte, reduceCtorEq, Nat.reduceMul, Nat.reduceAdd, Nat.reduceSub, Nat.reduceDiv, Nat.reduceLT, Nat.reduceLeDiff, Nat.reduceEqDiff, Nat.reduceBEq, Int.reduceNeg, Int.reduceLT, Int.reduceLE, Int.reduceEq, Int.reduceToNat, (eq_false h1), (eq_false h3), (eq_true h11), (condZ_t h11), (eq_true h14), (condZ_t h14), (eq_true h17), (condZ_t h17), (eq_false h20), (eq_true h22), (condZ_t h22)]
                refine callW_of (c_laws_markIntS g23) ?_
                obtain ⟨h24, h⟩ := chk_some h
                obtain ⟨r1017, g25, h⟩ := obnd_some h
                simp -implicitDefEqProofs -dsimp only [go_sem, ↓reduceIte, ↓dreduceIte, reduceCtorEq, Nat.reduceMul, Nat.reduceAdd, Nat.reduceSub, Nat.reduceDiv, Nat.reduceLT, Nat.reduceLeDiff, Nat.reduceEqDiff, Nat.reduceBEq, Int.reduceNeg, Int.reduceLT, Int.reduceLE, Int.reduceEq, Int.reduceToNat, (eq_false h1), (eq_false h3), (eq_true h11), (condZ_t h11), (eq_true h14), (condZ_t h14), (eq_true h17), (condZ_t h17), (eq_false h20), (eq_true h22), (condZ_t h22), (eq_true h24)]
                refine callW_of (c_laws_heldIntS g25) ?_
                rcases ite_some h with ⟨h26, h⟩ | ⟨h26, h⟩
                · cases h
                  simp -implicitDefEqProofs -dsimp only [go_sem, ↓reduceIte, ↓dreduceIte, reduceCtorEq, Nat.reduceMul, Nat.reduceAdd, Nat.reduceSub, Nat.reduceDiv, Nat.reduceLT, Nat.reduceLeDiff, Nat.reduceEqDiff, Nat.reduceBEq, Int.reduceNeg, Int.reduceLT, Int.reduceLE, Int.reduceEq, Int.reduceToNat, (eq_false h1), (eq_false h3), (eq_true h11), (condZ_t h11), (eq_true h14), (condZ_t h14), (eq_true h17), (condZ_t h17), (eq_false h20), (eq_true h22), (condZ_t h22), (eq_true h24), (eq_true h26)]
                · rcases ite_some h with ⟨h27, h⟩ | ⟨h27, h⟩
                  · obtain ⟨r1018, g28, h⟩ := obnd_some h
                    simp -implicitDefEqProofs -dsimp only [go_sem, ↓reduceIte, ↓dreduceIte, reduceCtorEq, Nat.reduceMul, Nat.reduceAdd, Nat.reduceSub, Nat.reduceDiv, Nat.reduceLT, Nat.reduceLeDiff, Nat.reduceEqDiff, Nat.reduceBEq, Int.reduceNeg, Int.reduceLT, Int.reduceLE, Int.reduceEq, Int.reduceToNat, (eq_false h1), (eq_false h3), (eq_true h11), (condZ_t h11), (eq_true h14), (condZ_t h14), (eq_true h17), (condZ_t h17), (eq_false h20), (eq_true h22), (condZ_t h22), (eq_true h24), (eq_false h26), (eq_true h27)]
                    refine callW_of (c_laws_toShow g28) ?_
                    obtain ⟨r1019, g29, h⟩ := obnd_some h
                    simp -implicitDefEqProofs -dsimp only [go_sem, ↓reduceIte, ↓dreduceIte, reduceCtorEq, Nat.reduceMul, Nat.reduceAdd, Nat.reduceSub, Nat.reduceDiv, Nat.reduceLT, Nat.reduceLeDiff, Nat.reduceEqDiff, Nat.reduceBEq, Int.reduceNeg, Int.reduceLT, Int.reduceLE, Int.reduceEq, Int.reduceToNat, (eq_false h1), (eq_false h3), (eq_true h11), (condZ_t h11), (eq_true h14), (condZ_t h14), (eq_true h17), (condZ_t h17), (eq_false h20), (eq_true h22), (condZ_t h22), (eq_true h24), (eq_false h26), (eq_true h27)]
                    refine callW_of (c_laws_toIntS g29) ?_
                    obtain ⟨r1020, g30, h⟩ := obnd_some h
                    simp -implicitDefEqProofs -dsimp only [go_sem, ↓reduceIte, ↓dreduceIte, reduceCtorEq, Nat.reduceMul, Nat.reduceAdd, Nat.reduceSub, Nat.reduceDiv, Nat.reduceLT, Nat.reduceLeDiff, Nat.reduceEqDiff, Nat.reduceBEq, Int.reduceNeg, Int.reduceLT, Int.reduceLE, Int.reduceEq, Int.reduceToNat, (eq_false h1), (eq_false h3), (eq_true h11), (condZ_t h11), (eq_true h14), (condZ_t h14), (eq_true h17), (condZ_t h17), (eq_false h20), (eq_true h22), (condZ_t h22), (eq_true h24), (eq_false h26), (eq_true h27)]
                    refine callW_of (c_impl_BrokenTies g30) ?_
                    obtain ⟨r1021, g31, h⟩ := obnd_some h
                    simp -implicitDefEqProofs -dsimp only [go_sem, ↓reduceIte, ↓dreduceIte, reduceCtorEq, Nat.reduceMul, Nat.reduceAdd, Nat.reduceSub, Nat.reduceDiv, Nat.reduceLT, Nat.reduceLeDiff, Nat.reduceEqDiff, Nat.reduceBEq, Int.reduceNeg, Int.reduceLT, Int.reduceLE, Int.reduceEq, Int.reduceToNat, (eq_false h1), (eq_false h3), (eq_true h11), (condZ_t h11), (eq_true h14), (condZ_t h14), (eq_true h17), (condZ_t h17), (eq_false h20), (eq_true h22), (condZ_t h22), (eq_true h24), (eq_false h26), (eq_true h27)]
                    refine callW_of (c_laws_eqIntS g31) ?_
                    rcases ite_some h with ⟨h32, h⟩ | ⟨h32, h⟩
                    · obtain ⟨r1022, g33, h⟩ := obnd_some h
                      simp -implicitDefEqProofs -dsimp only [go_sem, ↓reduceIte, ↓dreduceIte, reduceCtorEq, Nat.reduceMul, Nat.reduceAdd, Nat.reduceSub, Nat.reduceDiv, Nat.reduceLT, Nat.reduceLeDiff, Nat.reduceEqDiff, Nat.reduceBEq, Int.reduceNeg, Int.reduceLT, Int.reduceLE, Int.reduceEq, Int.reduceToNat, (eq_false h1), (eq_false h3), (eq_true h11), (condZ_t h11), (eq_true h14), (condZ_t h14), (eq_true h17), (condZ_t h17), (eq_false h20), (eq_true h22), (condZ_t h22), (eq_true h24), (eq_false h26), (eq_true h27), (eq_true h32), (condZ_t h32)]
                      refine callW_of (c_laws_heldIntS g33) ?_
                      rcases ite_some h with ⟨h34, h⟩ | ⟨h34, h⟩
                      · cases h
                        simp -implicitDefEqProofs -dsimp only [go_sem, ↓reduceIte, ↓dreduceIte, reduceCtorEq, Nat.reduceMul, Nat.reduceAdd, Nat.reduceSub, Nat.reduceDiv, Nat.reduceLT, Nat.reduceLeDiff, Nat.reduceEqDiff, Nat.reduceBEq, Int.reduceNeg, Int.reduceLT, Int.reduceLE, Int.reduceEq, Int.reduceToNat, (eq_false h1), (eq_false h3), (eq_true h11), (condZ_t h11), (eq_true h14), (condZ_t h14), (eq_true h17), (condZ_t h17), (eq_false h20), (eq_true h22), (condZ_t h22), (eq_true h24), (eq_false h26), (eq_true h27), (eq_true h32), (condZ_t h32), (eq_true h34)]
                      · rcases ite_some h with ⟨h35, h⟩ | ⟨h35, h⟩
                        · cases h
                          simp -implicitDefEqProofs -dsimp only [go_sem, ↓reduceIte, ↓dreduceIte, reduceCtorEq, Nat.reduceMul, Nat.reduceAdd, Nat.reduceSub, Nat.reduceDiv, Nat.reduceLT, Nat.reduceLeDiff, Nat.reduceEqDiff, Nat.reduceBEq, Int.reduceNeg, Int.reduceLT, Int.reduceLE, Int.reduceEq, Int.reduceToNat, (eq_false h1), (eq_false h3), (eq_true h11), (condZ_t h11), (eq_true h14), (condZ_t h14), (eq_true h17), (condZ_t h17), (eq_false h20), (eq_true h22), (condZ_t h22), (eq_true h24), (eq_false h26), (eq_true h27), (eq_true h32), (condZ_t h32), (eq_false h34), (eq_true h35)]
                        · cases h
                          simp -implicitDefEqProofs -dsimp only [go_sem, ↓reduceIte, ↓dreduceIte, reduceCtorEq, Nat.reduceMul, Nat.reduceAdd, Nat.reduceSub, Nat.reduceDiv, Nat.reduceLT, Nat.reduceLeDiff, Nat.reduceEqDiff, Nat.reduceBEq, Int.reduceNeg, Int.reduceLT, Int.reduceLE, Int.reduceEq, Int.reduceToNat, (eq_false h1), (eq_false h3), (eq_true h11), (condZ_t h11), (eq_true h14), (condZ_t h14), (eq_true h17), (condZ_t h17), (eq_false h20), (eq_true h22), (condZ_t h22), (eq_true h24), (eq_false h26), (eq_true h27), (eq_true h32), (condZ_t h32), (eq_false h34), (eq_false h35)]
                    · cases h
                      simp -implicitDefEqProofs -dsimp only [go_sem, ↓reduceIte, ↓dreduceIte, reduceCtorEq, Nat.reduceMul, Nat.reduceAdd, Nat.reduceSub, Nat.reduceDiv, Nat.reduceLT, Nat.reduceLeDiff, Nat.reduceEqDiff, Nat.reduceBEq, Int.reduceNeg, Int.reduceLT, Int.reduceLE, Int.reduceEq, Int.reduceToNat, (eq_false h1), (eq_false h3), (eq_true h11), (condZ_t h11), (eq_true h14), (condZ_t h14), (eq_true h17), (condZ_t h17), (eq_false h20), (eq_true h22), (condZ_t h22), (eq_true h24), (eq_false h26), (eq_true h27), (eq_false h32), (condZ_f h32)]
                  · cases h
                    simp -implicitDefEqProofs -dsimp only [go_sem, ↓reduceIte, ↓dreduceIte, reduceCtorEq, Nat.reduceMul, Nat.reduceAdd, Nat.reduceSub, Nat.reduceDiv, Nat.reduceLT, Nat.reduceLeDiff, Nat.reduceEqDiff, Nat.reduceBEq, Int.reduceNeg, Int.reduceLT, Int.reduceLE, Int.reduceEq, Int.reduceToNat, (eq_false h1), (eq_false h3), (eq_true h11), (condZ_t h11), (eq_true h14), (condZ_t h14), (eq_true h17), (condZ_t h17), (eq_false h20), (eq_true h22), (condZ_t h22), (eq_true h24), (eq_false h26), (eq_false h27)]
              · cases h
                simp -implicitDefEqProofs -dsimp only [go_sem, ↓reduceIte, ↓dreduceIte, reduceCtorEq, Nat.reduceMul, Nat.reduceAdd, Nat.reduceSub, Nat.reduceDiv, Nat.reduceLT, Nat.reduceLeDiff, Nat.reduceEqDiff, Nat.reduceBEq, Int.reduceNeg, Int.reduceLT, Int.reduceLE, Int.reduceEq, Int.reduceToNat, (eq_false h1), (eq_false h3), (eq_true h11), (condZ_t h11), (eq_true h14), (condZ_t h14), (eq_true h17), (condZ_t h17), (eq_false h20), (eq_false h22), (condZ_f h22)]
          · cases h
            simp -implicitDefEqProofs -dsimp only [go_sem, ↓reduceIte, ↓dreduceIte, reduceCtorEq, Nat.reduceMul, Nat.reduceAdd, Nat.reduceSub, Nat.reduceDiv, Nat.reduceLT, Nat.reduceLeDiff, Nat.reduceEqDiff, Nat.reduceBEq, Int.reduceNeg, Int.reduceLT, Int.reduceLE, Int.reduceEq, Int.reduceToNat, (eq_false h1), (eq_false h3), (eq_true h11), (condZ_t h11), (eq_true h14), (condZ_t h14), (eq_false h17), (condZ_f h17)]
        · cases h
          simp -implicitDefEqProofs -dsimp only [go_sem, ↓reduceIte, ↓dreduceIte, reduceCtorEq, Nat.reduceMul, Nat.reduceAdd, Nat.reduceSub, Nat.reduceDiv, Nat.reduceLT, Nat.reduceLeDiff, Nat.reduceEqDiff, Nat.reduceBEq, Int.reduceNeg, Int.reduceLT, Int.reduceLE, Int.reduceEq, Int.reduceToNat, (eq_false h1), (eq_false h3), (eq_true h11), (condZ_t h11), (eq_false h14), (condZ_f h14)]
      · cases h
        simp -implicitDefEqProofs -dsimp only [go_sem, ↓reduceIte, ↓dreduceIte, reduceCtorEq, Nat.reduceMul, Nat.reduceAdd, Nat.reduceSub, Nat.reduceDiv, Nat.reduceLT, Nat.reduceLeDiff, Nat.reduceEqDiff, Nat.reduceBEq, Int.reduceNeg, Int.reduceLT, Int.reduceLE, Int.reduceEq, Int.reduceToNat, (eq_false h1), (eq_false h3), (eq_false h11), (condZ_f h11)]
end Go.Proofs.YtgmiaokdnpaglaaV
