/- Functions. -/
import Derived.Test.YtgmiaokdnpaglaaVFK1
set_option linter.all false
set_option linter.unusedVariables false
set_option linter.unusedSimpArgs false
set_option maxRecDepth 100000
set_option maxHeartbeats 400000
namespace Go.Proofs.YtgmiaokdnpaglaaV
open Go
/- 56 loop.example/g00827/spec.NewConsole -/
def hi56 : Hint where
  acts := fun _ => []
  draws := fun
    | _ => ⟨[], [], []⟩
theorem hi56a (i : Nat) : hi56.acts i = [] := rfl
theorem hi56v (i : Nat) : hi56.views i = none := rfl
attribute [go_sem] hi56a hi56v Go.Proofs.Try.ntmps56 Go.Proofs.Try.results56
theorem c_spec_NewConsole  {res : GConsole} (h : m_spec_NewConsole = some res) : CallOk Go.Proofs.Try.prog 56 [] [] (.agg [.ref 20000 1 0 res.sheet.cues.length, .ref 20001 1 0 res.sheet.prep.length, .lit (.int .i64 res.sheet.horizon), .ref 20002 1 0 res.desk.show_.nodes.length, .ref 20003 1 0 res.desk.show_.ties.length, .lit (.int .i64 res.desk.show_.horizon), .lit (.int .i64 res.desk.state.now), .ref 20004 1 0 res.desk.state.times.length, .ref 20005 1 0 res.desk.state.values.length, .lit (.bool res.desk.lazy), .ref 20006 1 0 res.desk.log.length, .ref 20007 1 0 res.takes.length]) [(20000, 1, .row true (rowsOf GCue.enc res.sheet.cues)), (20001, 1, .row true (rowsOf eI res.sheet.prep)), (20002, 1, .row true (rowsOf GNode.encO res.desk.show_.nodes)), (20003, 1, .row true (rowsOf GTie.enc res.desk.show_.ties)), (20004, 1, .row true (rowsOf eI res.desk.state.times)), (20005, 1, .row true (rowsOf eI res.desk.state.values)), (20006, 1, .row true (rowsOf GEntry.encO res.desk.log)), (20007, 1, .row true (rowsOf GTake.enc res.takes))] := by
  refine callOk_of (ra := [.homeCell 0 0, .homeCell 0 1, .homeCell 0 3, .homeCell 0 4, .homeCell 0 7, .homeCell 0 8, .homeCell 0 10, .homeCell 0 11]) (md := mdT) hT (hi := hi56) Go.Proofs.Try.func56 rfl rfl (by decide +kernel) (by simp) ?_
  unfold m_spec_NewConsole at h
  cases h
  simp -implicitDefEqProofs -dsimp only [go_sem, ↓reduceIte, ↓dreduceIte, reduceCtorEq, Nat.reduceMul, Nat.reduceAdd, Nat.reduceSub, Nat.reduceDiv, Nat.reduceLT, Nat.reduceLeDiff, Nat.reduceEqDiff, Nat.reduceBEq, Int.reduceNeg, Int.reduceLT, Int.reduceLE, Int.reduceEq, Int.reduceToNat]
/- 57 loop.example/g00827/impl.NewConsole -/
def hi57 : Hint where
  acts := fun _ => []
  draws := fun
    | _ => ⟨[], [], []⟩
theorem hi57a (i : Nat) : hi57.acts i = [] := rfl
theorem hi57v (i : Nat) : hi57.views i = none := rfl
attribute [go_sem] hi57a hi57v Go.Proofs.Try.ntmps57 Go.Proofs.Try.results57
theorem c_impl_NewConsole  {res : GConsole} (h : m_impl_NewConsole = some res) : CallOk Go.Proofs.Try.prog 57 [] [] (.agg [.ref 20000 1 0 res.sheet.cues.length, .ref 20001 1 0 res.sheet.prep.length, .lit (.int .i64 res.sheet.horizon), .ref 20002 1 0 res.desk.show_.nodes.length, .ref 20003 1 0 res.desk.show_.ties.length, .lit (.int .i64 res.desk.show_.horizon), .lit (.int .i64 res.desk.state.now), .ref 20004 1 0 res.desk.state.times.length, .ref 20005 1 0 res.desk.state.values.length, .lit (.bool res.desk.lazy), .ref 20006 1 0 res.desk.log.length, .ref 20007 1 0 res.takes.length]) [(20000, 1, .row true (rowsOf GCue.enc res.sheet.cues)), (20001, 1, .row true (rowsOf eI res.sheet.prep)), (20002, 1, .row true (rowsOf GNode.encO res.desk.show_.nodes)), (20003, 1, .row true (rowsOf GTie.enc res.desk.show_.ties)), (20004, 1, .row true (rowsOf eI res.desk.state.times)), (20005, 1, .row true (rowsOf eI res.desk.state.values)), (20006, 1, .row true (rowsOf GEntry.encO res.desk.log)), (20007, 1, .row true (rowsOf GTake.enc res.takes))] := by
  refine callOk_of (ra := [.homeCell 0 0, .homeCell 0 1, .homeCell 0 3, .homeCell 0 4, .homeCell 0 7, .homeCell 0 8, .homeCell 0 10, .homeCell 0 11]) (md := mdT) hT (hi := hi57) Go.Proofs.Try.func57 rfl rfl (by decide +kernel) (by simp) ?_
  unfold m_impl_NewConsole at h
  cases h
  simp -implicitDefEqProofs -dsimp only [go_sem, ↓reduceIte, ↓dreduceIte, reduceCtorEq, Nat.reduceMul, Nat.reduceAdd, Nat.reduceSub, Nat.reduceDiv, Nat.reduceLT, Nat.reduceLeDiff, Nat.reduceEqDiff, Nat.reduceBEq, Int.reduceNeg, Int.reduceLT, Int.reduceLE, Int.reduceEq, Int.reduceToNat]
/- 203 loop.example/g00827/laws.eqCue -/
def hi203 : Hint where
  acts := fun _ => []
  draws := fun
    | _ => ⟨[], [], []⟩
theorem hi203a (i : Nat) : hi203.acts i = [] := rfl
theorem hi203v (i : Nat) : hi203.views i = none := rfl
attribute [go_sem] hi203a hi203v Go.Proofs.Try.ntmps203 Go.Proofs.Try.results203
theorem c_laws_eqCue {a : GCue} {b : GCue} {res : Bool} (h : m_laws_eqCue a b = some res) : CallOk Go.Proofs.Try.prog 203 [.agg [.lit (.string a.name), .lit (.int .i64 a.after), .lit (.bool a.atEnd), .lit (.int .i64 a.low), .lit (.int .i64 a.high), .lit (.int .i64 a.min_), .lit (.int .i64 a.max_), .lit (.bool a.free), .lit (.int .i64 a.if_), .lit (.int .i64 a.watch), .lit (.int .i64 a.device)], .agg [.lit (.string b.name), .lit (.int .i64 b.after), .lit (.bool b.atEnd), .lit (.int .i64 b.low), .lit (.int .i64 b.high), .lit (.int .i64 b.min_), .lit (.int .i64 b.max_), .lit (.bool b.free), .lit (.int .i64 b.if_), .lit (.int .i64 b.watch), .lit (.int .i64 b.device)]] [] (.lit (.bool res)) [] := by
  refine callOk_of (ra := []) (md := mdT) hT (hi := hi203) Go.Proofs.Try.func203 rfl rfl (by decide +kernel) (by simp) ?_
  unfold m_laws_eqCue at h
  rcases ite_some h with ⟨h1, h⟩ | ⟨h1, h⟩
  · rcases ite_some h with ⟨h2, h⟩ | ⟨h2, h⟩
    · rcases ite_some h with ⟨h3, h⟩ | ⟨h3, h⟩
      · rcases ite_some h with ⟨h4, h⟩ | ⟨h4, h⟩
        · rcases ite_some h with ⟨h5, h⟩ | ⟨h5, h⟩
          · rcases ite_some h with ⟨h6, h⟩ | ⟨h6, h⟩
            · rcases ite_some h with ⟨h7, h⟩ | ⟨h7, h⟩
              · rcases ite_some h with ⟨h8, h⟩ | ⟨h8, h⟩
                · rcases ite_some h with ⟨h9, h⟩ | ⟨h9, h⟩
                  · rcases ite_some h with ⟨h10, h⟩ | ⟨h10, h⟩
                    · rcases ite_some h with ⟨h11, h⟩ | ⟨h11, h⟩
                      · cases h
                        simp -implicitDefEqProofs -dsimp only [go_sem, ↓reduceIte, ↓dreduceIte, reduceCtorEq, Nat.reduceMul, Nat.reduceAdd, Nat.reduceSub, Nat.reduceDiv, Nat.reduceLT, Nat.reduceLeDiff, Nat.reduceEqDiff, Nat.reduceBEq, Int.reduceNeg, Int.reduceLT, Int.reduceLE, Int.reduceEq, Int.reduceToNat, (eq_true h1), (eq_true h2), (eq_true h3), (eq_true h4), (eq_true h5), (eq_true h6), (eq_true h7), (eq_true h8), (eq_true h9), (eq_true h10), (eq_true h11)]
                      · cases h
                        simp -implicitDefEqProofs -dsimp only [go_sem, ↓reduceIte, ↓dreduceIte, reduceCtorEq, Nat.reduceMul, Nat.reduceAdd, Nat.reduceSub, Nat.reduceDiv, Nat.reduceLT, Nat.reduceLeDiff, Nat.reduceEqDiff, Nat.reduceBEq, Int.reduceNeg, Int.reduceLT, Int.reduceLE, Int.reduceEq, Int.reduceToNat, (eq_true h1), (eq_true h2), (eq_true h3), (eq_true h4), (eq_true h5), (eq_true h6), (eq_true h7), (eq_true h8), (eq_true h9), (eq_true h10), (eq_false h11)]
                    · cases h
                      simp -implicitDefEqProofs -dsimp only [go_sem, ↓reduceIte, ↓dreduceIte, reduceCtorEq, Nat.reduceMul, Nat.reduceAdd, Nat.reduceSub, Nat.reduceDiv, Nat.reduceLT, Nat.reduceLeDiff, Nat.reduceEqDiff, Nat.reduceBEq, Int.reduceNeg, Int.reduceLT, Int.reduceLE, Int.reduceEq, Int.reduceToNat, (eq_true h1), (eq_true h2), (eq_true h3), (eq_true h4), (eq_true h5), (eq_true h6), (eq_true h7), (eq_true h8), (eq_true h9), (eq_false h10)]
                  · cases h
                    simp -implicitDefEqProofs -dsimp only [go_sem, ↓reduceIte, ↓dreduceIte, reduceCtorEq, Nat.reduceMul, Nat.reduceAdd, Nat.reduceSub, Nat.reduceDiv, Nat.reduceLT, Nat.reduceLeDiff, Nat.reduceEqDiff, Nat.reduceBEq, Int.reduceNeg, Int.reduceLT, Int.reduceLE, Int.reduceEq, Int.reduceToNat, (eq_true h1), (eq_true h2), (eq_true h3), (eq_true h4), (eq_true h5), (eq_true h6), (eq_true h7), (eq_true h8), (eq_false h9)]
                · cases h
                  simp -implicitDefEqProofs -dsimp only [go_sem, ↓reduceIte, ↓dreduceIte, reduceCtorEq, Nat.reduceMul, Nat.reduceAdd, Nat.reduceSub, Nat.reduceDiv, Nat.reduceLT, Nat.reduceLeDiff, Nat.reduceEqDiff, Nat.reduceBEq, Int.reduceNeg, Int.reduceLT, Int.reduceLE, Int.reduceEq, Int.reduceToNat, (eq_true h1), (eq_true h2), (eq_true h3), (eq_true h4), (eq_true h5), (eq_true h6), (eq_true h7), (eq_false h8)]
              · cases h
                simp -implicitDefEqProofs -dsimp only [go_sem, ↓reduceIte, ↓dreduceIte, reduceCtorEq, Nat.reduceMul, Nat.reduceAdd, Nat.reduceSub, Nat.reduceDiv, Nat.reduceLT, Nat.reduceLeDiff, Nat.reduceEqDiff, Nat.reduceBEq, Int.reduceNeg, Int.reduceLT, Int.reduceLE, Int.reduceEq, Int.reduceToNat, (eq_true h1), (eq_true h2), (eq_true h3), (eq_true h4), (eq_true h5), (eq_true h6), (eq_false h7)]
            · cases h
              simp -implicitDefEqProofs -dsimp only [go_sem, ↓reduceIte, ↓dreduceIte, reduceCtorEq, Nat.reduceMul, Nat.reduceAdd, Nat.reduceSub, Nat.reduceDiv, Nat.reduceLT, Nat.reduceLeDiff, Nat.reduceEqDiff, Nat.reduceBEq, Int.reduceNeg, Int.reduceLT, Int.reduceLE, Int.reduceEq, Int.reduceToNat, (eq_true h1), (eq_true h2), (eq_true h3), (eq_true h4), (eq_true h5), (eq_false h6)]
          · cases h
            simp -implicitDefEqProofs -dsimp only [go_sem, ↓reduceIte, ↓dreduceIte, reduceCtorEq, Nat.reduceMul, Nat.reduceAdd, Nat.reduceSub, Nat.reduceDiv, Nat.reduceLT, Nat.reduceLeDiff, Nat.reduceEqDiff, Nat.reduceBEq, Int.reduceNeg, Int.reduceLT, Int.reduceLE, Int.reduceEq, Int.reduceToNat, (eq_true h1), (eq_true h2), (eq_true h3), (eq_true h4), (eq_false h5)]
        · cases h
          simp -implicitDefEqProofs -dsimp only [go_sem, ↓reduceIte, ↓dreduceIte, reduceCtorEq, Nat.reduceMul, Nat.reduceAdd, Nat.reduceSub, Nat.reduceDiv, Nat.reduceLT, Nat.reduceLeDiff, Nat.reduceEqDiff, Nat.reduceBEq, Int.reduceNeg, Int.reduceLT, Int.reduceLE, Int.reduceEq, Int.reduceToNat, (eq_true h1), (eq_true h2), (eq_true h3), (eq_false h4)]
      · cases h
        simp -implicitDefEqProofs -dsimp only [go_sem, ↓reduceIte, ↓dreduceIte, reduceCtorEq, Nat.reduceMul, Nat.reduceAdd, Nat.reduceSub, Nat.reduceDiv, Nat.reduceLT, Nat.reduceLeDiff, Nat.reduceEqDiff, Nat.reduceBEq, Int.reduceNeg, Int.reduceLT, Int.reduceLE, Int.reduceEq, Int.reduceToNat, (eq_true h1), (eq_true h2), (eq_false h3)]
    · cases h
      simp -implicitDefEqProofs -dsimp only [go_sem, ↓reduceIte, ↓dreduceIte, reduceCtorEq, Nat.reduceMul, Nat.reduceAdd, Nat.reduceSub, Nat.reduceDiv, Nat.reduceLT, Nat.reduceLeDiff, Nat.reduceEqDiff, Nat.reduceBEq, Int.reduceNeg, Int.reduceLT, Int.reduceLE, Int.reduceEq, Int.reduceToNat, (eq_true h1), (eq_false h2)]
  · cases h
    simp -implicitDefEqProofs -dsimp only [go_sem, ↓reduceIte, ↓dreduceIte, reduceCtorEq, Nat.reduceMul, Nat.reduceAdd, Nat.reduceSub, Nat.reduceDiv, Nat.reduceLT, Nat.reduceLeDiff, Nat.reduceEqDiff, Nat.reduceBEq, Int.reduceNeg, Int.reduceLT, Int.reduceLE, Int.reduceEq, Int.reduceToNat, (eq_false h1)]
/- 184 loop.example/g00827/laws.eqCueS -/
def m_laws_eqCueS_L1_St (a : List GCue) (b : List GCue) (i : Int) : St := ⟨[(0, .sl (rowsOf GCue.enc a)), (1, .sl (rowsOf GCue.enc b)), (5, .lit (.int .i64 i))], [], 2⟩
attribute [go_sem] m_laws_eqCueS_L1_St
def hi184 : Hint where
  acts := fun _ => []
  draws := fun
    | 6 => ⟨[⟨0, false, []⟩, ⟨1, false, []⟩, ⟨2, false, []⟩, ⟨3, false, []⟩, ⟨4, false, []⟩, ⟨5, false, []⟩, ⟨6, false, []⟩, ⟨7, false, []⟩, ⟨8, false, []⟩, ⟨9, false, []⟩], [[], [], [0, 1], [0, 1, 2], [], [], [4, 5], [4, 5, 6], [0, 1, 2, 3, 4, 5, 6, 7], [0, 1, 2, 3, 4, 5, 6, 7, 8]], [0, 1, 2, 3, 4, 5, 6, 7, 8, 9]⟩
    | _ => ⟨[], [], []⟩
theorem hi184a (i : Nat) : hi184.acts i = [] := rfl
theorem hi184v (i : Nat) : hi184.views i = none := rfl
attribute [go_sem] hi184a hi184v Go.Proofs.Try.ntmps184 Go.Proofs.Try.results184
@[go_sem] theorem hi184d6 : (hi184.draws 6).order = [⟨0, false, []⟩, ⟨1, false, []⟩, ⟨2, false, []⟩, ⟨3, false, []⟩, ⟨4, false, []⟩, ⟨5, false, []⟩, ⟨6, false, []⟩, ⟨7, false, []⟩, ⟨8, false, []⟩, ⟨9, false, []⟩] := rfl
theorem c_laws_eqCueS {a : List GCue} {b : List GCue} {res : Bool} (h : m_laws_eqCueS a b = some res) : CallOk Go.Proofs.Try.prog 184 [.sl (rowsOf GCue.enc a), .sl (rowsOf GCue.enc b)] [] (.lit (.bool res)) [] := by
  refine callOk_of (ra := []) (md := mdT) hT (hi := hi184) Go.Proofs.Try.func184 rfl rfl (by decide +kernel) (by simp) ?_
  unfold m_laws_eqCueS at h
  rcases ite_some h with ⟨h1, h⟩ | ⟨h1, h⟩
  · obtain ⟨q1004, l2, h⟩ := obnd_some h
    simp -implicitDefEqProofs -dsimp only [go_sem, ↓reduceIte, ↓dreduceIte, reduceCtorEq, Nat.reduceMul, Nat.reduceAdd, Nat.reduceSub, Nat.reduceDiv, Nat.reduceLT, Nat.reduceLeDiff, Nat.reduceEqDiff, Nat.reduceBEq, Int.reduceNeg, Int.reduceLT, Int.reduceLE, Int.reduceEq, Int.reduceToNat, (eq_true h1)]
    refine loopW_loopO (m1 := .mk) (m2 := .mk) [.nf [0, 1, 5] []] (m_laws_eqCueS_L1_St a b) l2 ?_ ?_
    · simp -implicitDefEqProofs -dsimp only [go_sem, ↓reduceIte, ↓dreduceIte, reduceCtorEq, Nat.reduceMul, Nat.reduceAdd, Nat.reduceSub, Nat.reduceDiv, Nat.reduceLT, Nat.reduceLeDiff, Nat.reduceEqDiff, Nat.reduceBEq, Int.reduceNeg, Int.reduceLT, Int.reduceLE, Int.reduceEq, Int.reduceToNat, (eq_true h1)]
    · intro nb3 sb3 bb3 b3 gb3
      obtain ⟨i_1, eb3⟩ : ∃ v, v = sb3 := ⟨_, rfl⟩; subst eb3
      unfold m_laws_eqCueS_L1 at b3
      try dsimp only at b3
      rcases ite_some b3 with ⟨h4, b3⟩ | ⟨h4, b3⟩
      · obtain ⟨x1001, g5, b3⟩ := obnd_some b3
        obtain ⟨h6, h7, h8⟩ := getI_some g5
        obtain ⟨x1002, g9, b3⟩ := obnd_some b3
        obtain ⟨h10, h11, h12⟩ := getI_some g9
        obtain ⟨r1003, g13, b3⟩ := obnd_some b3
        simp -implicitDefEqProofs -dsimp only [go_sem, ↓reduceIte, ↓dreduceIte, reduceCtorEq, Nat.reduceMul, Nat.reduceAdd, Nat.reduceSub, Nat.reduceDiv, Nat.reduceLT, Nat.reduceLeDiff, Nat.reduceEqDiff, Nat.reduceBEq, Int.reduceNeg, Int.reduceLT, Int.reduceLE, Int.reduceEq, Int.reduceToNat, (eq_true h1), (eq_true h4), h6, h7, h8, h10, h11, h12]
        refine callW_of (c_laws_eqCue g13) ?_
        rcases ite_some b3 with ⟨h14, b3⟩ | ⟨h14, b3⟩
        · cases b3
          simp -implicitDefEqProofs -dsimp only [go_sem, ↓reduceIte, ↓dreduceIte, reduceCtorEq, Nat.reduceMul, Nat.reduceAdd, Nat.reduceSub, Nat.reduceDiv, Nat.reduceLT, Nat.reduceLeDiff, Nat.reduceEqDiff, Nat.reduceBEq, Int.reduceNeg, Int.reduceLT, Int.reduceLE, Int.reduceEq, Int.reduceToNat, (eq_true h1), (eq_true h4), h6, h7, h8, h10, h11, h12, (eq_true h14), (condZ_t h14)]
          refine next_of gb3 ?_
          simp -implicitDefEqProofs -dsimp only [go_sem, ↓reduceIte, ↓dreduceIte, reduceCtorEq, Nat.reduceMul, Nat.reduceAdd, Nat.reduceSub, Nat.reduceDiv, Nat.reduceLT, Nat.reduceLeDiff, Nat.reduceEqDiff, Nat.reduceBEq, Int.reduceNeg, Int.reduceLT, Int.reduceLE, Int.reduceEq, Int.reduceToNat, (eq_true h1), (eq_true h4), h6, h7, h8, h10, h11, h12, (eq_true h14), (condZ_t h14)]
        · cases b3
          have e15 := done_of gb3
          subst e15
          try dsimp only at h
          cases h
          simp -implicitDefEqProofs -dsimp only [go_sem, ↓reduceIte, ↓dreduceIte, reduceCtorEq, Nat.reduceMul, Nat.reduceAdd, Nat.reduceSub, Nat.reduceDiv, Nat.reduceLT, Nat.reduceLeDiff, Nat.reduceEqDiff, Nat.reduceBEq, Int.reduceNeg, Int.reduceLT, Int.reduceLE, Int.reduceEq, Int.reduceToNat, (eq_true h1), (eq_true h4), h6, h7, h8, h10, h11, h12, (eq_false h14), (condZ_f h14)]
      · cases b3
        have e16 := done_of gb3
        subst e16
        try dsimp only at h
        cases h
        simp -implicitDefEqProofs -dsimp only [go_sem, ↓reduceIte, ↓dreduceIte, reduceCtorEq, Nat.reduceMul, Nat.reduceAdd, Nat.reduceSub, Nat.reduceDiv, Nat.reduceLT, Nat.reduceLeDiff, Nat.reduceEqDiff, Nat.reduceBEq, Int.reduceNeg, Int.reduceLT, Int.reduceLE, Int.reduceEq, Int.reduceToNat, (eq_true h1), (eq_false h4)]
  · cases h
    simp -implicitDefEqProofs -dsimp only [go_sem, ↓reduceIte, ↓dreduceIte, reduceCtorEq, Nat.reduceMul, Nat.reduceAdd, Nat.reduceSub, Nat.reduceDiv, Nat.reduceLT, Nat.reduceLeDiff, Nat.reduceEqDiff, Nat.reduceBEq, Int.reduceNeg, Int.reduceLT, Int.reduceLE, Int.reduceEq, Int.reduceToNat, (eq_false h1)]
/- 129 loop.example/g00827/laws.eqSheet -/
def hi129 : Hint where
  acts := fun _ => []
  draws := fun
    | _ => ⟨[], [], []⟩
theorem hi129a (i : Nat) : hi129.acts i = [] := rfl
theorem hi129v (i : Nat) : hi129.views i = none := rfl
attribute [go_sem] hi129a hi129v Go.Proofs.Try.ntmps129 Go.Proofs.Try.results129
theorem c_laws_eqSheet {a : GSheet} {b : GSheet} {res : Bool} (h : m_laws_eqSheet a b = some res) : CallOk Go.Proofs.Try.prog 129 [.agg [.sl (rowsOf GCue.enc a.cues), .sl (rowsOf eI a.prep), .lit (.int .i64 a.horizon)], .agg [.sl (rowsOf GCue.enc b.cues), .sl (rowsOf eI b.prep), .lit (.int .i64 b.horizon)]] [] (.lit (.bool res)) [] := by
  refine callOk_of (ra := []) (md := mdT) hT (hi := hi129) Go.Proofs.Try.func129 rfl rfl (by decide +kernel) (by simp) ?_
  unfold m_laws_eqSheet at h
  obtain ⟨r1001, g1, h⟩ := obnd_some h
  simp -implicitDefEqProofs -dsimp only [go_sem, ↓reduceIte, ↓dreduceIte, reduceCtorEq, Nat.reduceMul, Nat.reduceAdd, Nat.reduceSub, Nat.reduceDiv, Nat.reduceLT, Nat.reduceLeDiff, Nat.reduceEqDiff, Nat.reduceBEq, Int.reduceNeg, Int.reduceLT, Int.reduceLE, Int.reduceEq, Int.reduceToNat]
  refine callW_of (c_laws_eqCueS g1) ?_
  rcases ite_some h with ⟨h2, h⟩ | ⟨h2, h⟩
  · obtain ⟨r1002, g3, h⟩ := obnd_some h
    simp -implicitDefEqProofs -dsimp only [go_sem, ↓reduceIte, ↓dreduceIte, reduceCtorEq, Nat.reduceMul, Nat.reduceAdd, Nat.reduceSub, Nat.reduceDiv, Nat.reduceLT, Nat.reduceLeDiff, Nat.reduceEqDiff, Nat.reduceBEq, Int.reduceNeg, Int.reduceLT, Int.reduceLE, Int.reduceEq, Int.reduceToNat, (eq_true h2), (condZ_t h2)]
    refine callW_of (c_laws_eqIntS g3) ?_
    rcases ite_some h with ⟨h4, h⟩ | ⟨h4, h⟩
    · rcases ite_some h with ⟨h5, h⟩ | ⟨h5, h⟩
      · cases h
        simp -implicitDefEqProofs -dsimp only [go_sem, ↓reduceIte, ↓dreduceIte, reduceCtorEq, Nat.reduceMul, Nat.reduceAdd, Nat.reduceSub, Nat.reduceDiv, Nat.reduceLT, Nat.reduceLeDiff, Nat.reduceEqDiff, Nat.reduceBEq, Int.reduceNeg, Int.reduceLT, Int.reduceLE, Int.reduceEq, Int.reduceToNat, (eq_true h2), (condZ_t h2), (eq_true h4), (condZ_t h4), (eq_true h5)]
      · cases h
        simp -implicitDefEqProofs -dsimp only [go_sem, ↓reduceIte, ↓dreduceIte, reduceCtorEq, Nat.reduceMul, Nat.reduceAdd, Nat.reduceSub, Nat.reduceDiv, Nat.reduceLT, Nat.reduceLeDiff, Nat.reduceEqDiff, Nat.reduceBEq, Int.reduceNeg, Int.reduceLT, Int.reduceLE, Int.reduceEq, Int.reduceToNat, (eq_true h2), (condZ_t h2), (eq_true h4), (condZ_t h4), (eq_false h5)]
    · cases h
      simp -implicitDefEqProofs -dsimp only [go_sem, ↓reduceIte, ↓dreduceIte, reduceCtorEq, Nat.reduceMul, Nat.reduceAdd, Nat.reduceSub, Nat.reduceDiv, Nat.reduceLT, Nat.reduceLeDiff, Nat.reduceEqDiff, Nat.reduceBEq, Int.reduceNeg, Int.reduceLT, Int.reduceLE, Int.reduceEq, Int.reduceToNat, (eq_true h2), (condZ_t h2), (eq_false h4), (condZ_f h4)]
  · cases h
    simp -implicitDefEqProofs -dsimp only [go_sem, ↓reduceIte, ↓dreduceIte, reduceCtorEq, Nat.reduceMul, Nat.reduceAdd, Nat.reduceSub, Nat.reduceDiv, Nat.reduceLT, Nat.reduceLeDiff, Nat.reduceEqDiff, Nat.reduceBEq, Int.reduceNeg, Int.reduceLT, Int.reduceLE, Int.reduceEq, Int.reduceToNat, (eq_false h2), (condZ_f h2)]
/- 67 loop.example/g00827/laws.eqState -/
def hi67 : Hint where
  acts := fun _ => []
  draws := fun
    | _ => ⟨[], [], []⟩
theorem hi67a (i : Nat) : hi67.acts i = [] := rfl
theorem hi67v (i : Nat) : hi67.views i = none := rfl
attribute [go_sem] hi67a hi67v Go.Proofs.Try.ntmps67 Go.Proofs.Try.results67
theorem c_laws_eqState {a : GState} {b : GState} {res : Bool} (h : m_laws_eqState a b = some res) : CallOk Go.Proofs.Try.prog 67 [.agg [.lit (.int .i64 a.now), .sl (rowsOf eI a.times), .sl (rowsOf eI a.values)], .agg [.lit (.int .i64 b.now), .sl (rowsOf eI b.times), .sl (rowsOf eI b.values)]] [] (.lit (.bool res)) [] := by
  refine callOk_of (ra := []) (md := mdT) hT (hi := hi67) Go.Proofs.Try.func67 rfl rfl (by decide +kernel) (by simp) ?_
  unfold m_laws_eqState at h
  rcases ite_some h with ⟨h1, h⟩ | ⟨h1, h⟩
  · obtain ⟨r1001, g2, h⟩ := obnd_some h
    simp -implicitDefEqProofs -dsimp only [go_sem, ↓reduceIte, ↓dreduceIte, reduceCtorEq, Nat.reduceMul, Nat.reduceAdd, Nat.reduceSub, Nat.reduceDiv, Nat.reduceLT, Nat.reduceLeDiff, Nat.reduceEqDiff, Nat.reduceBEq, Int.reduceNeg, Int.reduceLT, Int.reduceLE, Int.reduceEq, Int.reduceToNat, (eq_true h1)]
    refine callW_of (c_laws_eqIntS g2) ?_
    rcases ite_some h with ⟨h3, h⟩ | ⟨h3, h⟩
    · obtain ⟨r1002, g4, h⟩ := obnd_some h
      simp -implicitDefEqProofs -dsimp only [go_sem, ↓reduceIte, ↓dreduceIte, reduceCtorEq, Nat.reduceMul, Nat.reduceAdd, Nat.reduceSub, Nat.reduceDiv, Nat.reduceLT, Nat.reduceLeDiff, Nat.reduceEqDiff, Nat.reduceBEq, Int.reduceNeg, Int.reduceLT, Int.reduceLE, Int.reduceEq, Int.reduceToNat, (eq_true h1), (eq_true h3), (condZ_t h3)]
      refine callW_of (c_laws_eqIntS g4) ?_
      rcases ite_some h with ⟨h5, h⟩ | ⟨h5, h⟩
      · cases h
        simp -implicitDefEqProofs -dsimp only [go_sem, ↓reduceIte, ↓dreduceIte, reduceCtorEq, Nat.reduceMul, Nat.reduceAdd, Nat.reduceSub, Nat.reduceDiv, Nat.reduceLT, Nat.reduceLeDiff, Nat.reduceEqDiff, Nat.reduceBEq, Int.reduceNeg, Int.reduceLT, Int.reduceLE, Int.reduceEq, Int.reduceToNat, (eq_true h1), (eq_true h3), (condZ_t h3), (eq_true h5), (condZ_t h5)]
      · cases h
        simp -implicitDefEqProofs -dsimp only [go_sem, ↓reduceIte, ↓dreduceIte, reduceCtorEq, Nat.reduceMul, Nat.reduceAdd, Nat.reduceSub, Nat.reduceDiv, Nat.reduceLT, Nat.reduceLeDiff, Nat.reduceEqDiff, Nat.reduceBEq, Int.reduceNeg, Int.reduceLT, Int.reduceLE, Int.reduceEq, Int.reduceToNat, (eq_true h1), (eq_true h3), (condZ_t h3), (eq_false h5), (condZ_f h5)]
    · cases h
      simp -implicitDefEqProofs -dsimp only [go_sem, ↓reduceIte, ↓dreduceIte, reduceCtorEq, Nat.reduceMul, Nat.reduceAdd, Nat.reduceSub, Nat.reduceDiv, Nat.reduceLT, Nat.reduceLeDiff, Nat.reduceEqDiff, Nat.reduceBEq, Int.reduceNeg, Int.reduceLT, Int.reduceLE, Int.reduceEq, Int.reduceToNat, (eq_true h1), (eq_false h3), (condZ_f h3)]
  · cases h
    simp -implicitDefEqProofs -dsimp only [go_sem, ↓reduceIte, ↓dreduceIte, reduceCtorEq, Nat.reduceMul, Nat.reduceAdd, Nat.reduceSub, Nat.reduceDiv, Nat.reduceLT, Nat.reduceLeDiff, Nat.reduceEqDiff, Nat.reduceBEq, Int.reduceNeg, Int.reduceLT, Int.reduceLE, Int.reduceEq, Int.reduceToNat, (eq_false h1)]
/- 180 loop.example/g00827/laws.eqEntry -/
def hi180 : Hint where
  acts := fun _ => []
  draws := fun
    | _ => ⟨[], [], []⟩
theorem hi180a (i : Nat) : hi180.acts i = [] := rfl
theorem hi180v (i : Nat) : hi180.views i = none := rfl
attribute [go_sem] hi180a hi180v Go.Proofs.Try.ntmps180 Go.Proofs.Try.results180
theorem c_laws_eqEntry {a : GEntry} {b : GEntry} {res : Bool} (h : m_laws_eqEntry a b = some res) : CallOk Go.Proofs.Try.prog 180 [.agg [.lit (.int .i64 a.now), .sl (rowsOf eI a.ties), .sl (rowsOf eI a.nodes), .sl (rowsOf eI a.values)], .agg [.lit (.int .i64 b.now), .sl (rowsOf eI b.ties), .sl (rowsOf eI b.nodes), .sl (rowsOf eI b.values)]] [] (.lit (.bool res)) [] := by
  refine callOk_of (ra := []) (md := mdT) hT (hi := hi180) Go.Proofs.Try.func180 rfl rfl (by decide +kernel) (by simp) ?_
  unfold m_laws_eqEntry at h
  rcases ite_some h with ⟨h1, h⟩ | ⟨h1, h⟩
  · obtain ⟨r1001, g2, h⟩ := obnd_some h
    simp -implicitDefEqProofs -dsimp only [go_sem, ↓reduceIte, ↓dreduceIte, reduceCtorEq, Nat.reduceMul, Nat.reduceAdd, Nat.reduceSub, Nat.reduceDiv, Nat.reduceLT, Nat.reduceLeDiff, Nat.reduceEqDiff, Nat.reduceBEq, Int.reduceNeg, Int.reduceLT, Int.reduceLE, Int.reduceEq, Int.reduceToNat, (eq_true h1)]
    refine callW_of (c_laws_eqIntS g2) ?_
    rcases ite_some h with ⟨h3, h⟩ | ⟨h3, h⟩
    · obtain ⟨r1002, g4, h⟩ := obnd_some h
      simp -implicitDefEqProofs -dsimp only [go_sem, ↓reduceIte, ↓dreduceIte, reduceCtorEq, Nat.reduceMul, Nat.reduceAdd, Nat.reduceSub, Nat.reduceDiv, Nat.reduceLT, Nat.reduceLeDiff, Nat.reduceEqDiff, Nat.reduceBEq, Int.reduceNeg, Int.reduceLT, Int.reduceLE, Int.reduceEq, Int.reduceToNat, (eq_true h1), (eq_true h3), (condZ_t h3)]
      refine callW_of (c_laws_eqIntS g4) ?_
      rcases ite_some h with ⟨h5, h⟩ | ⟨h5, h⟩
      · obtain ⟨r1003, g6, h⟩ := obnd_some h
        simp -implicitDefEqProofs -dsimp only [go_sem, ↓reduceIte, ↓dreduceIte, reduceCtorEq, Nat.reduceMul, Nat.reduceAdd, Nat.reduceSub, Nat.reduceDiv, Nat.reduceLT, Nat.reduceLeDiff, Nat.reduceEqDiff, Nat.reduceBEq, Int.reduceNeg, Int.reduceLT, Int.reduceLE, Int.reduceEq, Int.reduceToNat, (eq_true h1), (eq_true h3), (condZ_t h3), (eq_true h5), (condZ_t h5)]
        refine callW_of (c_laws_eqIntS g6) ?_
        rcases ite_some h with ⟨h7, h⟩ | ⟨h7, h⟩
        · cases h
          simp -implicitDefEqProofs -dsimp only [go_sem, ↓reduceIte, ↓dreduceIte, reduceCtorEq, Nat.reduceMul, Nat.reduceAdd, Nat.reduceSub, Nat.reduceDiv, Nat.reduceLT, Nat.reduceLeDiff, Nat.reduceEqDiff, Nat.reduceBEq, Int.reduceNeg, Int.reduceLT, Int.reduceLE, Int.reduceEq, Int.reduceToNat, (eq_true h1), (eq_true h3), (condZ_t h3), (eq_true h5), (condZ_t h5), (eq_true h7), (condZ_t h7)]
        · cases h
          simp -implicitDefEqProofs -dsimp only [go_sem, ↓reduceIte, ↓dreduceIte, reduceCtorEq, Nat.reduceMul, Nat.reduceAdd, Nat.reduceSub, Nat.reduceDiv, Nat.reduceLT, Nat.reduceLeDiff, Nat.reduceEqDiff, Nat.reduceBEq, Int.reduceNeg, Int.reduceLT, Int.reduceLE, Int.reduceEq, Int.reduceToNat, (eq_true h1), (eq_true h3), (condZ_t h3), (eq_true h5), (condZ_t h5), (eq_false h7), (condZ_f h7)]
      · cases h
        simp -implicitDefEqProofs -dsimp only [go_sem, ↓reduceIte, ↓dreduceIte, reduceCtorEq, Nat.reduceMul, Nat.reduceAdd, Nat.reduceSub, Nat.reduceDiv, Nat.reduceLT, Nat.reduceLeDiff, Nat.reduceEqDiff, Nat.reduceBEq, Int.reduceNeg, Int.reduceLT, Int.reduceLE, Int.reduceEq, Int.reduceToNat, (eq_true h1), (eq_true h3), (condZ_t h3), (eq_false h5), (condZ_f h5)]
    · cases h
      simp -implicitDefEqProofs -dsimp only [go_sem, ↓reduceIte, ↓dreduceIte, reduceCtorEq, Nat.reduceMul, Nat.reduceAdd, Nat.reduceSub, Nat.reduceDiv, Nat.reduceLT, Nat.reduceLeDiff, Nat.reduceEqDiff, Nat.reduceBEq, Int.reduceNeg, Int.reduceLT, Int.reduceLE, Int.reduceEq, Int.reduceToNat, (eq_true h1), (eq_false h3), (condZ_f h3)]
  · cases h
    simp -implicitDefEqProofs -dsimp only [go_sem, ↓reduceIte, ↓dreduceIte, reduceCtorEq, Nat.reduceMul, Nat.reduceAdd, Nat.reduceSub, Nat.reduceDiv, Nat.reduceLT, Nat.reduceLeDiff, Nat.reduceEqDiff, Nat.reduceBEq, Int.reduceNeg, Int.reduceLT, Int.reduceLE, Int.reduceEq, Int.reduceToNat, (eq_false h1)]
/- 118 loop.example/g00827/laws.eqEntryS -/
def m_laws_eqEntryS_L1_St (a : List GEntry) (b : List GEntry) (i : Int) : St := ⟨[(0, .sl (rowsOf GEntry.encS a)), (1, .sl (rowsOf GEntry.encS b)), (5, .lit (.int .i64 i))], [], 2⟩
attribute [go_sem] m_laws_eqEntryS_L1_St
def hi118 : Hint where
  acts := fun _ => []
  draws := fun
    | 6 => ⟨[⟨0, false, []⟩, ⟨1, false, []⟩, ⟨2, false, []⟩, ⟨3, false, []⟩, ⟨4, false, []⟩, ⟨5, false, []⟩, ⟨6, false, []⟩, ⟨7, false, []⟩, ⟨8, false, []⟩, ⟨9, false, []⟩], [[], [], [0, 1], [0, 1, 2], [], [], [4, 5], [4, 5, 6], [0, 1, 2, 3, 4, 5, 6, 7], [0, 1, 2, 3, 4, 5, 6, 7, 8]], [0, 1, 2, 3, 4, 5, 6, 7, 8, 9]⟩
    | _ => ⟨[], [], []⟩
theorem hi118a (i : Nat) : hi118.acts i = [] := rfl
theorem hi118v (i : Nat) : hi118.views i = none := rfl
attribute [go_sem] hi118a hi118v Go.Proofs.Try.ntmps118 Go.Proofs.Try.results118
@[go_sem] theorem hi118d6 : (hi118.draws 6).order = [⟨0, false, []⟩, ⟨1, false, []⟩, ⟨2, false, []⟩, ⟨3, false, []⟩, ⟨4, false, []⟩, ⟨5, false, []⟩, ⟨6, false, []⟩, ⟨7, false, []⟩, ⟨8, false, []⟩, ⟨9, false, []⟩] := rfl
theorem c_laws_eqEntryS {a : List GEntry} {b : List GEntry} {res : Bool} (h : m_laws_eqEntryS a b = some res) : CallOk Go.Proofs.Try.prog 118 [.sl (rowsOf GEntry.encS a), .sl (rowsOf GEntry.encS b)] [] (.lit (.bool res)) [] := by
  refine callOk_of (ra := []) (md := mdT) hT (hi := hi118) Go.Proofs.Try.func118 rfl rfl (by decide +kernel) (by simp) ?_
  unfold m_laws_eqEntryS at h
  rcases ite_some h with ⟨h1, h⟩ | ⟨h1, h⟩
  · obtain ⟨q1004, l2, h⟩ := obnd_some h
    simp -implicitDefEqProofs -dsimp only [go_sem, ↓reduceIte, ↓dreduceIte, reduceCtorEq, Nat.reduceMul, Nat.reduceAdd, Nat.reduceSub, Nat.reduceDiv, Nat.reduceLT, Nat.reduceLeDiff, Nat.reduceEqDiff, Nat.reduceBEq, Int.reduceNeg, Int.reduceLT, Int.reduceLE, Int.reduceEq, Int.reduceToNat, (eq_true h1)]
    refine loopW_loopO (m1 := .mk) (m2 := .mk) [.nf [0, 1, 5] []] (m_laws_eqEntryS_L1_St a b) l2 ?_ ?_
    · simp -implicitDefEqProofs -dsimp only [go_sem, ↓reduceIte, ↓dreduceIte, reduceCtorEq, Nat.reduceMul, Nat.reduceAdd, Nat.reduceSub, Nat.reduceDiv, Nat.reduceLT, Nat.reduceLeDiff, Nat.reduceEqDiff, Nat.reduceBEq, Int.reduceNeg, Int.reduceLT, Int.reduceLE, Int.reduceEq, Int.reduceToNat, (eq_true h1)]
    · intro nb3 sb3 bb3 b3 gb3
      obtain ⟨i_1, eb3⟩ : ∃ v, v = sb3 := ⟨_, rfl⟩; subst eb3
      unfold m_laws_eqEntryS_L1 at b3
      try dsimp only at b3
      rcases ite_some b3 with ⟨h4, b3⟩ | ⟨h4, b3⟩
      · obtain ⟨x1001, g5, b3⟩ := obnd_some b3
        obtain ⟨h6, h7, h8⟩ := getI_some g5
        obtain ⟨x1002, g9, b3⟩ := obnd_some b3
        obtain ⟨h10, h11, h12⟩ := getI_some g9
        obtain ⟨r1003, g13, b3⟩ := obnd_some b3
        simp -implicitDefEqProofs -dsimp only [go_sem, ↓reduceIte, ↓dreduceIte, reduceCtorEq, Nat.reduceMul, Nat.reduceAdd, Nat.reduceSub, Nat.reduceDiv, Nat.reduceLT, Nat.reduceLeDiff, Nat.reduceEqDiff, Nat.reduceBEq, Int.reduceNeg, Int.reduceLT, Int.reduceLE, Int.reduceEq, Int.reduceToNat, (eq_true h1), (eq_true h4), h6, h7, h8, h10, h11, h12]
        refine callW_of (c_laws_eqEntry g13) ?_
        rcases ite_some b3 with ⟨h14, b3⟩ | ⟨h14, b3⟩
        · cases b3
          simp -implicitDefEqProofs -dsimp only [go_sem, ↓reduceIte, ↓dreduceIte, reduceCtorEq, Nat.reduceMul, Nat.reduceAdd, Nat.reduceSub, Nat.reduceDiv, Nat.reduceLT, Nat.reduceLeDiff, Nat.reduceEqDiff, Nat.reduceBEq, Int.reduceNeg, Int.reduceLT, Int.reduceLE, Int.reduceEq, Int.reduceToNat, (eq_true h1), (eq_true h4), h6, h7, h8, h10, h11, h12, (eq_true h14), (condZ_t h14)]
          refine next_of gb3 ?_
          simp -implicitDefEqProofs -dsimp only [go_sem, ↓reduceIte, ↓dreduceIte, reduceCtorEq, Nat.reduceMul, Nat.reduceAdd, Nat.reduceSub, Nat.reduceDiv, Nat.reduceLT, Nat.reduceLeDiff, Nat.reduceEqDiff, Nat.reduceBEq, Int.reduceNeg, Int.reduceLT, Int.reduceLE, Int.reduceEq, Int.reduceToNat, (eq_true h1), (eq_true h4), h6, h7, h8, h10, h11, h12, (eq_true h14), (condZ_t h14)]
        · cases b3
          have e15 := done_of gb3
          subst e15
          try dsimp only at h
          cases h
          simp -implicitDefEqProofs -dsimp only [go_sem, ↓reduceIte, ↓dreduceIte, reduceCtorEq, Nat.reduceMul, Nat.reduceAdd, Nat.reduceSub, Nat.reduceDiv, Nat.reduceLT, Nat.reduceLeDiff, Nat.reduceEqDiff, Nat.reduceBEq, Int.reduceNeg, Int.reduceLT, Int.reduceLE, Int.reduceEq, Int.reduceToNat, (eq_true h1), (eq_true h4), h6, h7, h8, h10, h11, h12, (eq_false h14), (condZ_f h14)]
      · cases b3
        have e16 := done_of gb3
        subst e16
        try dsimp only at h
        cases h
        simp -implicitDefEqProofs -dsimp only [go_sem, ↓reduceIte, ↓dreduceIte, reduceCtorEq, Nat.reduceMul, Nat.reduceAdd, Nat.reduceSub, Nat.reduceDiv, Nat.reduceLT, Nat.reduceLeDiff, Nat.reduceEqDiff, Nat.reduceBEq, Int.reduceNeg, Int.reduceLT, Int.reduceLE, Int.reduceEq, Int.reduceToNat, (eq_true h1), (eq_false h4)]
  · cases h
    simp -implicitDefEqProofs -dsimp only [go_sem, ↓reduceIte, ↓dreduceIte, reduceCtorEq, Nat.reduceMul, Nat.reduceAdd, Nat.reduceSub, Nat.reduceDiv, Nat.reduceLT, Nat.reduceLeDiff, Nat.reduceEqDiff, Nat.reduceBEq, Int.reduceNeg, Int.reduceLT, Int.reduceLE, Int.reduceEq, Int.reduceToNat, (eq_false h1)]
/- 41 loop.example/g00827/laws.eqDesk -/
def hi41 : Hint where
  acts := fun _ => []
  draws := fun
    | _ => ⟨[], [], []⟩
theorem hi41a (i : Nat) : hi41.acts i = [] := rfl
theorem hi41v (i : Nat) : hi41.views i = none := rfl
attribute [go_sem] hi41a hi41v Go.Proofs.Try.ntmps41 Go.Proofs.Try.results41
theorem c_laws_eqDesk {a : GDesk} {b : GDesk} {res : Bool} (h : m_laws_eqDesk a b = some res) : CallOk Go.Proofs.Try.prog 41 [.agg [.sl (rowsOf GNode.encS a.show_.nodes), .sl (rowsOf GTie.enc a.show_.ties), .lit (.int .i64 a.show_.horizon), .lit (.int .i64 a.state.now), .sl (rowsOf eI a.state.times), .sl (rowsOf eI a.state.values), .lit (.bool a.lazy), .sl (rowsOf GEntry.encS a.log)], .agg [.sl (rowsOf GNode.encS b.show_.nodes), .sl (rowsOf GTie.enc b.show_.ties), .lit (.int .i64 b.show_.horizon), .lit (.int .i64 b.state.now), .sl (rowsOf eI b.state.times), .sl (rowsOf eI b.state.values), .lit (.bool b.lazy), .sl (rowsOf GEntry.encS b.log)]] [] (.lit (.bool res)) [] := by
  refine callOk_of (ra := []) (md := mdT) hT (hi := hi41) Go.Proofs.Try.func41 rfl rfl (by decide +kernel) (by simp) ?_
  unfold m_laws_eqDesk at h
  obtain ⟨r1001, g1, h⟩ := obnd_some h
  simp -implicitDefEqProofs -dsimp only [go_sem, ↓reduceIte, ↓dreduceIte, reduceCtorEq, Nat.reduceMul, Nat.reduceAdd, Nat.reduceSub, Nat.reduceDiv, Nat.reduceLT, Nat.reduceLeDiff, Nat.reduceEqDiff, Nat.reduceBEq, Int.reduceNeg, Int.reduceLT, Int.reduceLE, Int.reduceEq, Int.reduceToNat]
  refine callW_of (c_laws_eqShow g1) ?_
  rcases ite_some h with ⟨h2, h⟩ | ⟨h2, h⟩
  · obtain ⟨r1002, g3, h⟩ := obnd_some h
    simp -implicitDefEqProofs -dsimp only [go_sem, ↓reduceIte, ↓dreduceIte, reduceCtorEq, Nat.reduceMul, Nat.reduceAdd, Nat.reduceSub, Nat.reduceDiv, Nat.reduceLT, Nat.reduceLeDiff, Nat.reduceEqDiff, Nat.reduceBEq, Int.reduceNeg, Int.reduceLT, Int.reduceLE, Int.reduceEq, Int.reduceToNat, (eq_true h2), (condZ_t h2)]
    refine callW_of (c_laws_eqState g3) ?_
    rcases ite_some h with ⟨h4, h⟩ | ⟨h4, h⟩
    · rcases ite_some h with ⟨h5, h⟩ | ⟨h5, h⟩
      · obtain ⟨r1003, g6, h⟩ := obnd_some h
        simp -implicitDefEqProofs -dsimp only [go_sem, ↓reduceIte, ↓dreduceIte, reduceCtorEq, Nat.reduceMul, Nat.reduceAdd, Nat.reduceSub, Nat.reduceDiv, Nat.reduceLT, Nat.reduceLeDiff, Nat.reduceEqDiff, Nat.reduceBEq, Int.reduceNeg, Int.reduceLT, Int.reduceLE, Int.reduceEq, Int.reduceToNat, (eq_true h2), (condZ_t h2), (eq_true h4), (condZ_t h4), (eq_true h5)]
        refine callW_of (c_laws_eqEntryS g6) ?_
        rcases ite_some h with ⟨h7, h⟩ | ⟨h7, h⟩
        · cases h
          simp -implicitDefEqProofs -dsimp only [go_sem, ↓reduceIte, ↓dreduceIte, reduceCtorEq, Nat.reduceMul, Nat.reduceAdd, Nat.reduceSub, Nat.reduceDiv, Nat.reduceLT, Nat.reduceLeDiff, Nat.reduceEqDiff, Nat.reduceBEq, Int.reduceNeg, Int.reduceLT, Int.reduceLE, Int.reduceEq, Int.reduceToNat, (eq_true h2), (condZ_t h2), (eq_true h4), (condZ_t h4), (eq_true h5), (eq_true h7), (condZ_t h7)]
        · cases h
          simp -implicitDefEqProofs -dsimp only [go_sem, ↓reduceIte, ↓dreduceIte, reduceCtorEq, Nat.reduceMul, Nat.reduceAdd, Nat.reduceSub, Nat.reduceDiv, Nat.reduceLT, Nat.reduceLeDiff, Nat.reduceEqDiff, Nat.reduceBEq, Int.reduceNeg, Int.reduceLT, Int.reduceLE, Int.reduceEq, Int.reduceToNat, (eq_true h2), (condZ_t h2), (eq_true h4), (condZ_t h4), (eq_true h5), (eq_false h7), (condZ_f h7)]
      · cases h
        simp -implicitDefEqProofs -dsimp only [go_sem, ↓reduceIte, ↓dreduceIte, reduceCtorEq, Nat.reduceMul, Nat.reduceAdd, Nat.reduceSub, Nat.reduceDiv, Nat.reduceLT, Nat.reduceLeDiff, Nat.reduceEqDiff, Nat.reduceBEq, Int.reduceNeg, Int.reduceLT, Int.reduceLE, Int.reduceEq, Int.reduceToNat, (eq_true h2), (condZ_t h2), (eq_true h4), (condZ_t h4), (eq_false h5)]
    · cases h
      simp -implicitDefEqProofs -dsimp only [go_sem, ↓reduceIte, ↓dreduceIte, reduceCtorEq, Nat.reduceMul, Nat.reduceAdd, Nat.reduceSub, Nat.reduceDiv, Nat.reduceLT, Nat.reduceLeDiff, Nat.reduceEqDiff, Nat.reduceBEq, Int.reduceNeg, Int.reduceLT, Int.reduceLE, Int.reduceEq, Int.reduceToNat, (eq_true h2), (condZ_t h2), (eq_false h4), (condZ_f h4)]
  · cases h
    simp -implicitDefEqProofs -dsimp only [go_sem, ↓reduceIte, ↓dreduceIte, reduceCtorEq, Nat.reduceMul, Nat.reduceAdd, Nat.reduceSub, Nat.reduceDiv, Nat.reduceLT, Nat.reduceLeDiff, Nat.reduceEqDiff, Nat.reduceBEq, Int.reduceNeg, Int.reduceLT, Int.reduceLE, Int.reduceEq, Int.reduceToNat, (eq_false h2), (condZ_f h2)]
/- 125 loop.example/g00827/laws.eqTake -/
def hi125 : Hint where
  acts := fun _ => []
  draws := fun
    | _ => ⟨[], [], []⟩
theorem hi125a (i : Nat) : hi125.acts i = [] := rfl
theorem hi125v (i : Nat) : hi125.views i = none := rfl
attribute [go_sem] hi125a hi125v Go.Proofs.Try.ntmps125 Go.Proofs.Try.results125
theorem c_laws_eqTake {a : GTake} {b : GTake} {res : Bool} (h : m_laws_eqTake a b = some res) : CallOk Go.Proofs.Try.prog 125 [.agg [.lit (.int .i64 a.tie), .lit (.int .i64 a.length)], .agg [.lit (.int .i64 b.tie), .lit (.int .i64 b.length)]] [] (.lit (.bool res)) [] := by
  refine callOk_of (ra := []) (md := mdT) hT (hi := hi125) Go.Proofs.Try.func125 rfl rfl (by decide +kernel) (by simp) ?_
  unfold m_laws_eqTake at h
  rcases ite_some h with ⟨h1, h⟩ | ⟨h1, h⟩
  · rcases ite_some h with ⟨h2, h⟩ | ⟨h2, h⟩
    · cases h
      simp -implicitDefEqProofs -dsimp only [go_sem, ↓reduceIte, ↓dreduceIte, reduceCtorEq, Nat.reduceMul, Nat.reduceAdd, Nat.reduceSub, Nat.reduceDiv, Nat.reduceLT, Nat.reduceLeDiff, Nat.reduceEqDiff, Nat.reduceBEq, Int.reduceNeg, Int.reduceLT, Int.reduceLE, Int.reduceEq, Int.reduceToNat, (eq_true h1), (eq_true h2)]
    · cases h
      simp -implicitDefEqProofs -dsimp only [go_sem, ↓reduceIte, ↓dreduceIte, reduceCtorEq, Nat.reduceMul, Nat.reduceAdd, Nat.reduceSub, Nat.reduceDiv, Nat.reduceLT, Nat.reduceLeDiff, Nat.reduceEqDiff, Nat.reduceBEq, Int.reduceNeg, Int.reduceLT, Int.reduceLE, Int.reduceEq, Int.reduceToNat, (eq_true h1), (eq_false h2)]
  · cases h
    simp -implicitDefEqProofs -dsimp only [go_sem, ↓reduceIte, ↓dreduceIte, reduceCtorEq, Nat.reduceMul, Nat.reduceAdd, Nat.reduceSub, Nat.reduceDiv, Nat.reduceLT, Nat.reduceLeDiff, Nat.reduceEqDiff, Nat.reduceBEq, Int.reduceNeg, Int.reduceLT, Int.reduceLE, Int.reduceEq, Int.reduceToNat, (eq_false h1)]
/- 49 loop.example/g00827/laws.eqTakeS -/
def m_laws_eqTakeS_L1_St (a : List GTake) (b : List GTake) (i : Int) : St := ⟨[(0, .sl (rowsOf GTake.enc a)), (1, .sl (rowsOf GTake.enc b)), (5, .lit (.int .i64 i))], [], 2⟩
attribute [go_sem] m_laws_eqTakeS_L1_St
def hi49 : Hint where
  acts := fun _ => []
  draws := fun
    | 6 => ⟨[⟨0, false, []⟩, ⟨1, false, []⟩, ⟨2, false, []⟩, ⟨3, false, []⟩, ⟨4, false, []⟩, ⟨5, false, []⟩, ⟨6, false, []⟩, ⟨7, false, []⟩, ⟨8, false, []⟩, ⟨9, false, []⟩], [[], [], [0, 1], [0, 1, 2], [], [], [4, 5], [4, 5, 6], [0, 1, 2, 3, 4, 5, 6, 7], [0, 1, 2, 3, 4, 5, 6, 7, 8]], [0, 1, 2, 3, 4, 5, 6, 7, 8, 9]⟩
    | _ => ⟨[], [], []⟩
theorem hi49a (i : Nat) : hi49.acts i = [] := rfl
theorem hi49v (i : Nat) : hi49.views i = none := rfl
attribute [go_sem] hi49a hi49v Go.Proofs.Try.ntmps49 Go.Proofs.Try.results49
@[go_sem] theorem hi49d6 : (hi49.draws 6).order = [⟨0, false, []⟩, ⟨1, false, []⟩, ⟨2, false, []⟩, ⟨3, false, []⟩, ⟨4, false, []⟩, ⟨5, false, []⟩, ⟨6, false, []⟩, ⟨7, false, []⟩, ⟨8, false, []⟩, ⟨9, false, []⟩] := rfl
theorem c_laws_eqTakeS {a : List GTake} {b : List GTake} {res : Bool} (h : m_laws_eqTakeS a b = some res) : CallOk Go.Proofs.Try.prog 49 [.sl (rowsOf GTake.enc a), .sl (rowsOf GTake.enc b)] [] (.lit (.bool res)) [] := by
  refine callOk_of (ra := []) (md := mdT) hT (hi := hi49) Go.Proofs.Try.func49 rfl rfl (by decide +kernel) (by simp) ?_
  unfold m_laws_eqTakeS at h
  rcases ite_some h with ⟨h1, h⟩ | ⟨h1, h⟩
  · obtain ⟨q1004, l2, h⟩ := obnd_some h
    simp -implicitDefEqProofs -dsimp only [go_sem, ↓reduceIte, ↓dreduceIte, reduceCtorEq, Nat.reduceMul, Nat.reduceAdd, Nat.reduceSub, Nat.reduceDiv, Nat.reduceLT, Nat.reduceLeDiff, Nat.reduceEqDiff, Nat.reduceBEq, Int.reduceNeg, Int.reduceLT, Int.reduceLE, Int.reduceEq, Int.reduceToNat, (eq_true h1)]
    refine loopW_loopO (m1 := .mk) (m2 := .mk) [.nf [0, 1, 5] []] (m_laws_eqTakeS_L1_St a b) l2 ?_ ?_
    · simp -implicitDefEqProofs -dsimp only [go_sem, ↓reduceIte, ↓dreduceIte, reduceCtorEq, Nat.reduceMul, Nat.reduceAdd, Nat.reduceSub, Nat.reduceDiv, Nat.reduceLT, Nat.reduceLeDiff, Nat.reduceEqDiff, Nat.reduceBEq, Int.reduceNeg, Int.reduceLT, Int.reduceLE, Int.reduceEq, Int.reduceToNat, (eq_true h1)]
    · intro nb3 sb3 bb3 b3 gb3
      obtain ⟨i_1, eb3⟩ : ∃ v, v = sb3 := ⟨_, rfl⟩; subst eb3
      unfold m_laws_eqTakeS_L1 at b3
      try dsimp only at b3
      rcases ite_some b3 with ⟨h4, b3⟩ | ⟨h4, b3⟩
      · obtain ⟨x1001, g5, b3⟩ := obnd_some b3
        obtain ⟨h6, h7, h8⟩ := getI_some g5
        obtain ⟨x1002, g9, b3⟩ := obnd_some b3
        obtain ⟨h10, h11, h12⟩ := getI_some g9
        obtain ⟨r1003, g13, b3⟩ := obnd_some b3
        simp -implicitDefEqProofs -dsimp only [go_sem, ↓reduceIte, ↓dreduceIte, reduceCtorEq, Nat.reduceMul, Nat.reduceAdd, Nat.reduceSub, Nat.reduceDiv, Nat.reduceLT, Nat.reduceLeDiff, Nat.reduceEqDiff, Nat.reduceBEq, Int.reduceNeg, Int.reduceLT, Int.reduceLE, Int.reduceEq, Int.reduceToNat, (eq_true h1), (eq_true h4), h6, h7, h8, h10, h11, h12]
        refine callW_of (c_laws_eqTake g13) ?_
        rcases ite_some b3 with ⟨h14, b3⟩ | ⟨h14, b3⟩
        · cases b3
          simp -implicitDefEqProofs -dsimp only [go_sem, ↓reduceIte, ↓dreduceIte, reduceCtorEq, Nat.reduceMul, Nat.reduceAdd, Nat.reduceSub, Nat.reduceDiv, Nat.reduceLT, Nat.reduceLeDiff, Nat.reduceEqDiff, Nat.reduceBEq, Int.reduceNeg, Int.reduceLT, Int.reduceLE, Int.reduceEq, Int.reduceToNat, (eq_true h1), (eq_true h4), h6, h7, h8, h10, h11, h12, (eq_true h14), (condZ_t h14)]
          refine next_of gb3 ?_
          simp -implicitDefEqProofs -dsimp only [go_sem, ↓reduceIte, ↓dreduceIte, reduceCtorEq, Nat.reduceMul, Nat.reduceAdd, Nat.reduceSub, Nat.reduceDiv, Nat.reduceLT, Nat.reduceLeDiff, Nat.reduceEqDiff, Nat.reduceBEq, Int.reduceNeg, Int.reduceLT, Int.reduceLE, Int.reduceEq, Int.reduceToNat, (eq_true h1), (eq_true h4), h6, h7, h8, h10, h11, h12, (eq_true h14), (condZ_t h14)]
        · cases b3
          have e15 := done_of gb3
          subst e15
          try dsimp only at h
          cases h
          simp -implicitDefEqProofs -dsimp only [go_sem, ↓reduceIte, ↓dreduceIte, reduceCtorEq, Nat.reduceMul, Nat.reduceAdd, Nat.reduceSub, Nat.reduceDiv, Nat.reduceLT, Nat.reduceLeDiff, Nat.reduceEqDiff, Nat.reduceBEq, Int.reduceNeg, Int.reduceLT, Int.reduceLE, Int.reduceEq, Int.reduceToNat, (eq_true h1), (eq_true h4), h6, h7, h8, h10, h11, h12, (eq_false h14), (condZ_f h14)]
      · cases b3
        have e16 := done_of gb3
        subst e16
        try dsimp only at h
        cases h
        simp -implicitDefEqProofs -dsimp only [go_sem, ↓reduceIte, ↓dreduceIte, reduceCtorEq, Nat.reduceMul, Nat.reduceAdd, Nat.reduceSub, Nat.reduceDiv, Nat.reduceLT, Nat.reduceLeDiff, Nat.reduceEqDiff, Nat.reduceBEq, Int.reduceNeg, Int.reduceLT, Int.reduceLE, Int.reduceEq, Int.reduceToNat, (eq_true h1), (eq_false h4)]
  · cases h
    simp -implicitDefEqProofs -dsimp only [go_sem, ↓reduceIte, ↓dreduceIte, reduceCtorEq, Nat.reduceMul, Nat.reduceAdd, Nat.reduceSub, Nat.reduceDiv, Nat.reduceLT, Nat.reduceLeDiff, Nat.reduceEqDiff, Nat.reduceBEq, Int.reduceNeg, Int.reduceLT, Int.reduceLE, Int.reduceEq, Int.reduceToNat, (eq_false h1)]
/- 58 loop.example/g00827/laws.eqConsole -/
def hi58 : Hint where
  acts := fun _ => []
  draws := fun
    | _ => ⟨[], [], []⟩
theorem hi58a (i : Nat) : hi58.acts i = [] := rfl
theorem hi58v (i : Nat) : hi58.views i = none := rfl
attribute [go_sem] hi58a hi58v Go.Proofs.Try.ntmps58 Go.Proofs.Try.results58
theorem c_laws_eqConsole {a : GConsole} {b : GConsole} {res : Bool} (h : m_laws_eqConsole a b = some res) : CallOk Go.Proofs.Try.prog 58 [.agg [.sl (rowsOf GCue.enc a.sheet.cues), .sl (rowsOf eI a.sheet.prep), .lit (.int .i64 a.sheet.horizon), .sl (rowsOf GNode.encS a.desk.show_.nodes), .sl (rowsOf GTie.enc a.desk.show_.ties), .lit (.int .i64 a.desk.show_.horizon), .lit (.int .i64 a.desk.state.now), .sl (rowsOf eI a.desk.state.times), .sl (rowsOf eI a.desk.state.values), .lit (.bool a.desk.lazy), .sl (rowsOf GEntry.encS a.desk.log), .sl (rowsOf GTake.enc a.takes)], .agg [.sl (rowsOf GCue.enc b.sheet.cues), .sl (rowsOf eI b.sheet.prep), .lit (.int .i64 b.sheet.horizon), .sl (rowsOf GNode.encS b.desk.show_.nodes), .sl (rowsOf GTie.enc b.desk.show_.ties), .lit (.int .i64 b.desk.show_.horizon), .lit (.int .i64 b.desk.state.now), .sl (rowsOf eI b.desk.state.times), .sl (rowsOf eI b.desk.state.values), .lit (.bool b.desk.lazy), .sl (rowsOf GEntry.encS b.desk.log), .sl (rowsOf GTake.enc b.takes)]] [] (.lit (.bool res)) [] := by
  refine callOk_of (ra := []) (md := mdT) hT (hi := hi58) Go.Proofs.Try.func58 rfl rfl (by decide +kernel) (by simp) ?_
  unfold m_laws_eqConsole at h
  obtain ⟨r1001, g1, h⟩ := obnd_some h
  simp -implicitDefEqProofs -dsimp only [go_sem, ↓reduceIte, ↓dreduceIte, reduceCtorEq, Nat.reduceMul, Nat.reduceAdd, Nat.reduceSub, Nat.reduceDiv, Nat.reduceLT, Nat.reduceLeDiff, Nat.reduceEqDiff, Nat.reduceBEq, Int.reduceNeg, Int.reduceLT, Int.reduceLE, Int.reduceEq, Int.reduceToNat]
  refine callW_of (c_laws_eqSheet g1) ?_
  rcases ite_some h with ⟨h2, h⟩ | ⟨h2, h⟩
  · obtain ⟨r1002, g3, h⟩ := obnd_some h
    simp -implicitDefEqProofs -dsimp only [go_sem, ↓reduceIte, ↓dreduceIte, reduceCtorEq, Nat.reduceMul, Nat.reduceAdd, Nat.reduceSub, Nat.reduceDiv, Nat.reduceLT, Nat.reduceLeDiff, Nat.reduceEqDiff, Nat.reduceBEq, Int.reduceNeg, Int.reduceLT, Int.reduceLE, Int.reduceEq, Int.reduceToNat, (eq_true h2), (condZ_t h2)]
    refine callW_of (c_laws_eqDesk g3) ?_
    rcases ite_some h with ⟨h4, h⟩ | ⟨h4, h⟩
    · obtain ⟨r1003, g5, h⟩ := obnd_some h
      simp -implicitDefEqProofs -dsimp only [go_sem, ↓reduceIte, ↓dreduceIte, reduceCtorEq, Nat.reduceMul, Nat.reduceAdd, Nat.reduceSub, Nat.reduceDiv, Nat.reduceLT, Nat.reduceLeDiff, Nat.reduceEqDiff, Nat.reduceBEq, Int.reduceNeg, Int.reduceLT, Int.reduceLE, Int.reduceEq, Int.reduceToNat, (eq_true h2), (condZ_t h2), (eq_true h4), (condZ_t h4)]
      refine callW_of (c_laws_eqTakeS g5) ?_
      rcases ite_some h with ⟨h6, h⟩ | ⟨h6, h⟩
      · cases h
        simp -implicitDefEqProofs -dsimp only [go_sem, ↓reduceIte, ↓dreduceIte, reduceCtorEq, Nat.reduceMul, Nat.reduceAdd, Nat.reduceSub, Nat.reduceDiv, Nat.reduceLT, Nat.reduceLeDiff, Nat.reduceEqDiff, Nat.reduceBEq, Int.reduceNeg, Int.reduceLT, Int.reduceLE, Int.reduceEq, Int.reduceToNat, (eq_true h2), (condZ_t h2), (eq_true h4), (condZ_t h4), (eq_true h6), (condZ_t h6)]
      · cases h
        simp -implicitDefEqProofs -dsimp only [go_sem, ↓reduceIte, ↓dreduceIte, reduceCtorEq, Nat.reduceMul, Nat.reduceAdd, Nat.reduceSub, Nat.reduceDiv, Nat.reduceLT, Nat.reduceLeDiff, Nat.reduceEqDiff, Nat.reduceBEq, Int.reduceNeg, Int.reduceLT, Int.reduceLE, Int.reduceEq, Int.reduceToNat, (eq_true h2), (condZ_t h2), (eq_true h4), (condZ_t h4), (eq_false h6), (condZ_f h6)]
    · cases h
      simp -implicitDefEqProofs -dsimp only [go_sem, ↓reduceIte, ↓dreduceIte, reduceCtorEq, Nat.reduceMul, Nat.reduceAdd, Nat.reduceSub, Nat.reduceDiv, Nat.reduceLT, Nat.reduceLeDiff, Nat.reduceEqDiff, Nat.reduceBEq, Int.reduceNeg, Int.reduceLT, Int.reduceLE, Int.reduceEq, Int.reduceToNat, (eq_true h2), (condZ_t h2), (eq_false h4), (condZ_f h4)]
  · cases h
    simp -implicitDefEqProofs -dsimp only [go_sem, ↓reduceIte, ↓dreduceIte, reduceCtorEq, Nat.reduceMul, Nat.reduceAdd, Nat.reduceSub, Nat.reduceDiv, Nat.reduceLT, Nat.reduceLeDiff, Nat.reduceEqDiff, Nat.reduceBEq, Int.reduceNeg, Int.reduceLT, Int.reduceLE, Int.reduceEq, Int.reduceToNat, (eq_false h2), (condZ_f h2)]
/- 185 loop.example/g00827/laws.markCueS -/
def m_laws_markCueS_L1_St  : (Int × Int × (List GCue)) → St
  | (k, i, a) => ⟨[(0, .ref 10000 0 0 a.length), (1, .lit (.int .i64 k)), (5, .lit (.int .i64 i))], [(10000, 0, .row true (rowsOf GCue.enc a))], 2⟩
attribute [go_sem] m_laws_markCueS_L1_St
def hi185 : Hint where
  acts := fun _ => []
  draws := fun
    | _ => ⟨[], [], []⟩
theorem hi185a (i : Nat) : hi185.acts i = [] := rfl
theorem hi185v (i : Nat) : hi185.views i = none := rfl
attribute [go_sem] hi185a hi185v Go.Proofs.Try.ntmps185 Go.Proofs.Try.results185
theorem c_laws_markCueS {a : List GCue} {k : Int} {res : Int × (List GCue)} (h : m_laws_markCueS a k = some res) : CallOk Go.Proofs.Try.prog 185 [.ref 10000 0 0 a.length, .lit (.int .i64 k)] [(10000, 0, .row true (rowsOf GCue.enc a))] (.lit (.int .i64 res.1)) [(10000, 0, .row true (rowsOf GCue.enc res.2))] := by
  refine callOk_of (ra := []) (md := mdT) hT (hi := hi185) Go.Proofs.Try.func185 rfl rfl (by decide +kernel) (by simp) ?_
  unfold m_laws_markCueS at h
  obtain ⟨q1013, l1, h⟩ := obnd_some h
  simp -implicitDefEqProofs -dsimp only [go_sem, ↓reduceIte, ↓dreduceIte, reduceCtorEq, Nat.reduceMul, Nat.reduceAdd, Nat.reduceSub, Nat.reduceDiv, Nat.reduceLT, Nat.reduceLeDiff, Nat.reduceEqDiff, Nat.reduceBEq, Int.reduceNeg, Int.reduceLT, Int.reduceLE, Int.reduceEq, Int.reduceToNat]
  refine loopW_loopO (m1 := .mk) (m2 := .mk) [.nf [0, 1, 5] [10000]] (m_laws_markCueS_L1_St) l1 ?_ ?_
  · simp -implicitDefEqProofs -dsimp only [go_sem, ↓reduceIte, ↓dreduceIte, reduceCtorEq, Nat.reduceMul, Nat.reduceAdd, Nat.reduceSub, Nat.reduceDiv, Nat.reduceLT, Nat.reduceLeDiff, Nat.reduceEqDiff, Nat.reduceBEq, Int.reduceNeg, Int.reduceLT, Int.reduceLE, Int.reduceEq, Int.reduceToNat]
  · intro nb2 sb2 bb2 b2 gb2
    obtain ⟨k_1, i_1, a_1⟩ := sb2
    unfold m_laws_markCueS_L1 at b2
    try dsimp only at b2
    rcases ite_some b2 with ⟨h3, b2⟩ | ⟨h3, b2⟩
    · obtain ⟨r1001, g4, b2⟩ := obnd_some b2
      simp -implicitDefEqProofs -dsimp only [go_sem, ↓reduceIte, ↓dreduceIte, reduceCtorEq, Nat.reduceMul, Nat.reduceAdd, Nat.reduceSub, Nat.reduceDiv, Nat.reduceLT, Nat.reduceLeDiff, Nat.reduceEqDiff, Nat.reduceBEq, Int.reduceNeg, Int.reduceLT, Int.reduceLE, Int.reduceEq, Int.reduceToNat, (eq_true h3)]
      refine callW_of (c_laws_markText g4) ?_
      obtain ⟨x1002, g5, b2⟩ := obnd_some b2
      obtain ⟨h6, h7, h8⟩ := getI_some g5
      obtain ⟨x1003, g9, b2⟩ := obnd_some b2
      obtain ⟨h10, h11, h12⟩ := getI_some g9
      obtain ⟨x1004, g13, b2⟩ := obnd_some b2
      obtain ⟨h14, h15, h16⟩ := getI_some g13
      obtain ⟨x1005, g17, b2⟩ := obnd_some b2
      obtain ⟨h18, h19, h20⟩ := getI_some g17
      obtain ⟨x1006, g21, b2⟩ := obnd_some b2
      obtain ⟨h22, h23, h24⟩ := getI_some g21
      obtain ⟨x1007, g25, b2⟩ := obnd_some b2
      obtain ⟨h26, h27, h28⟩ := getI_some g25
      obtain ⟨x1008, g29, b2⟩ := obnd_some b2
      obtain ⟨h30, h31, h32⟩ := getI_some g29
      obtain ⟨x1009, g33, b2⟩ := obnd_some b2
      obtain ⟨h34, h35, h36⟩ := getI_some g33
      obtain ⟨x1010, g37, b2⟩ := obnd_some b2
      obtain ⟨h38, h39, h40⟩ := getI_some g37
      obtain ⟨x1011, g41, b2⟩ := obnd_some b2
      obtain ⟨h42, h43, h44⟩ := getI_some g41
      obtain ⟨x1012, g45, b2⟩ := obnd_some b2
      obtain ⟨h46, h47, h48⟩ := getI_some g45
      cases b2
      simp -implicitDefEqProofs -dsimp only [go_sem, ↓reduceIte, ↓dreduceIte, reduceCtorEq, Nat.reduceMul, Nat.reduceAdd, Nat.reduceSub, Nat.reduceDiv, Nat.reduceLT, Nat.reduceLeDiff, Nat.reduceEqDiff, Nat.reduceBEq, Int.reduceNeg, Int.reduceLT, Int.reduceLE, Int.reduceEq, Int.reduceToNat, (eq_true h3), h6, h7, h8, h10, h11, h12, h14, h15, h16, h18, h19, h20, h22, h23, h24, h26, h27, h28, h30, h31, h32, h34, h35, h36, h38, h39, h40, h42, h43, h44, h46, h47, h48]
      refine next_of gb2 ?_
      simp -implicitDefEqProofs -dsimp only [go_sem, ↓reduceIte, ↓dreduceIte, reduceCtorEq, Nat.reduceMul, Nat.reduceAdd, Nat.reduceSub, Nat.reduceDiv, Nat.reduceLT, Nat.reduceLeDiff, Nat.reduceEqDiff, Nat.reduceBEq, Int.reduceNeg, Int.reduceLT, Int.reduceLE, Int.reduceEq, Int.reduceToNat, (eq_true h3), h6, h7, h8, h10, h11, h12, h14, h15, h16, h18, h19, h20, h22, h23, h24, h26, h27, h28, h30, h31, h32, h34, h35, h36, h38, h39, h40, h42, h43, h44, h46, h47, h48]
    · cases b2
      have e49 := done_of gb2
      subst e49
      try dsimp only at h
      cases h
      simp -implicitDefEqProofs -dsimp only [go_sem, ↓reduceIte, ↓dreduceIte, reduceCtorEq, Nat.reduceMul, Nat.reduceAdd, Nat.reduceSub, Nat.reduceDiv, Nat.reduceLT, Nat.reduceLeDiff, Nat.reduceEqDiff, Nat.reduceBEq, Int.reduceNeg, Int.reduceLT, Int.reduceLE, Int.reduceEq, Int.reduceToNat, (eq_false h3)]
/- 130 loop.example/g00827/laws.markSheet -/
def hi130 : Hint where
  acts := fun _ => []
  draws := fun
    | _ => ⟨[], [], []⟩
theorem hi130a (i : Nat) : hi130.acts i = [] := rfl
theorem hi130v (i : Nat) : hi130.views i = none := rfl
attribute [go_sem] hi130a hi130v Go.Proofs.Try.ntmps130 Go.Proofs.Try.results130
theorem c_laws_markSheet {a : GSheet} {k : Int} {res : Int × (List GCue) × (List Int)} (h : m_laws_markSheet a k = some res) : CallOk Go.Proofs.Try.prog 130 [.agg [.ref 10000 0 0 a.cues.length, .ref 10001 0 0 a.prep.length, .lit (.int .i64 a.horizon)], .lit (.int .i64 k)] [(10000, 0, .row true (rowsOf GCue.enc a.cues)), (10001, 0, .row true (rowsOf eI a.prep))] (.lit (.int .i64 res.1)) [(10000, 0, .row true (rowsOf GCue.enc res.2.1)), (10001, 0, .row true (rowsOf eI res.2.2))] := by
  refine callOk_of (ra := []) (md := mdT) hT (hi := hi130) Go.Proofs.Try.func130 rfl rfl (by decide +kernel) (by simp) ?_
  unfold m_laws_markSheet at h
  obtain ⟨r1001, g1, h⟩ := obnd_some h
  simp -implicitDefEqProofs -dsimp only [go_sem, ↓reduceIte, ↓dreduceIte, reduceCtorEq, Nat.reduceMul, Nat.reduceAdd, Nat.reduceSub, Nat.reduceDiv, Nat.reduceLT, Nat.reduceLeDiff, Nat.reduceEqDiff, Nat.reduceBEq, Int.reduceNeg, Int.reduceLT, Int.reduceLE, Int.reduceEq, Int.reduceToNat]
  refine callW_of (c_laws_markCueS g1) ?_
  obtain ⟨r1002, g2, h⟩ := obnd_some h
  simp -implicitDefEqProofs -dsimp only [go_sem, ↓reduceIte, ↓dreduceIte, reduceCtorEq, Nat.reduceMul, Nat.reduceAdd, Nat.reduceSub, Nat.reduceDiv, Nat.reduceLT, Nat.reduceLeDiff, Nat.reduceEqDiff, Nat.reduceBEq, Int.reduceNeg, Int.reduceLT, Int.reduceLE, Int.reduceEq, Int.reduceToNat]
  refine callW_of (c_laws_markIntS g2) ?_
  cases h
  simp -implicitDefEqProofs -dsimp only [go_sem, ↓reduceIte, ↓dreduceIte, reduceCtorEq, Nat.reduceMul, Nat.reduceAdd, Nat.reduceSub, Nat.reduceDiv, Nat.reduceLT, Nat.reduceLeDiff, Nat.reduceEqDiff, Nat.reduceBEq, Int.reduceNeg, Int.reduceLT, Int.reduceLE, Int.reduceEq, Int.reduceToNat]
/- 68 loop.example/g00827/laws.markState -/
def hi68 : Hint where
  acts := fun _ => []
  draws := fun
    | _ => ⟨[], [], []⟩
theorem hi68a (i : Nat) : hi68.acts i = [] := rfl
theorem hi68v (i : Nat) : hi68.views i = none := rfl
attribute [go_sem] hi68a hi68v Go.Proofs.Try.ntmps68 Go.Proofs.Try.results68
theorem c_laws_markState {a : GState} {k : Int} {res : Int × (List Int) × (List Int)} (h : m_laws_markState a k = some res) : CallOk Go.Proofs.Try.prog 68 [.agg [.lit (.int .i64 a.now), .ref 10000 0 0 a.times.length, .ref 10001 0 0 a.values.length], .lit (.int .i64 k)] [(10000, 0, .row true (rowsOf eI a.times)), (10001, 0, .row true (rowsOf eI a.values))] (.lit (.int .i64 res.1)) [(10000, 0, .row true (rowsOf eI res.2.1)), (10001, 0, .row true (rowsOf eI res.2.2))] := by
  refine callOk_of (ra := []) (md := mdT) hT (hi := hi68) Go.Proofs.Try.func68 rfl rfl (by decide +kernel) (by simp) ?_
  unfold m_laws_markState at h
  obtain ⟨r1001, g1, h⟩ := obnd_some h
  simp -implicitDefEqProofs -dsimp only [go_sem, ↓reduceIte, ↓dreduceIte, reduceCtorEq, Nat.reduceMul, Nat.reduceAdd, Nat.reduceSub, Nat.reduceDiv, Nat.reduceLT, Nat.reduceLeDiff, Nat.reduceEqDiff, Nat.reduceBEq, Int.reduceNeg, Int.reduceLT, Int.reduceLE, Int.reduceEq, Int.reduceToNat]
  refine callW_of (c_laws_markIntS g1) ?_
  obtain ⟨r1002, g2, h⟩ := obnd_some h
  simp -implicitDefEqProofs -dsimp only [go_sem, ↓reduceIte, ↓dreduceIte, reduceCtorEq, Nat.reduceMul, Nat.reduceAdd, Nat.reduceSub, Nat.reduceDiv, Nat.reduceLT, Nat.reduceLeDiff, Nat.reduceEqDiff, Nat.reduceBEq, Int.reduceNeg, Int.reduceLT, Int.reduceLE, Int.reduceEq, Int.reduceToNat]
  refine callW_of (c_laws_markIntS g2) ?_
  cases h
  simp -implicitDefEqProofs -dsimp only [go_sem, ↓reduceIte, ↓dreduceIte, reduceCtorEq, Nat.reduceMul, Nat.reduceAdd, Nat.reduceSub, Nat.reduceDiv, Nat.reduceLT, Nat.reduceLeDiff, Nat.reduceEqDiff, Nat.reduceBEq, Int.reduceNeg, Int.reduceLT, Int.reduceLE, Int.reduceEq, Int.reduceToNat]
/- 149 loop.example/g00827/laws.markEntryS -/
def m_laws_markEntryS_L1_St  : (Int × Int × (List GEntry)) → St
  | (k, i, a) => ⟨[(0, .ref 10000 0 0 a.length), (1, .lit (.int .i64 k)), (5, .lit (.int .i64 i))], [(10000, 0, .row true (rowsOf GEntry.encO a))], 2⟩
attribute [go_sem] m_laws_markEntryS_L1_St
def hi149 : Hint where
  acts := fun _ => []
  views := fun
    | 6 => some (4, 1)
    | 7 => some (4, 1)
    | 8 => some (4, 1)
    | _ => none
  draws := fun
    | _ => ⟨[], [], []⟩
theorem hi149a (i : Nat) : hi149.acts i = [] := rfl
@[go_sem] theorem hi149v0 : hi149.views 0 = none := rfl
@[go_sem] theorem hi149v1 : hi149.views 1 = none := rfl
@[go_sem] theorem hi149v2 : hi149.views 2 = none := rfl
@[go_sem] theorem hi149v4 : hi149.views 4 = none := rfl
@[go_sem] theorem hi149v5 : hi149.views 5 = none := rfl
@[go_sem] theorem hi149v6 : hi149.views 6 = some (4, 1) := rfl
@[go_sem] theorem hi149v7 : hi149.views 7 = some (4, 1) := rfl
@[go_sem] theorem hi149v8 : hi149.views 8 = some (4, 1) := rfl
@[go_sem] theorem hi149v3 : hi149.views 3 = none := rfl
@[go_sem] theorem hi149v9 : hi149.views 9 = none := rfl
attribute [go_sem] hi149a Go.Proofs.Try.ntmps149 Go.Proofs.Try.results149
theorem c_laws_markEntryS {a : List GEntry} {k : Int} {res : Int × (List GEntry)} (h : m_laws_markEntryS a k = some res) : CallOk Go.Proofs.Try.prog 149 [.ref 10000 0 0 a.length, .lit (.int .i64 k)] [(10000, 0, .row true (rowsOf GEntry.encO a))] (.lit (.int .i64 res.1)) [(10000, 0, .row true (rowsOf GEntry.encO res.2))] := by
  refine callOk_of (ra := []) (md := mdT) hT (hi := hi149) Go.Proofs.Try.func149 rfl rfl (by decide +kernel) (by simp) ?_
  unfold m_laws_markEntryS at h
  obtain ⟨q1008, l1, h⟩ := obnd_some h
  simp -implicitDefEqProofs -dsimp only [go_sem, ↓reduceIte, ↓dreduceIte, reduceCtorEq, Nat.reduceMul, Nat.reduceAdd, Nat.reduceSub, Nat.reduceDiv, Nat.reduceLT, Nat.reduceLeDiff, Nat.reduceEqDiff, Nat.reduceBEq, Int.reduceNeg, Int.reduceLT, Int.reduceLE, Int.reduceEq, Int.reduceToNat]
  refine loopW_loopO (m1 := .mk) (m2 := .mk) [.nf [0, 1, 5] [10000]] (m_laws_markEntryS_L1_St) l1 ?_ ?_
  · simp -implicitDefEqProofs -dsimp only [go_sem, ↓reduceIte, ↓dreduceIte, reduceCtorEq, Nat.reduceMul, Nat.reduceAdd, Nat.reduceSub, Nat.reduceDiv, Nat.reduceLT, Nat.reduceLeDiff, Nat.reduceEqDiff, Nat.reduceBEq, Int.reduceNeg, Int.reduceLT, Int.reduceLE, Int.reduceEq, Int.reduceToNat]
  · intro nb2 sb2 bb2 b2 gb2
    obtain ⟨k_1, i_1, a_1⟩ := sb2
    unfold m_laws_markEntryS_L1 at b2
    try dsimp only at b2
    rcases ite_some b2 with ⟨h3, b2⟩ | ⟨h3, b2⟩
    · obtain ⟨x1001, g4, b2⟩ := obnd_some b2
      obtain ⟨h5, h6, h7⟩ := getI_some g4
      obtain ⟨x1002, g8, b2⟩ := obnd_some b2
      obtain ⟨h9, h10, h11⟩ := getI_some g8
      obtain ⟨r1003, g12, b2⟩ := obnd_some b2
      obtain ⟨h13, b2⟩ := chk_some b2
      simp -implicitDefEqProofs -dsimp only [go_sem, ↓reduceIte, ↓dreduceIte, reduceCtorEq, Nat.reduceMul, Nat.reduceAdd, Nat.reduceSub, Nat.reduceDiv, Nat.reduceLT, Nat.reduceLeDiff, Nat.reduceEqDiff, Nat.reduceBEq, Int.reduceNeg, Int.reduceLT, Int.reduceLE, Int.reduceEq, Int.reduceToNat, (eq_true h3), h5, h6, h7, h9, h10, h11]
      refine viewW_of h13 (by simp only [go_sem]) (c_laws_markIntS g12) ?_
      obtain ⟨x1004, g14, b2⟩ := obnd_some b2
      obtain ⟨h15, h16, h17⟩ := getI_some g14
      obtain ⟨r1005, g18, b2⟩ := obnd_some b2
      obtain ⟨h19, b2⟩ := chk_some b2
      simp -implicitDefEqProofs -dsimp only [go_sem, ↓reduceIte, ↓dreduceIte, reduceCtorEq, Nat.reduceMul, Nat.reduceAdd, Nat.reduceSub, Nat.reduceDiv, Nat.reduceLT, Nat.reduceLeDiff, Nat.reduceEqDiff, Nat.reduceBEq, Int.reduceNeg, Int.reduceLT, Int.reduceLE, Int.reduceEq, Int.reduceToNat, (eq_true h3), h5, h6, h7, h9, h10, h11, h15, h16, h17]
      refine viewW_of h19 (by simp only [go_sem]) (c_laws_markIntS g18) ?_
      obtain ⟨x1006, g20, b2⟩ := obnd_some b2
      obtain ⟨h21, h22, h23⟩ := getI_some g20
      obtain ⟨r1007, g24, b2⟩ := obnd_some b2
      obtain ⟨h25, b2⟩ := chk_some b2
      simp -implicitDefEqProofs -dsimp only [go_sem, ↓reduceIte, ↓dreduceIte, reduceCtorEq, Nat.reduceMul, Nat.reduceAdd, Nat.reduceSub, Nat.reduceDiv, Nat.reduceLT, Nat.reduceLeDiff, Nat.reduceEqDiff, Nat.reduceBEq, Int.reduceNeg, Int.reduceLT, Int.reduceLE, Int.reduceEq, Int.reduceToNat, (eq_true h3), h5, h6, h7, h9, h10, h11, h15, h16, h17, h21, h22, h23]
      refine viewW_of h25 (by simp only [go_sem]) (c_laws_markIntS g24) ?_
      cases b2
      simp -implicitDefEqProofs -dsimp only [go_sem, ↓reduceIte, ↓dreduceIte, reduceCtorEq, Nat.reduceMul, Nat.reduceAdd, Nat.reduceSub, Nat.reduceDiv, Nat.reduceLT, Nat.reduceLeDiff, Nat.reduceEqDiff, Nat.reduceBEq, Int.reduceNeg, Int.reduceLT, Int.reduceLE, Int.reduceEq, Int.reduceToNat, (eq_true h3), h5, h6, h7, h9, h10, h11, h15, h16, h17, h21, h22, h23]
      refine next_of gb2 ?_
      simp -implicitDefEqProofs -dsimp only [go_sem, ↓reduceIte, ↓dreduceIte, reduceCtorEq, Nat.reduceMul, Nat.reduceAdd, Nat.reduceSub, Nat.reduceDiv, Nat.reduceLT, Nat.reduceLeDiff, Nat.reduceEqDiff, Nat.reduceBEq, Int.reduceNeg, Int.reduceLT, Int.reduceLE, Int.reduceEq, Int.reduceToNat, (eq_true h3), h5, h6, h7, h9, h10, h11, h15, h16, h17, h21, h22, h23]
    · cases b2
      have e26 := done_of gb2
      subst e26
      try dsimp only at h
      cases h
      simp -implicitDefEqProofs -dsimp only [go_sem, ↓reduceIte, ↓dreduceIte, reduceCtorEq, Nat.reduceMul, Nat.reduceAdd, Nat.reduceSub, Nat.reduceDiv, Nat.reduceLT, Nat.reduceLeDiff, Nat.reduceEqDiff, Nat.reduceBEq, Int.reduceNeg, Int.reduceLT, Int.reduceLE, Int.reduceEq, Int.reduceToNat, (eq_false h3)]
/- 81 loop.example/g00827/laws.markDesk -/
def hi81 : Hint where
  acts := fun _ => []
  draws := fun
    | _ => ⟨[], [], []⟩
theorem hi81a (i : Nat) : hi81.acts i = [] := rfl
theorem hi81v (i : Nat) : hi81.views i = none := rfl
attribute [go_sem] hi81a hi81v Go.Proofs.Try.ntmps81 Go.Proofs.Try.results81
theorem c_laws_markDesk {a : GDesk} {k : Int} {res : Int × (List GNode) × (List GTie) × (List Int) × (List Int) × (List GEntry)} (h : m_laws_markDesk a k = some res) : CallOk Go.Proofs.Try.prog 81 [.agg [.ref 10000 0 0 a.show_.nodes.length, .ref 10001 0 0 a.show_.ties.length, .lit (.int .i64 a.show_.horizon), .lit (.int .i64 a.state.now), .ref 10002 0 0 a.state.times.length, .ref 10003 0 0 a.state.values.length, .lit (.bool a.lazy), .ref 10004 0 0 a.log.length], .lit (.int .i64 k)] [(10000, 0, .row true (rowsOf GNode.encO a.show_.nodes)), (10001, 0, .row true (rowsOf GTie.enc a.show_.ties)), (10002, 0, .row true (rowsOf eI a.state.times)), (10003, 0, .row true (rowsOf eI a.state.values)), (10004, 0, .row true (rowsOf GEntry.encO a.log))] (.lit (.int .i64 res.1)) [(10000, 0, .row true (rowsOf GNode.encO res.2.1)), (10001, 0, .row true (rowsOf GTie.enc res.2.2.1)), (10002, 0, .row true (rowsOf eI res.2.2.2.1)), (10003, 0, .row true (rowsOf eI res.2.2.2.2.1)), (10004, 0, .row true (rowsOf GEntry.encO res.2.2.2.2.2))] := by
  refine callOk_of (ra := []) (md := mdT) hT (hi := hi81) Go.Proofs.Try.func81 rfl rfl (by decide +kernel) (by simp) ?_
  unfold m_laws_markDesk at h
  obtain ⟨r1001, g1, h⟩ := obnd_some h
  simp -implicitDefEqProofs -dsimp only [go_sem, ↓reduceIte, ↓dreduceIte, reduceCtorEq, Nat.reduceMul, Nat.reduceAdd, Nat.reduceSub, Nat.reduceDiv, Nat.reduceLT, Nat.reduceLeDiff, Nat.reduceEqDiff, Nat.reduceBEq, Int.reduceNeg, Int.reduceLT, Int.reduceLE, Int.reduceEq, Int.reduceToNat]
  refine callW_of (c_laws_markShow g1) ?_
  obtain ⟨r1002, g2, h⟩ := obnd_some h
  simp -implicitDefEqProofs -dsimp only [go_sem, ↓reduceIte, ↓dreduceIte, reduceCtorEq, Nat.reduceMul, Nat.reduceAdd, Nat.reduceSub, Nat.reduceDiv, Nat.reduceLT, Nat.reduceLeDiff, Nat.reduceEqDiff, Nat.reduceBEq, Int.reduceNeg, Int.reduceLT, Int.reduceLE, Int.reduceEq, Int.reduceToNat]
  refine callW_of (c_laws_markState g2) ?_
  obtain ⟨r1003, g3, h⟩ := obnd_some h
  simp -implicitDefEqProofs -dsimp only [go_sem, ↓reduceIte, ↓dreduceIte, reduceCtorEq, Nat.reduceMul, Nat.reduceAdd, Nat.reduceSub, Nat.reduceDiv, Nat.reduceLT, Nat.reduceLeDiff, Nat.reduceEqDiff, Nat.reduceBEq, Int.reduceNeg, Int.reduceLT, Int.reduceLE, Int.reduceEq, Int.reduceToNat]
  refine callW_of (c_laws_markEntryS g3) ?_
  cases h
  simp -implicitDefEqProofs -dsimp only [go_sem, ↓reduceIte, ↓dreduceIte, reduceCtorEq, Nat.reduceMul, Nat.reduceAdd, Nat.reduceSub, Nat.reduceDiv, Nat.reduceLT, Nat.reduceLeDiff, Nat.reduceEqDiff, Nat.reduceBEq, Int.reduceNeg, Int.reduceLT, Int.reduceLE, Int.reduceEq, Int.reduceToNat]
/- 69 loop.example/g00827/laws.markTakeS -/
def m_laws_markTakeS_L1_St  : (Int × Int × (List GTake)) → St
  | (k, i, a) => ⟨[(0, .ref 10000 0 0 a.length), (1, .lit (.int .i64 k)), (5, .lit (.int .i64 i))], [(10000, 0, .row true (rowsOf GTake.enc a))], 2⟩
attribute [go_sem] m_laws_markTakeS_L1_St
def hi69 : Hint where
  acts := fun _ => []
  draws := fun
    | _ => ⟨[], [], []⟩
theorem hi69a (i : Nat) : hi69.acts i = [] := rfl
theorem hi69v (i : Nat) : hi69.views i = none := rfl
attribute [go_sem] hi69a hi69v Go.Proofs.Try.ntmps69 Go.Proofs.Try.results69
theorem c_laws_markTakeS {a : List GTake} {k : Int} {res : Int × (List GTake)} (h : m_laws_markTakeS a k = some res) : CallOk Go.Proofs.Try.prog 69 [.ref 10000 0 0 a.length, .lit (.int .i64 k)] [(10000, 0, .row true (rowsOf GTake.enc a))] (.lit (.int .i64 res.1)) [(10000, 0, .row true (rowsOf GTake.enc res.2))] := by
  refine callOk_of (ra := []) (md := mdT) hT (hi := hi69) Go.Proofs.Try.func69 rfl rfl (by decide +kernel) (by simp) ?_
  unfold m_laws_markTakeS at h
  obtain ⟨q1003, l1, h⟩ := obnd_some h
  simp -implicitDefEqProofs -dsimp only [go_sem, ↓reduceIte, ↓dreduceIte, reduceCtorEq, Nat.reduceMul, Nat.reduceAdd, Nat.reduceSub, Nat.reduceDiv, Nat.reduceLT, Nat.reduceLeDiff, Nat.reduceEqDiff, Nat.reduceBEq, Int.reduceNeg, Int.reduceLT, Int.reduceLE, Int.reduceEq, Int.reduceToNat]
  refine loopW_loopO (m1 := .mk) (m2 := .mk) [.nf [0, 1, 5] [10000]] (m_laws_markTakeS_L1_St) l1 ?_ ?_
  · simp -implicitDefEqProofs -dsimp only [go_sem, ↓reduceIte, ↓dreduceIte, reduceCtorEq, Nat.reduceMul, Nat.reduceAdd, Nat.reduceSub, Nat.reduceDiv, Nat.reduceLT, Nat.reduceLeDiff, Nat.reduceEqDiff, Nat.reduceBEq, Int.reduceNeg, Int.reduceLT, Int.reduceLE, Int.reduceEq, Int.reduceToNat]
  · intro nb2 sb2 bb2 b2 gb2
    obtain ⟨k_1, i_1, a_1⟩ := sb2
    unfold m_laws_markTakeS_L1 at b2
    try dsimp only at b2
    rcases ite_some b2 with ⟨h3, b2⟩ | ⟨h3, b2⟩
    · obtain ⟨x1001, g4, b2⟩ := obnd_some b2
      obtain ⟨h5, h6, h7⟩ := getI_some g4
      obtain ⟨x1002, g8, b2⟩ := obnd_some b2
      obtain ⟨h9, h10, h11⟩ := getI_some g8
      cases b2
      simp -implicitDefEqProofs -dsimp only [go_sem, ↓reduceIte, ↓dreduceIte, reduceCtorEq, Nat.reduceMul, Nat.reduceAdd, Nat.reduceSub, Nat.reduceDiv, Nat.reduceLT, Nat.reduceLeDiff, Nat.reduceEqDiff, Nat.reduceBEq, Int.reduceNeg, Int.reduceLT, Int.reduceLE, Int.reduceEq, Int.reduceToNat, (eq_true h3), h5, h6, h7, h9, h10, h11]
      refine next_of gb2 ?_
      simp -implicitDefEqProofs -dsimp only [go_sem, ↓reduceIte, ↓dreduceIte, reduceCtorEq, Nat.reduceMul, Nat.reduceAdd, Nat.reduceSub, Nat.reduceDiv, Nat.reduceLT, Nat.reduceLeDiff, Nat.reduceEqDiff, Nat.reduceBEq, Int.reduceNeg, Int.reduceLT, Int.reduceLE, Int.reduceEq, Int.reduceToNat, (eq_true h3), h5, h6, h7, h9, h10, h11]
    · cases b2
      have e12 := done_of gb2
      subst e12
      try dsimp only at h
      cases h
      simp -implicitDefEqProofs -dsimp only [go_sem, ↓reduceIte, ↓dreduceIte, reduceCtorEq, Nat.reduceMul, Nat.reduceAdd, Nat.reduceSub, Nat.reduceDiv, Nat.reduceLT, Nat.reduceLeDiff, Nat.reduceEqDiff, Nat.reduceBEq, Int.reduceNeg, Int.reduceLT, Int.reduceLE, Int.reduceEq, Int.reduceToNat, (eq_false h3)]
/- 59 loop.example/g00827/laws.markConsole -/
def hi59 : Hint where
  acts := fun _ => []
  draws := fun
    | _ => ⟨[], [], []⟩
theorem hi59a (i : Nat) : hi59.acts i = [] := rfl
theorem hi59v (i : Nat) : hi59.views i = none := rfl
attribute [go_sem] hi59a hi59v Go.Proofs.Try.ntmps59 Go.Proofs.Try.results59
theorem c_laws_markConsole {a : GConsole} {k : Int} {res : Int × (List GCue) × (List Int) × (List GNode) × (List GTie) × (List Int) × (List Int) × (List GEntry) × (List GTake)} (h : m_laws_markConsole a k = some res) : CallOk Go.Proofs.Try.prog 59 [.agg [.ref 10000 0 0 a.sheet.cues.length, .ref 10001 0 0 a.sheet.prep.length, .lit (.int .i64 a.sheet.horizon), .ref 10002 0 0 a.desk.show_.nodes.length, .ref 10003 0 0 a.desk.show_.ties.length, .lit (.int .i64 a.desk.show_.horizon), .lit (.int .i64 a.desk.state.now), .ref 10004 0 0 a.desk.state.times.length, .ref 10005 0 0 a.desk.state.values.length, .lit (.bool a.desk.lazy), .ref 10006 0 0 a.desk.log.length, .ref 10007 0 0 a.takes.length], .lit (.int .i64 k)] [(10000, 0, .row true (rowsOf GCue.enc a.sheet.cues)), (10001, 0, .row true (rowsOf eI a.sheet.prep)), (10002, 0, .row true (rowsOf GNode.encO a.desk.show_.nodes)), (10003, 0, .row true (rowsOf GTie.enc a.desk.show_.ties)), (10004, 0, .row true (rowsOf eI a.desk.state.times)), (10005, 0, .row true (rowsOf eI a.desk.state.values)), (10006, 0, .row true (rowsOf GEntry.encO a.desk.log)), (10007, 0, .row true (rowsOf GTake.enc a.takes))] (.lit (.int .i64 res.1)) [(10000, 0, .row true (rowsOf GCue.enc res.2.1)), (10001, 0, .row true (rowsOf eI res.2.2.1)), (10002, 0, .row true (rowsOf GNode.encO res.2.2.2.1)), (10003, 0, .row true (rowsOf GTie.enc res.2.2.2.2.1)), (10004, 0, .row true (rowsOf eI res.2.2.2.2.2.1)), (10005, 0, .row true (rowsOf eI res.2.2.2.2.2.2.1)), (10006, 0, .row true (rowsOf GEntry.encO res.2.2.2.2.2.2.2.1)), (10007, 0, .row true (rowsOf GTake.enc res.2.2.2.2.2.2.2.2))] := by
  refine callOk_of (ra := []) (md := mdT) hT (hi := hi59) Go.Proofs.Try.func59 rfl rfl (by decide +kernel) (by simp) ?_
  unfold m_laws_markConsole at h
  obtain ⟨r1001, g1, h⟩ := obnd_some h
  simp -implicitDefEqProofs -dsimp only [go_sem, ↓reduceIte, ↓dreduceIte, reduceCtorEq, Nat.reduceMul, Nat.reduceAdd, Nat.reduceSub, Nat.reduceDiv, Nat.reduceLT, Nat.reduceLeDiff, Nat.reduceEqDiff, Nat.reduceBEq, Int.reduceNeg, Int.reduceLT, Int.reduceLE, Int.reduceEq, Int.reduceToNat]
  refine callW_of (c_laws_markSheet g1) ?_
  obtain ⟨r1002, g2, h⟩ := obnd_some h
  simp -implicitDefEqProofs -dsimp only [go_sem, ↓reduceIte, ↓dreduceIte, reduceCtorEq, Nat.reduceMul, Nat.reduceAdd, Nat.reduceSub, Nat.reduceDiv, Nat.reduceLT, Nat.reduceLeDiff, Nat.reduceEqDiff, Nat.reduceBEq, Int.reduceNeg, Int.reduceLT, Int.reduceLE, Int.reduceEq, Int.reduceToNat]
  refine callW_of (c_laws_markDesk g2) ?_
  obtain ⟨r1003, g3, h⟩ := obnd_some h
  simp -implicitDefEqProofs -dsimp only [go_sem, ↓reduceIte, ↓dreduceIte, reduceCtorEq, Nat.reduceMul, Nat.reduceAdd, Nat.reduceSub, Nat.reduceDiv, Nat.reduceLT, Nat.reduceLeDiff, Nat.reduceEqDiff, Nat.reduceBEq, Int.reduceNeg, Int.reduceLT, Int.reduceLE, Int.reduceEq, Int.reduceToNat]
  refine callW_of (c_laws_markTakeS g3) ?_
  cases h
  simp -implicitDefEqProofs -dsimp only [go_sem, ↓reduceIte, ↓dreduceIte, reduceCtorEq, Nat.reduceMul, Nat.reduceAdd, Nat.reduceSub, Nat.reduceDiv, Nat.reduceLT, Nat.reduceLeDiff, Nat.reduceEqDiff, Nat.reduceBEq, Int.reduceNeg, Int.reduceLT, Int.reduceLE, Int.reduceEq, Int.reduceToNat]
/- 186 loop.example/g00827/laws.heldCueS -/
def m_laws_heldCueS_L1_St (a : List GCue) : (Int × Int) → St
  | (k, i) => ⟨[(0, .sl (rowsOf GCue.enc a)), (1, .lit (.int .i64 k)), (5, .lit (.int .i64 i))], [], 2⟩
attribute [go_sem] m_laws_heldCueS_L1_St
def hi186 : Hint where
  acts := fun _ => []
  draws := fun
    | 4 => ⟨[⟨0, false, []⟩, ⟨1, false, []⟩, ⟨2, true, []⟩, ⟨3, true, []⟩, ⟨4, true, []⟩, ⟨5, false, []⟩, ⟨6, false, [2, 3, 4]⟩, ⟨7, false, []⟩], [[], [], [0, 1], [0, 1, 2], [0, 1, 2, 3], [], [5], [0, 1, 2, 3, 4, 5, 6]], [0, 1, 2, 3, 4, 5, 6, 7]⟩
    | _ => ⟨[], [], []⟩
theorem hi186a (i : Nat) : hi186.acts i = [] := rfl
theorem hi186v (i : Nat) : hi186.views i = none := rfl
attribute [go_sem] hi186a hi186v Go.Proofs.Try.ntmps186 Go.Proofs.Try.results186
@[go_sem] theorem hi186d4 : (hi186.draws 4).order = [⟨0, false, []⟩, ⟨1, false, []⟩, ⟨2, true, []⟩, ⟨3, true, []⟩, ⟨4, true, []⟩, ⟨5, false, []⟩, ⟨6, false, [2, 3, 4]⟩, ⟨7, false, []⟩] := rfl
theorem c_laws_heldCueS {a : List GCue} {k : Int} {res : Int} (h : m_laws_heldCueS a k = some res) : CallOk Go.Proofs.Try.prog 186 [.sl (rowsOf GCue.enc a), .lit (.int .i64 k)] [] (.lit (.int .i64 res)) [] := by
  refine callOk_of (ra := []) (md := mdT) hT (hi := hi186) Go.Proofs.Try.func186 rfl rfl (by decide +kernel) (by simp) ?_
  unfold m_laws_heldCueS at h
  obtain ⟨q1003, l1, h⟩ := obnd_some h
  simp -implicitDefEqProofs -dsimp only [go_sem, ↓reduceIte, ↓dreduceIte, reduceCtorEq, Nat.reduceMul, Nat.reduceAdd, Nat.reduceSub, Nat.reduceDiv, Nat.reduceLT, Nat.reduceLeDiff, Nat.reduceEqDiff, Nat.reduceBEq, Int.reduceNeg, Int.reduceLT, Int.reduceLE, Int.reduceEq, Int.reduceToNat]
  refine loopW_loopO (m1 := .mk) (m2 := .mk) [.nf [0, 1, 5] []] (m_laws_heldCueS_L1_St a) l1 ?_ ?_
  · simp -implicitDefEqProofs -dsimp only [go_sem, ↓reduceIte, ↓dreduceIte, reduceCtorEq, Nat.reduceMul, Nat.reduceAdd, Nat.reduceSub, Nat.reduceDiv, Nat.reduceLT, Nat.reduceLeDiff, Nat.reduceEqDiff, Nat.reduceBEq, Int.reduceNeg, Int.reduceLT, Int.reduceLE, Int.reduceEq, Int.reduceToNat]
  · intro nb2 sb2 bb2 b2 gb2
    obtain ⟨k_1, i_1⟩ := sb2
    unfold m_laws_heldCueS_L1 at b2
    try dsimp only at b2
    rcases ite_some b2 with ⟨h3, b2⟩ | ⟨h3, b2⟩
    · obtain ⟨x1001, g4, b2⟩ := obnd_some b2
      obtain ⟨h5, h6, h7⟩ := getI_some g4
      obtain ⟨r1002, g8, b2⟩ := obnd_some b2
      simp -implicitDefEqProofs -dsimp only [go_sem, ↓reduceIte, ↓dreduceIte, reduceCtorEq, Nat.reduceMul, Nat.reduceAdd, Nat.reduceSub, Nat.reduceDiv, Nat.reduceLT, Nat.reduceLeDiff, Nat.reduceEqDiff, Nat.reduceBEq, Int.reduceNeg, Int.reduceLT, Int.reduceLE, Int.reduceEq, Int.reduceToNat, (eq_true h3), h5, h6, h7]
      refine callW_of (c_laws_markText g8) ?_
      rcases ite_some b2 with ⟨h9, b2⟩ | ⟨h9, b2⟩
      · rcases ite_some b2 with ⟨h10, b2⟩ | ⟨h10, b2⟩
        · rcases ite_some b2 with ⟨h11, b2⟩ | ⟨h11, b2⟩
          · rcases ite_some b2 with ⟨h12, b2⟩ | ⟨h12, b2⟩
            · rcases ite_some b2 with ⟨h13, b2⟩ | ⟨h13, b2⟩
              · rcases ite_some b2 with ⟨h14, b2⟩ | ⟨h14, b2⟩
                · rcases ite_some b2 with ⟨h15, b2⟩ | ⟨h15, b2⟩
                  · rcases ite_some b2 with ⟨h16, b2⟩ | ⟨h16, b2⟩
                    · rcases ite_some b2 with ⟨h17, b2⟩ | ⟨h17, b2⟩
                      · rcases ite_some b2 with ⟨h18, b2⟩ | ⟨h18, b2⟩
                        · rcases ite_some b2 with ⟨h19, b2⟩ | ⟨h19, b2⟩
                          · cases b2
                            simp -implicitDefEqProofs -dsimp only [go_sem, ↓reduceIte, ↓dreduceIte, reduceCtorEq, Nat.reduceMul, Nat.reduceAdd, Nat.reduceSub, Nat.reduceDiv, Nat.reduceLT, Nat.reduceLeDiff, Nat.reduceEqDiff, Nat.reduceBEq, Int.reduceNeg, Int.reduceLT, Int.reduceLE, Int.reduceEq, Int.reduceToNat, (eq_true h3), h5, h6, h7, (eq_true h9), (eq_true h10), (eq_true h11), (eq_true h12), (eq_true h13), (eq_true h14), (eq_true h15), (eq_true h16), (eq_true h17), (eq_true h18), (eq_true h19)]
                            refine next_of gb2 ?_
                            simp -implicitDefEqProofs -dsimp only [go_sem, ↓reduceIte, ↓dreduceIte, reduceCtorEq, Nat.reduceMul, Nat.reduceAdd, Nat.reduceSub, Nat.reduceDiv, Nat.reduceLT, Nat.reduceLeDiff, Nat.reduceEqDiff, Nat.reduceBEq, Int.reduceNeg, Int.reduceLT, Int.reduceLE, Int.reduceEq, Int.reduceToNat, (eq_true h3), h5, h6, h7, (eq_true h9), (eq_true h10), (eq_true h11), (eq_true h12), (eq_true h13), (eq_true h14), (eq_true h15), (eq_true h16), (eq_true h17), (eq_true h18), (eq_true h19)]
                          · cases b2
                            have e20 := done_of gb2
                            subst e20
                            try dsimp only at h
                            cases h
                            simp -implicitDefEqProofs -dsimp only [go_sem, ↓reduceIte, ↓dreduceIte, reduceCtorEq, Nat.reduceMul, Nat.reduceAdd, Nat.reduceSub, Nat.reduceDiv, Nat.reduceLT, Nat.reduceLeDiff, Nat.reduceEqDiff, Nat.reduceBEq, Int.reduceNeg, Int.reduceLT, Int.reduceLE, Int.reduceEq, Int.reduceToNat, (eq_true h3), h5, h6, h7, (eq_true h9), (eq_true h10), (eq_true h11), (eq_true h12), (eq_true h13), (eq_true h14), (eq_true h15), (eq_true h16), (eq_true h17), (eq_true h18), (eq_false h19)]
                        · cases b2
                          have e21 := done_of gb2
                          subst e21
                          try dsimp only at h
                          cases h
                          simp -implicitDefEqProofs -dsimp only [go_sem, ↓reduceIte, ↓dreduceIte, reduceCtorEq, Nat.reduceMul, Nat.reduceAdd, Nat.reduceSub, Nat.reduceDiv, Nat.reduceLT, Nat.reduceLeDiff, Nat.reduceEqDiff, Nat.reduceBEq, Int.reduceNeg, Int.reduceLT, Int.reduceLE, Int.reduceEq, Int.reduceToNat, (eq_true h3), h5, h6, h7, (eq_true h9), (eq_true h10), (eq_true h11), (eq_true h12), (eq_true h13), (eq_true h14), (eq_true h15), (eq_true h16), (eq_true h17), (eq_false h18)]
                      · cases b2
                        have e22 := done_of gb2
                        subst e22
                        try dsimp only at h
                        cases h
                        simp -implicitDefEqProofs -dsimp only [go_sem, ↓reduceIte, ↓dreduceIte, reduceCtorEq, Nat.reduceMul, Nat.reduceAdd, Nat.reduceSub, Nat.reduceDiv, Nat.reduceLT, Nat.reduceLeDiff, Nat.reduceEqDiff, Nat.reduceBEq, Int.reduceNeg, Int.reduceLT, Int.reduceLE, Int.reduceEq, Int.reduceToNat, (eq_true h3), h5, h6, h7, (eq_true h9), (eq_true h10), (eq_true h11), (eq_true h12), (eq_true h13), (eq_true h14), (eq_true h15), (eq_true h16), (eq_false h17)]
                    · cases b2
                      have e23 := done_of gb2
                      subst e23
                      try dsimp only at h
                      cases h
                      simp -implicitDefEqProofs -dsimp only [go_sem, ↓reduceIte, ↓dreduceIte, reduceCtorEq, Nat.reduceMul, Nat.reduceAdd, Nat.reduceSub, Nat.reduceDiv, Nat.reduceLT, Nat.reduceLeDiff, Nat.reduceEqDiff, Nat.reduceBEq, Int.reduceNeg, Int.reduceLT, Int.reduceLE, Int.reduceEq, Int.reduceToNat, (eq_true h3), h5, h6, h7, (eq_true h9), (eq_true h10), (eq_true h11), (eq_true h12), (eq_true h13), (eq_true h14), (eq_true h15), (eq_false h16)]
                  · cases b2
                    have e24 := done_of gb2
                    subst e24
                    try dsimp only at h
                    cases h
                    simp -implicitDefEqProofs -dsimp only [go_sem, ↓reduceIte, ↓dreduceIte, reduceCtorEq, Nat.reduceMul, Nat.reduceAdd, Nat.reduceSub, Nat.reduceDiv, Nat.reduceLT, Nat.reduceLeDiff, Nat.reduceEqDiff, Nat.reduceBEq, Int.reduceNeg, Int.reduceLT, Int.reduceLE, Int.reduceEq, Int.reduceToNat, (eq_true h3), h5, h6, h7, (eq_true h9), (eq_true h10), (eq_true h11), (eq_true h12), (eq_true h13), (eq_true h14), (eq_false h15)]
                · cases b2
                  have e25 := done_of gb2
                  subst e25
                  try dsimp only at h
                  cases h
                  simp -implicitDefEqProofs -dsimp only [go_sem, ↓reduceIte, ↓dreduceIte, reduceCtorEq, Nat.reduceMul, Nat.reduceAdd, Nat.reduceSub, Nat.reduceDiv, Nat.reduceLT, Nat.reduceLeDiff, Nat.reduceEqDiff, Nat.reduceBEq, Int.reduceNeg, Int.reduceLT, Int.reduceLE, Int.reduceEq, Int.reduceToNat, (eq_true h3), h5, h6, h7, (eq_true h9), (eq_true h10), (eq_true h11), (eq_true h12), (eq_true h13), (eq_false h14)]
              · cases b2
                have e26 := done_of gb2
                subst e26
                try dsimp only at h
                cases h
                simp -implicitDefEqProofs -dsimp only [go_sem, ↓reduceIte, ↓dreduceIte, reduceCtorEq, Nat.reduceMul, Nat.reduceAdd, Nat.reduceSub, Nat.reduceDiv, Nat.reduceLT, Nat.reduceLeDiff, Nat.reduceEqDiff, Nat.reduceBEq, Int.reduceNeg, Int.reduceLT, Int.reduceLE, Int.reduceEq, Int.reduceToNat, (eq_true h3), h5, h6, h7, (eq_true h9), (eq_true h10), (eq_true h11), (eq_true h12), (eq_false h13)]
            · cases b2
              have e27 := done_of gb2
              subst e27
              try dsimp only at h
              cases h
              simp -implicitDefEqProofs -dsimp only [go_sem, ↓reduceIte, ↓dreduceIte, reduceCtorEq, Nat.reduceMul, Nat.reduceAdd, Nat.reduceSub, Nat.reduceDiv, Nat.reduceLT, Nat.reduceLeDiff, Nat.reduceEqDiff, Nat.reduceBEq, Int.reduceNeg, Int.reduceLT, Int.reduceLE, Int.reduceEq, Int.reduceToNat, (eq_true h3), h5, h6, h7, (eq_true h9), (eq_true h10), (eq_true h11), (eq_false h12)]
          · cases b2
            have e28 := done_of gb2
            subst e28
            try dsimp only at h
            cases h
            simp -implicitDefEqProofs -dsimp only [go_sem, ↓reduceIte, ↓dreduceIte, reduceCtorEq, Nat.reduceMul, Nat.reduceAdd, Nat.reduceSub, Nat.reduceDiv, Nat.reduceLT, Nat.reduceLeDiff, Nat.reduceEqDiff, Nat.reduceBEq, Int.reduceNeg, Int.reduceLT, Int.reduceLE, Int.reduceEq, Int.reduceToNat, (eq_true h3), h5, h6, h7, (eq_true h9), (eq_true h10), (eq_false h11)]
        · cases b2
          have e29 := done_of gb2
          subst e29
          try dsimp only at h
          cases h
          simp -implicitDefEqProofs -dsimp only [go_sem, ↓reduceIte, ↓dreduceIte, reduceCtorEq, Nat.reduceMul, Nat.reduceAdd, Nat.reduceSub, Nat.reduceDiv, Nat.reduceLT, Nat.reduceLeDiff, Nat.reduceEqDiff, Nat.reduceBEq, Int.reduceNeg, Int.reduceLT, Int.reduceLE, Int.reduceEq, Int.reduceToNat, (eq_true h3), h5, h6, h7, (eq_true h9), (eq_false h10)]
      · cases b2
        have e30 := done_of gb2
        subst e30
        try dsimp only at h
        cases h
        simp -implicitDefEqProofs -dsimp only [go_sem, ↓reduceIte, ↓dreduceIte, reduceCtorEq, Nat.reduceMul, Nat.reduceAdd, Nat.reduceSub, Nat.reduceDiv, Nat.reduceLT, Nat.reduceLeDiff, Nat.reduceEqDiff, Nat.reduceBEq, Int.reduceNeg, Int.reduceLT, Int.reduceLE, Int.reduceEq, Int.reduceToNat, (eq_true h3), h5, h6, h7, (eq_false h9)]
    · cases b2
      have e31 := done_of gb2
      subst e31
      try dsimp only at h
      cases h
      simp -implicitDefEqProofs -dsimp only [go_sem, ↓reduceIte, ↓dreduceIte, reduceCtorEq, Nat.reduceMul, Nat.reduceAdd, Nat.reduceSub, Nat.reduceDiv, Nat.reduceLT, Nat.reduceLeDiff, Nat.reduceEqDiff, Nat.reduceBEq, Int.reduceNeg, Int.reduceLT, Int.reduceLE, Int.reduceEq, Int.reduceToNat, (eq_false h3)]
/- 131 loop.example/g00827/laws.heldSheet -/
def hi131 : Hint where
  acts := fun _ => []
  draws := fun
    | _ => ⟨[], [], []⟩
theorem hi131a (i : Nat) : hi131.acts i = [] := rfl
theorem hi131v (i : Nat) : hi131.views i = none := rfl
attribute [go_sem] hi131a hi131v Go.Proofs.Try.ntmps131 Go.Proofs.Try.results131
theorem c_laws_heldSheet {a : GSheet} {k : Int} {res : Int} (h : m_laws_heldSheet a k = some res) : CallOk Go.Proofs.Try.prog 131 [.agg [.sl (rowsOf GCue.enc a.cues), .sl (rowsOf eI a.prep), .lit (.int .i64 a.horizon)], .lit (.int .i64 k)] [] (.lit (.int .i64 res)) [] := by
  refine callOk_of (ra := []) (md := mdT) hT (hi := hi131) Go.Proofs.Try.func131 rfl rfl (by decide +kernel) (by simp) ?_
  unfold m_laws_heldSheet at h
  obtain ⟨r1001, g1, h⟩ := obnd_some h
  simp -implicitDefEqProofs -dsimp only [go_sem, ↓reduceIte, ↓dreduceIte, reduceCtorEq, Nat.reduceMul, Nat.reduceAdd, Nat.reduceSub, Nat.reduceDiv, Nat.reduceLT, Nat.reduceLeDiff, Nat.reduceEqDiff, Nat.reduceBEq, Int.reduceNeg, Int.reduceLT, Int.reduceLE, Int.reduceEq, Int.reduceToNat]
  refine callW_of (c_laws_heldCueS g1) ?_
  rcases ite_some h with ⟨h2, h⟩ | ⟨h2, h⟩
  · cases h
    simp -implicitDefEqProofs -dsimp only [go_sem, ↓reduceIte, ↓dreduceIte, reduceCtorEq, Nat.reduceMul, Nat.reduceAdd, Nat.reduceSub, Nat.reduceDiv, Nat.reduceLT, Nat.reduceLeDiff, Nat.reduceEqDiff, Nat.reduceBEq, Int.reduceNeg, Int.reduceLT, Int.reduceLE, Int.reduceEq, Int.reduceToNat, (eq_true h2)]
  · obtain ⟨r1002, g3, h⟩ := obnd_some h
    simp -implicitDefEqProofs -dsimp only [go_sem, ↓reduceIte, ↓dreduceIte, reduceCtorEq, Nat.reduceMul, Nat.reduceAdd, Nat.reduceSub, Nat.reduceDiv, Nat.reduceLT, Nat.reduceLeDiff, Nat.reduceEqDiff, Nat.reduceBEq, Int.reduceNeg, Int.reduceLT, Int.reduceLE, Int.reduceEq, Int.reduceToNat, (eq_false h2)]
    refine callW_of (c_laws_heldIntS g3) ?_
    rcases ite_some h with ⟨h4, h⟩ | ⟨h4, h⟩
    · cases h
      simp -implicitDefEqProofs -dsimp only [go_sem, ↓reduceIte, ↓dreduceIte, reduceCtorEq, Nat.reduceMul, Nat.reduceAdd, Nat.reduceSub, Nat.reduceDiv, Nat.reduceLT, Nat.reduceLeDiff, Nat.reduceEqDiff, Nat.reduceBEq, Int.reduceNeg, Int.reduceLT, Int.reduceLE, Int.reduceEq, Int.reduceToNat, (eq_false h2), (eq_true h4)]
    · cases h
      simp -implicitDefEqProofs -dsimp only [go_sem, ↓reduceIte, ↓dreduceIte, reduceCtorEq, Nat.reduceMul, Nat.reduceAdd, Nat.reduceSub, Nat.reduceDiv, Nat.reduceLT, Nat.reduceLeDiff, Nat.reduceEqDiff, Nat.reduceBEq, Int.reduceNeg, Int.reduceLT, Int.reduceLE, Int.reduceEq, Int.reduceToNat, (eq_false h2), (eq_false h4)]
/- 133 loop.example/g00827/laws.heldNodeS -/
def m_laws_heldNodeS_L1_St (a : List GNode) : (Int × Int) → St
  | (k, i) => ⟨[(0, .sl (rowsOf GNode.encS a)), (1, .lit (.int .i64 k)), (5, .lit (.int .i64 i))], [], 2⟩
attribute [go_sem] m_laws_heldNodeS_L1_St
def hi133 : Hint where
  acts := fun _ => []
  draws := fun
    | 4 => ⟨[⟨0, false, []⟩, ⟨1, false, []⟩, ⟨2, true, []⟩, ⟨3, true, []⟩, ⟨4, true, []⟩, ⟨5, false, []⟩, ⟨6, false, [2, 3, 4]⟩, ⟨7, false, []⟩], [[], [], [0, 1], [0, 1, 2], [0, 1, 2, 3], [], [5], [0, 1, 2, 3, 4, 5, 6]], [0, 1, 2, 3, 4, 5, 6, 7]⟩
    | _ => ⟨[], [], []⟩
theorem hi133a (i : Nat) : hi133.acts i = [] := rfl
theorem hi133v (i : Nat) : hi133.views i = none := rfl
attribute [go_sem] hi133a hi133v Go.Proofs.Try.ntmps133 Go.Proofs.Try.results133
@[go_sem] theorem hi133d4 : (hi133.draws 4).order = [⟨0, false, []⟩, ⟨1, false, []⟩, ⟨2, true, []⟩, ⟨3, true, []⟩, ⟨4, true, []⟩, ⟨5, false, []⟩, ⟨6, false, [2, 3, 4]⟩, ⟨7, false, []⟩] := rfl
theorem c_laws_heldNodeS {a : List GNode} {k : Int} {res : Int} (h : m_laws_heldNodeS a k = some res) : CallOk Go.Proofs.Try.prog 133 [.sl (rowsOf GNode.encS a), .lit (.int .i64 k)] [] (.lit (.int .i64 res)) [] := by
  refine callOk_of (ra := []) (md := mdT) hT (hi := hi133) Go.Proofs.Try.func133 rfl rfl (by decide +kernel) (by simp) ?_
  unfold m_laws_heldNodeS at h
  obtain ⟨q1004, l1, h⟩ := obnd_some h
  simp -implicitDefEqProofs -dsimp only [go_sem, ↓reduceIte, ↓dreduceIte, reduceCtorEq, Nat.reduceMul, Nat.reduceAdd, Nat.reduceSub, Nat.reduceDiv, Nat.reduceLT, Nat.reduceLeDiff, Nat.reduceEqDiff, Nat.reduceBEq, Int.reduceNeg, Int.reduceLT, Int.reduceLE, Int.reduceEq, Int.reduceToNat]
  refine loopW_loopO (m1 := .mk) (m2 := .mk) [.nf [0, 1, 5] []] (m_laws_heldNodeS_L1_St a) l1 ?_ ?_
  · simp -implicitDefEqProofs -dsimp only [go_sem, ↓reduceIte, ↓dreduceIte, reduceCtorEq, Nat.reduceMul, Nat.reduceAdd, Nat.reduceSub, Nat.reduceDiv, Nat.reduceLT, Nat.reduceLeDiff, Nat.reduceEqDiff, Nat.reduceBEq, Int.reduceNeg, Int.reduceLT, Int.reduceLE, Int.reduceEq, Int.reduceToNat]
  · intro nb2 sb2 bb2 b2 gb2
    obtain ⟨k_1, i_1⟩ := sb2
    unfold m_laws_heldNodeS_L1 at b2
    try dsimp only at b2
    rcases ite_some b2 with ⟨h3, b2⟩ | ⟨h3, b2⟩
    · obtain ⟨x1001, g4, b2⟩ := obnd_some b2
      obtain ⟨h5, h6, h7⟩ := getI_some g4
      obtain ⟨r1002, g8, b2⟩ := obnd_some b2
      simp -implicitDefEqProofs -dsimp only [go_sem, ↓reduceIte, ↓dreduceIte, reduceCtorEq, Nat.reduceMul, Nat.reduceAdd, Nat.reduceSub, Nat.reduceDiv, Nat.reduceLT, Nat.reduceLeDiff, Nat.reduceEqDiff, Nat.reduceBEq, Int.reduceNeg, Int.reduceLT, Int.reduceLE, Int.reduceEq, Int.reduceToNat, (eq_true h3), h5, h6, h7]
      refine callW_of (c_laws_markText g8) ?_
      rcases ite_some b2 with ⟨h9, b2⟩ | ⟨h9, b2⟩
      · obtain ⟨r1003, g10, b2⟩ := obnd_some b2
        simp -implicitDefEqProofs -dsimp only [go_sem, ↓reduceIte, ↓dreduceIte, reduceCtorEq, Nat.reduceMul, Nat.reduceAdd, Nat.reduceSub, Nat.reduceDiv, Nat.reduceLT, Nat.reduceLeDiff, Nat.reduceEqDiff, Nat.reduceBEq, Int.reduceNeg, Int.reduceLT, Int.reduceLE, Int.reduceEq, Int.reduceToNat, (eq_true h3), h5, h6, h7, (eq_true h9)]
        refine callW_of (c_laws_heldIntS g10) ?_
        rcases ite_some b2 with ⟨h11, b2⟩ | ⟨h11, b2⟩
        · cases b2
          have e12 := done_of gb2
          subst e12
          try dsimp only at h
          cases h
          simp -implicitDefEqProofs -dsimp only [go_sem, ↓reduceIte, ↓dreduceIte, reduceCtorEq, Nat.reduceMul, Nat.reduceAdd, Nat.reduceSub, Nat.reduceDiv, Nat.reduceLT, Nat.reduceLeDiff, Nat.reduceEqDiff, Nat.reduceBEq, Int.reduceNeg, Int.reduceLT, Int.reduceLE, Int.reduceEq, Int.reduceToNat, (eq_true h3), h5, h6, h7, (eq_true h9), (eq_true h11)]
        · rcases ite_some b2 with ⟨h13, b2⟩ | ⟨h13, b2⟩
          · cases b2
            simp -implicitDefEqProofs -dsimp only [go_sem, ↓reduceIte, ↓dreduceIte, reduceCtorEq, Nat.reduceMul, Nat.reduceAdd, Nat.reduceSub, Nat.reduceDiv, Nat.reduceLT, Nat.reduceLeDiff, Nat.reduceEqDiff, Nat.reduceBEq, Int.reduceNeg, Int.reduceLT, Int.reduceLE, Int.reduceEq, Int.reduceToNat, (eq_true h3), h5, h6, h7, (eq_true h9), (eq_false h11), (eq_true h13)]
            refine next_of gb2 ?_
            simp -implicitDefEqProofs -dsimp only [go_sem, ↓reduceIte, ↓dreduceIte, reduceCtorEq, Nat.reduceMul, Nat.reduceAdd, Nat.reduceSub, Nat.reduceDiv, Nat.reduceLT, Nat.reduceLeDiff, Nat.reduceEqDiff, Nat.reduceBEq, Int.reduceNeg, Int.reduceLT, Int.reduceLE, Int.reduceEq, Int.reduceToNat, (eq_true h3), h5, h6, h7, (eq_true h9), (eq_false h11), (eq_true h13)]
          · cases b2
            have e14 := done_of gb2
            subst e14
            try dsimp only at h
            cases h
            simp -implicitDefEqProofs -dsimp only [go_sem, ↓reduceIte, ↓dreduceIte, reduceCtorEq, Nat.reduceMul, Nat.reduceAdd, Nat.reduceSub, Nat.reduceDiv, Nat.reduceLT, Nat.reduceLeDiff, Nat.reduceEqDiff, Nat.reduceBEq, Int.reduceNeg, Int.reduceLT, Int.reduceLE, Int.reduceEq, Int.reduceToNat, (eq_true h3), h5, h6, h7, (eq_true h9), (eq_false h11), (eq_false h13)]
      · cases b2
        have e15 := done_of gb2
        subst e15
        try dsimp only at h
        cases h
        simp -implicitDefEqProofs -dsimp only [go_sem, ↓reduceIte, ↓dreduceIte, reduceCtorEq, Nat.reduceMul, Nat.reduceAdd, Nat.reduceSub, Nat.reduceDiv, Nat.reduceLT, Nat.reduceLeDiff, Nat.reduceEqDiff, Nat.reduceBEq, Int.reduceNeg, Int.reduceLT, Int.reduceLE, Int.reduceEq, Int.reduceToNat, (eq_true h3), h5, h6, h7, (eq_false h9)]
    · cases b2
      have e16 := done_of gb2
      subst e16
      try dsimp only at h
      cases h
      simp -implicitDefEqProofs -dsimp only [go_sem, ↓reduceIte, ↓dreduceIte, reduceCtorEq, Nat.reduceMul, Nat.reduceAdd, Nat.reduceSub, Nat.reduceDiv, Nat.reduceLT, Nat.reduceLeDiff, Nat.reduceEqDiff, Nat.reduceBEq, Int.reduceNeg, Int.reduceLT, Int.reduceLE, Int.reduceEq, Int.reduceToNat, (eq_false h3)]
/- 134 loop.example/g00827/laws.heldTieS -/
def m_laws_heldTieS_L1_St (a : List GTie) : (Int × Int) → St
  | (k, i) => ⟨[(0, .sl (rowsOf GTie.enc a)), (1, .lit (.int .i64 k)), (5, .lit (.int .i64 i))], [], 2⟩
attribute [go_sem] m_laws_heldTieS_L1_St
def hi134 : Hint where
  acts := fun _ => []
  draws := fun
    | _ => ⟨[], [], []⟩
theorem hi134a (i : Nat) : hi134.acts i = [] := rfl
theorem hi134v (i : Nat) : hi134.views i = none := rfl
attribute [go_sem] hi134a hi134v Go.Proofs.Try.ntmps134 Go.Proofs.Try.results134
theorem c_laws_heldTieS {a : List GTie} {k : Int} {res : Int} (h : m_laws_heldTieS a k = some res) : CallOk Go.Proofs.Try.prog 134 [.sl (rowsOf GTie.enc a), .lit (.int .i64 k)] [] (.lit (.int .i64 res)) [] := by
  refine callOk_of (ra := []) (md := mdT) hT (hi := hi134) Go.Proofs.Try.func134 rfl rfl (by decide +kernel) (by simp) ?_
  unfold m_laws_heldTieS at h
  obtain ⟨q1002, l1, h⟩ := obnd_some h
  simp -implicitDefEqProofs -dsimp only [go_sem, ↓reduceIte, ↓dreduceIte, reduceCtorEq, Nat.reduceMul, Nat.reduceAdd, Nat.reduceSub, Nat.reduceDiv, Nat.reduceLT, Nat.reduceLeDiff, Nat.reduceEqDiff, Nat.reduceBEq, Int.reduceNeg, Int.reduceLT, Int.reduceLE, Int.reduceEq, Int.reduceToNat]
  refine loopW_loopO (m1 := .mk) (m2 := .mk) [.nf [0, 1, 5] []] (m_laws_heldTieS_L1_St a) l1 ?_ ?_
  · simp -implicitDefEqProofs -dsimp only [go_sem, ↓reduceIte, ↓dreduceIte, reduceCtorEq, Nat.reduceMul, Nat.reduceAdd, Nat.reduceSub, Nat.reduceDiv, Nat.reduceLT, Nat.reduceLeDiff, Nat.reduceEqDiff, Nat.reduceBEq, Int.reduceNeg, Int.reduceLT, Int.reduceLE, Int.reduceEq, Int.reduceToNat]
  · intro nb2 sb2 bb2 b2 gb2
    obtain ⟨k_1, i_1⟩ := sb2
    unfold m_laws_heldTieS_L1 at b2
    try dsimp only at b2
    rcases ite_some b2 with ⟨h3, b2⟩ | ⟨h3, b2⟩
    · obtain ⟨x1001, g4, b2⟩ := obnd_some b2
      obtain ⟨h5, h6, h7⟩ := getI_some g4
      rcases ite_some b2 with ⟨h8, b2⟩ | ⟨h8, b2⟩
      · rcases ite_some b2 with ⟨h9, b2⟩ | ⟨h9, b2⟩
        · rcases ite_some b2 with ⟨h10, b2⟩ | ⟨h10, b2⟩
          · rcases ite_some b2 with ⟨h11, b2⟩ | ⟨h11, b2⟩
            · rcases ite_some b2 with ⟨h12, b2⟩ | ⟨h12, b2⟩
              · cases b2
                simp -implicitDefEqProofs -dsimp only [go_sem, ↓reduceIte, ↓dreduceIte, reduceCtorEq, Nat.reduceMul, Nat.reduceAdd, Nat.reduceSub, Nat.reduceDiv, Nat.reduceLT, Nat.reduceLeDiff, Nat.reduceEqDiff, Nat.reduceBEq, Int.reduceNeg, Int.reduceLT, Int.reduceLE, Int.reduceEq, Int.reduceToNat, (eq_true h3), h5, h6, h7, (eq_true h8), (eq_true h9), (eq_true h10), (eq_true h11), (eq_true h12)]
                refine next_of gb2 ?_
                simp -implicitDefEqProofs -dsimp only [go_sem, ↓reduceIte, ↓dreduceIte, reduceCtorEq, Nat.reduceMul, Nat.reduceAdd, Nat.reduceSub, Nat.reduceDiv, Nat.reduceLT, Nat.reduceLeDiff, Nat.reduceEqDiff, Nat.reduceBEq, Int.reduceNeg, Int.reduceLT, Int.reduceLE, Int.reduceEq, Int.reduceToNat, (eq_true h3), h5, h6, h7, (eq_true h8), (eq_true h9), (eq_true h10), (eq_true h11), (eq_true h12)]
              · cases b2
                have e13 := done_of gb2
                subst e13
                try dsimp only at h
                cases h
                simp -implicitDefEqProofs -dsimp only [go_sem, ↓reduceIte, ↓dreduceIte, reduceCtorEq, Nat.reduceMul, Nat.reduceAdd, Nat.reduceSub, Nat.reduceDiv, Nat.reduceLT, Nat.reduceLeDiff, Nat.reduceEqDiff, Nat.reduceBEq, Int.reduceNeg, Int.reduceLT, Int.reduceLE, Int.reduceEq, Int.reduceToNat, (eq_true h3), h5, h6, h7, (eq_true h8), (eq_true h9), (eq_true h10), (eq_true h11), (eq_false h12)]
            · cases b2
              have e14 := done_of gb2
              subst e14
              try dsimp only at h
              cases h
              simp -implicitDefEqProofs -dsimp only [go_sem, ↓reduceIte, ↓dreduceIte, reduceCtorEq, Nat.reduceMul, Nat.reduceAdd, Nat.reduceSub, Nat.reduceDiv, Nat.reduceLT, Nat.reduceLeDiff, Nat.reduceEqDiff, Nat.reduceBEq, Int.reduceNeg, Int.reduceLT, Int.reduceLE, Int.reduceEq, Int.reduceToNat, (eq_true h3), h5, h6, h7, (eq_true h8), (eq_true h9), (eq_true h10), (eq_false h11)]
          · cases b2
            have e15 := done_of gb2
            subst e15
            try dsimp only at h
            cases h
            simp -implicitDefEqProofs -dsimp only [go_sem, ↓reduceIte, ↓dreduceIte, reduceCtorEq, Nat.reduceMul, Nat.reduceAdd, Nat.reduceSub, Nat.reduceDiv, Nat.reduceLT, Nat.reduceLeDiff, Nat.reduceEqDiff, Nat.reduceBEq, Int.reduceNeg, Int.reduceLT, Int.reduceLE, Int.reduceEq, Int.reduceToNat, (eq_true h3), h5, h6, h7, (eq_true h8), (eq_true h9), (eq_false h10)]
        · cases b2
          have e16 := done_of gb2
          subst e16
          try dsimp only at h
          cases h
          simp -implicitDefEqProofs -dsimp only [go_sem, ↓reduceIte, ↓dreduceIte, reduceCtorEq, Nat.reduceMul, Nat.reduceAdd, Nat.reduceSub, Nat.reduceDiv, Nat.reduceLT, Nat.reduceLeDiff, Nat.reduceEqDiff, Nat.reduceBEq, Int.reduceNeg, Int.reduceLT, Int.reduceLE, Int.reduceEq, Int.reduceToNat, (eq_true h3), h5, h6, h7, (eq_true h8), (eq_false h9)]
      · cases b2
        have e17 := done_of gb2
        subst e17
        try dsimp only at h
        cases h
        simp -implicitDefEqProofs -dsimp only [go_sem, ↓reduceIte, ↓dreduceIte, reduceCtorEq, Nat.reduceMul, Nat.reduceAdd, Nat.reduceSub, Nat.reduceDiv, Nat.reduceLT, Nat.reduceLeDiff, Nat.reduceEqDiff, Nat.reduceBEq, Int.reduceNeg, Int.reduceLT, Int.reduceLE, Int.reduceEq, Int.reduceToNat, (eq_true h3), h5, h6, h7, (eq_false h8)]
    · cases b2
      have e18 := done_of gb2
      subst e18
      try dsimp only at h
      cases h
      simp -implicitDefEqProofs -dsimp only [go_sem, ↓reduceIte, ↓dreduceIte, reduceCtorEq, Nat.reduceMul, Nat.reduceAdd, Nat.reduceSub, Nat.reduceDiv, Nat.reduceLT, Nat.reduceLeDiff, Nat.reduceEqDiff, Nat.reduceBEq, Int.reduceNeg, Int.reduceLT, Int.reduceLE, Int.reduceEq, Int.reduceToNat, (eq_false h3)]
/- 62 loop.example/g00827/laws.heldShow -/
def hi62 : Hint where
  acts := fun _ => []
  draws := fun
    | _ => ⟨[], [], []⟩
theorem hi62a (i : Nat) : hi62.acts i = [] := rfl
theorem hi62v (i : Nat) : hi62.views i = none := rfl
attribute [go_sem] hi62a hi62v Go.Proofs.Try.ntmps62 Go.Proofs.Try.results62
theorem c_laws_heldShow {a : GShow} {k : Int} {res : Int} (h : m_laws_heldShow a k = some res) : CallOk Go.Proofs.Try.prog 62 [.agg [.sl (rowsOf GNode.encS a.nodes), .sl (rowsOf GTie.enc a.ties), .lit (.int .i64 a.horizon)], .lit (.int .i64 k)] [] (.lit (.int .i64 res)) [] := by
  refine callOk_of (ra := []) (md := mdT) hT (hi := hi62) Go.Proofs.Try.func62 rfl rfl (by decide +kernel) (by simp) ?_
  unfold m_laws_heldShow at h
  obtain ⟨r1001, g1, h⟩ := obnd_some h
  simp -implicitDefEqProofs -dsimp only [go_sem, ↓reduceIte, ↓dreduceIte, reduceCtorEq, Nat.reduceMul, Nat.reduceAdd, Nat.reduceSub, Nat.reduceDiv, Nat.reduceLT, Nat.reduceLeDiff, Nat.reduceEqDiff, Nat.reduceBEq, Int.reduceNeg, Int.reduceLT, Int.reduceLE, Int.reduceEq, Int.reduceToNat]
  refine callW_of (c_laws_heldNodeS g1) ?_
  rcases ite_some h with ⟨h2, h⟩ | ⟨h2, h⟩
  · cases h
    simp -implicitDefEqProofs -dsimp only [go_sem, ↓reduceIte, ↓dreduceIte, reduceCtorEq, Nat.reduceMul, Nat.reduceAdd, Nat.reduceSub, Nat.reduceDiv, Nat.reduceLT, Nat.reduceLeDiff, Nat.reduceEqDiff, Nat.reduceBEq, Int.reduceNeg, Int.reduceLT, Int.reduceLE, Int.reduceEq, Int.reduceToNat, (eq_true h2)]
  · obtain ⟨r1002, g3, h⟩ := obnd_some h
    simp -implicitDefEqProofs -dsimp only [go_sem, ↓reduceIte, ↓dreduceIte, reduceCtorEq, Nat.reduceMul, Nat.reduceAdd, Nat.reduceSub, Nat.reduceDiv, Nat.reduceLT, Nat.reduceLeDiff, Nat.reduceEqDiff, Nat.reduceBEq, Int.reduceNeg, Int.reduceLT, Int.reduceLE, Int.reduceEq, Int.reduceToNat, (eq_false h2)]
    refine callW_of (c_laws_heldTieS g3) ?_
    rcases ite_some h with ⟨h4, h⟩ | ⟨h4, h⟩
    · cases h
      simp -implicitDefEqProofs -dsimp only [go_sem, ↓reduceIte, ↓dreduceIte, reduceCtorEq, Nat.reduceMul, Nat.reduceAdd, Nat.reduceSub, Nat.reduceDiv, Nat.reduceLT, Nat.reduceLeDiff, Nat.reduceEqDiff, Nat.reduceBEq, Int.reduceNeg, Int.reduceLT, Int.reduceLE, Int.reduceEq, Int.reduceToNat, (eq_false h2), (eq_true h4)]
    · cases h
      simp -implicitDefEqProofs -dsimp only [go_sem, ↓reduceIte, ↓dreduceIte, reduceCtorEq, Nat.reduceMul, Nat.reduceAdd, Nat.reduceSub, Nat.reduceDiv, Nat.reduceLT, Nat.reduceLeDiff, Nat.reduceEqDiff, Nat.reduceBEq, Int.reduceNeg, Int.reduceLT, Int.reduceLE, Int.reduceEq, Int.reduceToNat, (eq_false h2), (eq_false h4)]
/- 150 loop.example/g00827/laws.heldState -/
def hi150 : Hint where
  acts := fun _ => []
  draws := fun
    | _ => ⟨[], [], []⟩
theorem hi150a (i : Nat) : hi150.acts i = [] := rfl
theorem hi150v (i : Nat) : hi150.views i = none := rfl
attribute [go_sem] hi150a hi150v Go.Proofs.Try.ntmps150 Go.Proofs.Try.results150
theorem c_laws_heldState {a : GState} {k : Int} {res : Int} (h : m_laws_heldState a k = some res) : CallOk Go.Proofs.Try.prog 150 [.agg [.lit (.int .i64 a.now), .sl (rowsOf eI a.times), .sl (rowsOf eI a.values)], .lit (.int .i64 k)] [] (.lit (.int .i64 res)) [] := by
  refine callOk_of (ra := []) (md := mdT) hT (hi := hi150) Go.Proofs.Try.func150 rfl rfl (by decide +kernel) (by simp) ?_
  unfold m_laws_heldState at h
  obtain ⟨r1001, g1, h⟩ := obnd_some h
  simp -implicitDefEqProofs -dsimp only [go_sem, ↓reduceIte, ↓dreduceIte, reduceCtorEq, Nat.reduceMul, Nat.reduceAdd, Nat.reduceSub, Nat.reduceDiv, Nat.reduceLT, Nat.reduceLeDiff, Nat.reduceEqDiff, Nat.reduceBEq, Int.reduceNeg, Int.reduceLT, Int.reduceLE, Int.reduceEq, Int.reduceToNat]
  refine callW_of (c_laws_heldIntS g1) ?_
  rcases ite_some h with ⟨h2, h⟩ | ⟨h2, h⟩
  · cases h
    simp -implicitDefEqProofs -dsimp only [go_sem, ↓reduceIte, ↓dreduceIte, reduceCtorEq, Nat.reduceMul, Nat.reduceAdd, Nat.reduceSub, Nat.reduceDiv, Nat.reduceLT, Nat.reduceLeDiff, Nat.reduceEqDiff, Nat.reduceBEq, Int.reduceNeg, Int.reduceLT, Int.reduceLE, Int.reduceEq, Int.reduceToNat, (eq_true h2)]
  · obtain ⟨r1002, g3, h⟩ := obnd_some h
    simp -implicitDefEqProofs -dsimp only [go_sem, ↓reduceIte, ↓dreduceIte, reduceCtorEq, Nat.reduceMul, Nat.reduceAdd, Nat.reduceSub, Nat.reduceDiv, Nat.reduceLT, Nat.reduceLeDiff, Nat.reduceEqDiff, Nat.reduceBEq, Int.reduceNeg, Int.reduceLT, Int.reduceLE, Int.reduceEq, Int.reduceToNat, (eq_false h2)]
    refine callW_of (c_laws_heldIntS g3) ?_
    rcases ite_some h with ⟨h4, h⟩ | ⟨h4, h⟩
    · cases h
      simp -implicitDefEqProofs -dsimp only [go_sem, ↓reduceIte, ↓dreduceIte, reduceCtorEq, Nat.reduceMul, Nat.reduceAdd, Nat.reduceSub, Nat.reduceDiv, Nat.reduceLT, Nat.reduceLeDiff, Nat.reduceEqDiff, Nat.reduceBEq, Int.reduceNeg, Int.reduceLT, Int.reduceLE, Int.reduceEq, Int.reduceToNat, (eq_false h2), (eq_true h4)]
    · cases h
      simp -implicitDefEqProofs -dsimp only [go_sem, ↓reduceIte, ↓dreduceIte, reduceCtorEq, Nat.reduceMul, Nat.reduceAdd, Nat.reduceSub, Nat.reduceDiv, Nat.reduceLT, Nat.reduceLeDiff, Nat.reduceEqDiff, Nat.reduceBEq, Int.reduceNeg, Int.reduceLT, Int.reduceLE, Int.reduceEq, Int.reduceToNat, (eq_false h2), (eq_false h4)]
/- 151 loop.example/g00827/laws.heldEntryS -/
def m_laws_heldEntryS_L1_St (a : List GEntry) : (Int × Int) → St
  | (k, i) => ⟨[(0, .sl (rowsOf GEntry.encS a)), (1, .lit (.int .i64 k)), (5, .lit (.int .i64 i))], [], 2⟩
attribute [go_sem] m_laws_heldEntryS_L1_St
def hi151 : Hint where
  acts := fun _ => []
  draws := fun
    | _ => ⟨[], [], []⟩
theorem hi151a (i : Nat) : hi151.acts i = [] := rfl
theorem hi151v (i : Nat) : hi151.views i = none := rfl
attribute [go_sem] hi151a hi151v Go.Proofs.Try.ntmps151 Go.Proofs.Try.results151
theorem c_laws_heldEntryS {a : List GEntry} {k : Int} {res : Int} (h : m_laws_heldEntryS a k = some res) : CallOk Go.Proofs.Try.prog 151 [.sl (rowsOf GEntry.encS a), .lit (.int .i64 k)] [] (.lit (.int .i64 res)) [] := by
  refine callOk_of (ra := []) (md := mdT) hT (hi := hi151) Go.Proofs.Try.func151 rfl rfl (by decide +kernel) (by simp) ?_
  unfold m_laws_heldEntryS at h
  obtain ⟨q1005, l1, h⟩ := obnd_some h
  simp -implicitDefEqProofs -dsimp only [go_sem, ↓reduceIte, ↓dreduceIte, reduceCtorEq, Nat.reduceMul, Nat.reduceAdd, Nat.reduceSub, Nat.reduceDiv, Nat.reduceLT, Nat.reduceLeDiff, Nat.reduceEqDiff, Nat.reduceBEq, Int.reduceNeg, Int.reduceLT, Int.reduceLE, Int.reduceEq, Int.reduceToNat]
  refine loopW_loopO (m1 := .mk) (m2 := .mk) [.nf [0, 1, 5] []] (m_laws_heldEntryS_L1_St a) l1 ?_ ?_
  · simp -implicitDefEqProofs -dsimp only [go_sem, ↓reduceIte, ↓dreduceIte, reduceCtorEq, Nat.reduceMul, Nat.reduceAdd, Nat.reduceSub, Nat.reduceDiv, Nat.reduceLT, Nat.reduceLeDiff, Nat.reduceEqDiff, Nat.reduceBEq, Int.reduceNeg, Int.reduceLT, Int.reduceLE, Int.reduceEq, Int.reduceToNat]
  · intro nb2 sb2 bb2 b2 gb2
    obtain ⟨k_1, i_1⟩ := sb2
    unfold m_laws_heldEntryS_L1 at b2
    try dsimp only at b2
    rcases ite_some b2 with ⟨h3, b2⟩ | ⟨h3, b2⟩
    · obtain ⟨x1001, g4, b2⟩ := obnd_some b2
      obtain ⟨h5, h6, h7⟩ := getI_some g4
      rcases ite_some b2 with ⟨h8, b2⟩ | ⟨h8, b2⟩
      · obtain ⟨r1002, g9, b2⟩ := obnd_some b2
        simp -implicitDefEqProofs -dsimp only [go_sem, ↓reduceIte, ↓dreduceIte, reduceCtorEq, Nat.reduceMul, Nat.reduceAdd, Nat.reduceSub, Nat.reduceDiv, Nat.reduceLT, Nat.reduceLeDiff, Nat.reduceEqDiff, Nat.reduceBEq, Int.reduceNeg, Int.reduceLT, Int.reduceLE, Int.reduceEq, Int.reduceToNat, (eq_true h3), h5, h6, h7, (eq_true h8)]
        refine callW_of (c_laws_heldIntS g9) ?_
        rcases ite_some b2 with ⟨h10, b2⟩ | ⟨h10, b2⟩
        · cases b2
          have e11 := done_of gb2
          subst e11
          try dsimp only at h
          cases h
          simp -implicitDefEqProofs -dsimp only [go_sem, ↓reduceIte, ↓dreduceIte, reduceCtorEq, Nat.reduceMul, Nat.reduceAdd, Nat.reduceSub, Nat.reduceDiv, Nat.reduceLT, Nat.reduceLeDiff, Nat.reduceEqDiff, Nat.reduceBEq, Int.reduceNeg, Int.reduceLT, Int.reduceLE, Int.reduceEq, Int.reduceToNat, (eq_true h3), h5, h6, h7, (eq_true h8), (eq_true h10)]
        · obtain ⟨r1003, g12, b2⟩ := obnd_some b2
          simp -implicitDefEqProofs -dsimp only [go_sem, ↓reduceIte, ↓dreduceIte, reduceCtorEq, Nat.reduceMul, Nat.reduceAdd, Nat.reduceSub, Nat.reduceDiv, Nat.reduceLT, Nat.reduceLeDiff, Nat.reduceEqDiff, Nat.reduceBEq, Int.reduceNeg, Int.reduceLT, Int.reduceLE, Int.reduceEq, Int.reduceToNat, (eq_true h3), h5, h6, h7, (eq_true h8), (eq_false h10)]
          refine callW_of (c_laws_heldIntS g12) ?_
          rcases ite_some b2 with ⟨h13, b2⟩ | ⟨h13, b2⟩
          · cases b2
            have e14 := done_of gb2
            subst e14
            try dsimp only at h
            cases h
            simp -implicitDefEqProofs -dsimp only [go_sem, ↓reduceIte, ↓dreduceIte, reduceCtorEq, Nat.reduceMul, Nat.reduceAdd, Nat.reduceSub, Nat.reduceDiv, Nat.reduceLT, Nat.reduceLeDiff, Nat.reduceEqDiff, Nat.reduceBEq, Int.reduceNeg, Int.reduceLT, Int.reduceLE, Int.reduceEq, Int.reduceToNat, (eq_true h3), h5, h6, h7, (eq_true h8), (eq_false h10), (eq_true h13)]
          · obtain ⟨r1004, g15, b2⟩ := obnd_some b2
            simp -implicitDefEqProofs -dsimp only [go_sem, ↓reduceIte, ↓dreduceIte, reduceCtorEq, Nat.reduceMul, Nat.reduceAdd, Nat.reduceSub, Nat.reduceDiv, Nat.reduceLT, Nat.reduceLeDiff, Nat.reduceEqDiff, Nat.reduceBEq, Int.reduceNeg, Int.reduceLT, Int.reduceLE, Int.reduceEq, Int.reduceToNat, (eq_true h3), h5, h6, h7, (eq_true h8), (eq_false h10), (eq_false h13)]
            refine callW_of (c_laws_heldIntS g15) ?_
            rcases ite_some b2 with ⟨h16, b2⟩ | ⟨h16, b2⟩
            · cases b2
              have e17 := done_of gb2
              subst e17
              try dsimp only at h
              cases h
              simp -implicitDefEqProofs -dsimp only [go_sem, ↓reduceIte, ↓dreduceIte, reduceCtorEq, Nat.reduceMul, Nat.reduceAdd, Nat.reduceSub, Nat.reduceDiv, Nat.reduceLT, Nat.reduceLeDiff, Nat.reduceEqDiff, Nat.reduceBEq, Int.reduceNeg, Int.reduceLT, Int.reduceLE, Int.reduceEq, Int.reduceToNat, (eq_true h3), h5, h6, h7, (eq_true h8), (eq_false h10), (eq_false h13), (eq_true h16)]
            · cases b2
              simp -implicitDefEqProofs -dsimp only [go_sem, ↓reduceIte, ↓dreduceIte, reduceCtorEq, Nat.reduceMul, Nat.reduceAdd, Nat.reduceSub, Nat.reduceDiv, Nat.reduceLT, Nat.reduceLeDiff, Nat.reduceEqDiff, Nat.reduceBEq, Int.reduceNeg, Int.reduceLT, Int.reduceLE, Int.reduceEq, Int.reduceToNat, (eq_true h3), h5, h6, h7, (eq_true h8), (eq_false h10), (eq_false h13), (eq_false h16)]
              refine next_of gb2 ?_
              simp -implicitDefEqProofs -dsimp only [go_sem, ↓reduceIte, ↓dreduceIte, reduceCtorEq, Nat.reduceMul, Nat.reduceAdd, Nat.reduceSub, Nat.reduceDiv, Nat.reduceLT, Nat.reduceLeDiff, Nat.reduceEqDiff, Nat.reduceBEq, Int.reduceNeg, Int.reduceLT, Int.reduceLE, Int.reduceEq, Int.reduceToNat, (eq_true h3), h5, h6, h7, (eq_true h8), (eq_false h10), (eq_false h13), (eq_false h16)]
      · cases b2
        have e18 := done_of gb2
        subst e18
        try dsimp only at h
        cases h
        simp -implicitDefEqProofs -dsimp only [go_sem, ↓reduceIte, ↓dreduceIte, reduceCtorEq, Nat.reduceMul, Nat.reduceAdd, Nat.reduceSub, Nat.reduceDiv, Nat.reduceLT, Nat.reduceLeDiff, Nat.reduceEqDiff, Nat.reduceBEq, Int.reduceNeg, Int.reduceLT, Int.reduceLE, Int.reduceEq, Int.reduceToNat, (eq_true h3), h5, h6, h7, (eq_false h8)]
    · cases b2
      have e19 := done_of gb2
      subst e19
      try dsimp only at h
      cases h
      simp -implicitDefEqProofs -dsimp only [go_sem, ↓reduceIte, ↓dreduceIte, reduceCtorEq, Nat.reduceMul, Nat.reduceAdd, Nat.reduceSub, Nat.reduceDiv, Nat.reduceLT, Nat.reduceLeDiff, Nat.reduceEqDiff, Nat.reduceBEq, Int.reduceNeg, Int.reduceLT, Int.reduceLE, Int.reduceEq, Int.reduceToNat, (eq_false h3)]
/- 82 loop.example/g00827/laws.heldDesk -/
def hi82 : Hint where
  acts := fun _ => []
  draws := fun
    | _ => ⟨[], [], []⟩
theorem hi82a (i : Nat) : hi82.acts i = [] := rfl
theorem hi82v (i : Nat) : hi82.views i = none := rfl
attribute [go_sem] hi82a hi82v Go.Proofs.Try.ntmps82 Go.Proofs.Try.results82
theorem c_laws_heldDesk {a : GDesk} {k : Int} {res : Int} (h : m_laws_heldDesk a k = some res) : CallOk Go.Proofs.Try.prog 82 [.agg [.sl (rowsOf GNode.encS a.show_.nodes), .sl (rowsOf GTie.enc a.show_.ties), .lit (.int .i64 a.show_.horizon), .lit (.int .i64 a.state.now), .sl (rowsOf eI a.state.times), .sl (rowsOf eI a.state.values), .lit (.bool a.lazy), .sl (rowsOf GEntry.encS a.log)], .lit (.int .i64 k)] [] (.lit (.int .i64 res)) [] := by
  refine callOk_of (ra := []) (md := mdT) hT (hi := hi82) Go.Proofs.Try.func82 rfl rfl (by decide +kernel) (by simp) ?_
  unfold m_laws_heldDesk at h
  obtain ⟨r1001, g1, h⟩ := obnd_some h
  simp -implicitDefEqProofs -dsimp only [go_sem, ↓reduceIte, ↓dreduceIte, reduceCtorEq, Nat.reduceMul, Nat.reduceAdd, Nat.reduceSub, Nat.reduceDiv, Nat.reduceLT, Nat.reduceLeDiff, Nat.reduceEqDiff, Nat.reduceBEq, Int.reduceNeg, Int.reduceLT, Int.reduceLE, Int.reduceEq, Int.reduceToNat]
  refine callW_of (c_laws_heldShow g1) ?_
  rcases ite_some h with ⟨h2, h⟩ | ⟨h2, h⟩
  · cases h
    simp -implicitDefEqProofs -dsimp only [go_sem, ↓reduceIte, ↓dreduceIte, reduceCtorEq, Nat.reduceMul, Nat.reduceAdd, Nat.reduceSub, Nat.reduceDiv, Nat.reduceLT, Nat.reduceLeDiff, Nat.reduceEqDiff, Nat.reduceBEq, Int.reduceNeg, Int.reduceLT, Int.reduceLE, Int.reduceEq, Int.reduceToNat, (eq_true h2)]
  · obtain ⟨r1002, g3, h⟩ := obnd_some h
    simp -implicitDefEqProofs -dsimp only [go_sem, ↓reduceIte, ↓dreduceIte, reduceCtorEq, Nat.reduceMul, Nat.reduceAdd, Nat.reduceSub, Nat.reduceDiv, Nat.reduceLT, Nat.reduceLeDiff, Nat.reduceEqDiff, Nat.reduceBEq, Int.reduceNeg, Int.reduceLT, Int.reduceLE, Int.reduceEq, Int.reduceToNat, (eq_false h2)]
    refine callW_of (c_laws_heldState g3) ?_
    rcases ite_some h with ⟨h4, h⟩ | ⟨h4, h⟩
    · cases h
      simp -implicitDefEqProofs -dsimp only [go_sem, ↓reduceIte, ↓dreduceIte, reduceCtorEq, Nat.reduceMul, Nat.reduceAdd, Nat.reduceSub, Nat.reduceDiv, Nat.reduceLT, Nat.reduceLeDiff, Nat.reduceEqDiff, Nat.reduceBEq, Int.reduceNeg, Int.reduceLT, Int.reduceLE, Int.reduceEq, Int.reduceToNat, (eq_false h2), (eq_true h4)]
    · obtain ⟨r1003, g5, h⟩ := obnd_some h
      simp -implicitDefEqProofs -dsimp only [go_sem, ↓reduceIte, ↓dreduceIte, reduceCtorEq, Nat.reduceMul, Nat.reduceAdd, Nat.reduceSub, Nat.reduceDiv, Nat.reduceLT, Nat.reduceLeDiff, Nat.reduceEqDiff, Nat.reduceBEq, Int.reduceNeg, Int.reduceLT, Int.reduceLE, Int.reduceEq, Int.reduceToNat, (eq_false h2), (eq_false h4)]
      refine callW_of (c_laws_heldEntryS g5) ?_
      rcases ite_some h with ⟨h6, h⟩ | ⟨h6, h⟩
      · cases h
        simp -implicitDefEqProofs -dsimp only [go_sem, ↓reduceIte, ↓dreduceIte, reduceCtorEq, Nat.reduceMul, Nat.reduceAdd, Nat.reduceSub, Nat.reduceDiv, Nat.reduceLT, Nat.reduceLeDiff, Nat.reduceEqDiff, Nat.reduceBEq, Int.reduceNeg, Int.reduceLT, Int.reduceLE, Int.reduceEq, Int.reduceToNat, (eq_false h2), (eq_false h4), (eq_true h6)]
      · cases h
        simp -implicitDefEqProofs -dsimp only [go_sem, ↓reduceIte, ↓dreduceIte, reduceCtorEq, Nat.reduceMul, Nat.reduceAdd, Nat.reduceSub, Nat.reduceDiv, Nat.reduceLT, Nat.reduceLeDiff, Nat.reduceEqDiff, Nat.reduceBEq, Int.reduceNeg, Int.reduceLT, Int.reduceLE, Int.reduceEq, Int.reduceToNat, (eq_false h2), (eq_false h4), (eq_false h6)]
/- 70 loop.example/g00827/laws.heldTakeS -/
def m_laws_heldTakeS_L1_St (a : List GTake) : (Int × Int) → St
  | (k, i) => ⟨[(0, .sl (rowsOf GTake.enc a)), (1, .lit (.int .i64 k)), (5, .lit (.int .i64 i))], [], 2⟩
attribute [go_sem] m_laws_heldTakeS_L1_St
def hi70 : Hint where
  acts := fun _ => []
  draws := fun
    | _ => ⟨[], [], []⟩
theorem hi70a (i : Nat) : hi70.acts i = [] := rfl
theorem hi70v (i : Nat) : hi70.views i = none := rfl
attribute [go_sem] hi70a hi70v Go.Proofs.Try.ntmps70 Go.Proofs.Try.results70
theorem c_laws_heldTakeS {a : List GTake} {k : Int} {res : Int} (h : m_laws_heldTakeS a k = some res) : CallOk Go.Proofs.Try.prog 70 [.sl (rowsOf GTake.enc a), .lit (.int .i64 k)] [] (.lit (.int .i64 res)) [] := by
  refine callOk_of (ra := []) (md := mdT) hT (hi := hi70) Go.Proofs.Try.func70 rfl rfl (by decide +kernel) (by simp) ?_
  unfold m_laws_heldTakeS at h
  obtain ⟨q1002, l1, h⟩ := obnd_some h
  simp -implicitDefEqProofs -dsimp only [go_sem, ↓reduceIte, ↓dreduceIte, reduceCtorEq, Nat.reduceMul, Nat.reduceAdd, Nat.reduceSub, Nat.reduceDiv, Nat.reduceLT, Nat.reduceLeDiff, Nat.reduceEqDiff, Nat.reduceBEq, Int.reduceNeg, Int.reduceLT, Int.reduceLE, Int.reduceEq, Int.reduceToNat]
  refine loopW_loopO (m1 := .mk) (m2 := .mk) [.nf [0, 1, 5] []] (m_laws_heldTakeS_L1_St a) l1 ?_ ?_
  · simp -implicitDefEqProofs -dsimp only [go_sem, ↓reduceIte, ↓dreduceIte, reduceCtorEq, Nat.reduceMul, Nat.reduceAdd, Nat.reduceSub, Nat.reduceDiv, Nat.reduceLT, Nat.reduceLeDiff, Nat.reduceEqDiff, Nat.reduceBEq, Int.reduceNeg, Int.reduceLT, Int.reduceLE, Int.reduceEq, Int.reduceToNat]
  · intro nb2 sb2 bb2 b2 gb2
    obtain ⟨k_1, i_1⟩ := sb2
    unfold m_laws_heldTakeS_L1 at b2
    try dsimp only at b2
    rcases ite_some b2 with ⟨h3, b2⟩ | ⟨h3, b2⟩
    · obtain ⟨x1001, g4, b2⟩ := obnd_some b2
      obtain ⟨h5, h6, h7⟩ := getI_some g4
      rcases ite_some b2 with ⟨h8, b2⟩ | ⟨h8, b2⟩
      · rcases ite_some b2 with ⟨h9, b2⟩ | ⟨h9, b2⟩
        · cases b2
          simp -implicitDefEqProofs -dsimp only [go_sem, ↓reduceIte, ↓dreduceIte, reduceCtorEq, Nat.reduceMul, Nat.reduceAdd, Nat.reduceSub, Nat.reduceDiv, Nat.reduceLT, Nat.reduceLeDiff, Nat.reduceEqDiff, Nat.reduceBEq, Int.reduceNeg, Int.reduceLT, Int.reduceLE, Int.reduceEq, Int.reduceToNat, (eq_true h3), h5, h6, h7, (eq_true h8), (eq_true h9)]
          refine next_of gb2 ?_
          simp -implicitDefEqProofs -dsimp only [go_sem, ↓reduceIte, ↓dreduceIte, reduceCtorEq, Nat.reduceMul, Nat.reduceAdd, Nat.reduceSub, Nat.reduceDiv, Nat.reduceLT, Nat.reduceLeDiff, Nat.reduceEqDiff, Nat.reduceBEq, Int.reduceNeg, Int.reduceLT, Int.reduceLE, Int.reduceEq, Int.reduceToNat, (eq_true h3), h5, h6, h7, (eq_true h8), (eq_true h9)]
        · cases b2
          have e10 := done_of gb2
          subst e10
          try dsimp only at h
          cases h
          simp -implicitDefEqProofs -dsimp only [go_sem, ↓reduceIte, ↓dreduceIte, reduceCtorEq, Nat.reduceMul, Nat.reduceAdd, Nat.reduceSub, Nat.reduceDiv, Nat.reduceLT, Nat.reduceLeDiff, Nat.reduceEqDiff, Nat.reduceBEq, Int.reduceNeg, Int.reduceLT, Int.reduceLE, Int.reduceEq, Int.reduceToNat, (eq_true h3), h5, h6, h7, (eq_true h8), (eq_false h9)]
      · cases b2
        have e11 := done_of gb2
        subst e11
        try dsimp only at h
        cases h
        simp -implicitDefEqProofs -dsimp only [go_sem, ↓reduceIte, ↓dreduceIte, reduceCtorEq, Nat.reduceMul, Nat.reduceAdd, Nat.reduceSub, Nat.reduceDiv, Nat.reduceLT, Nat.reduceLeDiff, Nat.reduceEqDiff, Nat.reduceBEq, Int.reduceNeg, Int.reduceLT, Int.reduceLE, Int.reduceEq, Int.reduceToNat, (eq_true h3), h5, h6, h7, (eq_false h8)]
    · cases b2
      have e12 := done_of gb2
      subst e12
      try dsimp only at h
      cases h
      simp -implicitDefEqProofs -dsimp only [go_sem, ↓reduceIte, ↓dreduceIte, reduceCtorEq, Nat.reduceMul, Nat.reduceAdd, Nat.reduceSub, Nat.reduceDiv, Nat.reduceLT, Nat.reduceLeDiff, Nat.reduceEqDiff, Nat.reduceBEq, Int.reduceNeg, Int.reduceLT, Int.reduceLE, Int.reduceEq, Int.reduceToNat, (eq_false h3)]
/- 60 loop.example/g00827/laws.heldConsole -/
def hi60 : Hint where
  acts := fun _ => []
  draws := fun
    | _ => ⟨[], [], []⟩
theorem hi60a (i : Nat) : hi60.acts i = [] := rfl
theorem hi60v (i : Nat) : hi60.views i = none := rfl
attribute [go_sem] hi60a hi60v Go.Proofs.Try.ntmps60 Go.Proofs.Try.results60
theorem c_laws_heldConsole {a : GConsole} {k : Int} {res : Int} (h : m_laws_heldConsole a k = some res) : CallOk Go.Proofs.Try.prog 60 [.agg [.sl (rowsOf GCue.enc a.sheet.cues), .sl (rowsOf eI a.sheet.prep), .lit (.int .i64 a.sheet.horizon), .sl (rowsOf GNode.encS a.desk.show_.nodes), .sl (rowsOf GTie.enc a.desk.show_.ties), .lit (.int .i64 a.desk.show_.horizon), .lit (.int .i64 a.desk.state.now), .sl (rowsOf eI a.desk.state.times), .sl (rowsOf eI a.desk.state.values), .lit (.bool a.desk.lazy), .sl (rowsOf GEntry.encS a.desk.log), .sl (rowsOf GTake.enc a.takes)], .lit (.int .i64 k)] [] (.lit (.int .i64 res)) [] := by
  refine callOk_of (ra := []) (md := mdT) hT (hi := hi60) Go.Proofs.Try.func60 rfl rfl (by decide +kernel) (by simp) ?_
  unfold m_laws_heldConsole at h
  obtain ⟨r1001, g1, h⟩ := obnd_some h
  simp -implicitDefEqProofs -dsimp only [go_sem, ↓reduceIte, ↓dreduceIte, reduceCtorEq, Nat.reduceMul, Nat.reduceAdd, Nat.reduceSub, Nat.reduceDiv, Nat.reduceLT, Nat.reduceLeDiff, Nat.reduceEqDiff, Nat.reduceBEq, Int.reduceNeg, Int.reduceLT, Int.reduceLE, Int.reduceEq, Int.reduceToNat]
  refine callW_of (c_laws_heldSheet g1) ?_
  rcases ite_some h with ⟨h2, h⟩ | ⟨h2, h⟩
  · cases h
    simp -implicitDefEqProofs -dsimp only [go_sem, ↓reduceIte, ↓dreduceIte, reduceCtorEq, Nat.reduceMul, Nat.reduceAdd, Nat.reduceSub, Nat.reduceDiv, Nat.reduceLT, Nat.reduceLeDiff, Nat.reduceEqDiff, Nat.reduceBEq, Int.reduceNeg, Int.reduceLT, Int.reduceLE, Int.reduceEq, Int.reduceToNat, (eq_true h2)]
  · obtain ⟨r1002, g3, h⟩ := obnd_some h
    simp -implicitDefEqProofs -dsimp only [go_sem, ↓reduceIte, ↓dreduceIte, reduceCtorEq, Nat.reduceMul, Nat.reduceAdd, Nat.reduceSub, Nat.reduceDiv, Nat.reduceLT, Nat.reduceLeDiff, Nat.reduceEqDiff, Nat.reduceBEq, Int.reduceNeg, Int.reduceLT, Int.reduceLE, Int.reduceEq, Int.reduceToNat, (eq_false h2)]
    refine callW_of (c_laws_heldDesk g3) ?_
    rcases ite_some h with ⟨h4, h⟩ | ⟨h4, h⟩
    · cases h
      simp -implicitDefEqProofs -dsimp only [go_sem, ↓reduceIte, ↓dreduceIte, reduceCtorEq, Nat.reduceMul, Nat.reduceAdd, Nat.reduceSub, Nat.reduceDiv, Nat.reduceLT, Nat.reduceLeDiff, Nat.reduceEqDiff, Nat.reduceBEq, Int.reduceNeg, Int.reduceLT, Int.reduceLE, Int.reduceEq, Int.reduceToNat, (eq_false h2), (eq_true h4)]
    · obtain ⟨r1003, g5, h⟩ := obnd_some h
      simp -implicitDefEqProofs -dsimp only [go_sem, ↓reduceIte, ↓dreduceIte, reduceCtorEq, Nat.reduceMul, Nat.reduceAdd, Nat.reduceSub, Nat.reduceDiv, Nat.reduceLT, Nat.reduceLeDiff, Nat.reduceEqDiff, Nat.reduceBEq, Int.reduceNeg, Int.reduceLT, Int.reduceLE, Int.reduceEq, Int.reduceToNat, (eq_false h2), (eq_false h4)]
      refine callW_of (c_laws_heldTakeS g5) ?_
      rcases ite_some h with ⟨h6, h⟩ | ⟨h6, h⟩
      · cases h
        simp -implicitDefEqProofs -dsimp only [go_sem, ↓reduceIte, ↓dreduceIte, reduceCtorEq, Nat.reduceMul, Nat.reduceAdd, Nat.reduceSub, Nat.reduceDiv, Nat.reduceLT, Nat.reduceLeDiff, Nat.reduceEqDiff, Nat.reduceBEq, Int.reduceNeg, Int.reduceLT, Int.reduceLE, Int.reduceEq, Int.reduceToNat, (eq_false h2), (eq_false h4), (eq_true h6)]
      · cases h
        simp -implicitDefEqProofs -dsimp only [go_sem, ↓reduceIte, ↓dreduceIte, reduceCtorEq, Nat.reduceMul, Nat.reduceAdd, Nat.reduceSub, Nat.reduceDiv, Nat.reduceLT, Nat.reduceLeDiff, Nat.reduceEqDiff, Nat.reduceBEq, Int.reduceNeg, Int.reduceLT, Int.reduceLE, Int.reduceEq, Int.reduceToNat, (eq_false h2), (eq_false h4), (eq_false h6)]
/- 12 loop.example/g00827/laws.FnExactNewConsole -/
def hi12 : Hint where
  acts := fun _ => []
  draws := fun
    | _ => ⟨[], [], []⟩
theorem hi12a (i : Nat) : hi12.acts i = [] := rfl
theorem hi12v (i : Nat) : hi12.views i = none := rfl
attribute [go_sem] hi12a hi12v Go.Proofs.Try.ntmps12 Go.Proofs.Try.results12
theorem c_laws_FnExactNewConsole  {res : Bool} (h : m_laws_FnExactNewConsole = some res) : CallOk Go.Proofs.Try.prog 12 [] [] (.lit (.bool res)) [] := by
  refine callOk_of (ra := []) (md := mdT) hT (hi := hi12) Go.Proofs.Try.func12 rfl rfl (by decide +kernel) (by simp) ?_
  unfold m_laws_FnExactNewConsole at h
  obtain ⟨r1001, g1, h⟩ := obnd_some h
  simp -implicitDefEqProofs -dsimp only [go_sem, ↓reduceIte, ↓dreduceIte, reduceCtorEq, Nat.reduceMul, Nat.reduceAdd, Nat.reduceSub, Nat.reduceDiv, Nat.reduceLT, Nat.reduceLeDiff, Nat.reduceEqDiff, Nat.reduceBEq, Int.reduceNeg, Int.reduceLT, Int.reduceLE, Int.reduceEq, Int.reduceToNat]
  refine callW_of (c_spec_NewConsole g1) ?_
  obtain ⟨r1002, g2, h⟩ := obnd_some h
  simp -implicitDefEqProofs -dsimp only [go_sem, ↓reduceIte, ↓dreduceIte, reduceCtorEq, Nat.reduceMul, Nat.reduceAdd, Nat.reduceSub, Nat.reduceDiv, Nat.reduceLT, Nat.reduceLeDiff, Nat.reduceEqDiff, Nat.reduceBEq, Int.reduceNeg, Int.reduceLT, Int.reduceLE, Int.reduceEq, Int.reduceToNat]
  refine callW_of (c_impl_NewConsole g2) ?_
  obtain ⟨r1003, g3, h⟩ := obnd_some h
  simp -implicitDefEqProofs -dsimp only [go_sem, ↓reduceIte, ↓dreduceIte, reduceCtorEq, Nat.reduceMul, Nat.reduceAdd, Nat.reduceSub, Nat.reduceDiv, Nat.reduceLT, Nat.reduceLeDiff, Nat.reduceEqDiff, Nat.reduceBEq, Int.reduceNeg, Int.reduceLT, Int.reduceLE, Int.reduceEq, Int.reduceToNat]
  refine callW_of (c_laws_eqConsole g3) ?_
  rcases ite_some h with ⟨h4, h⟩ | ⟨h4, h⟩
  · obtain ⟨r1004, g5, h⟩ := obnd_some h
    simp -implicitDefEqProofs -dsimp only [go_sem, ↓reduceIte, ↓dreduceIte, reduceCtorEq, Nat.reduceMul, Nat.reduceAdd, Nat.reduceSub, Nat.reduceDiv, Nat.reduceLT, Nat.reduceLeDiff, Nat.reduceEqDiff, Nat.reduceBEq, Int.reduceNeg, Int.reduceLT, Int.reduceLE, Int.reduceEq, Int.reduceToNat, (eq_true h4), (condZ_t h4)]
    refine callW_of (c_laws_markConsole g5) ?_
    obtain ⟨h6, h⟩ := chk_some h
    obtain ⟨h7, h⟩ := chk_some h
    obtain ⟨h8, h⟩ := chk_some h
    obtain ⟨h9, h⟩ := chk_some h
    obtain ⟨h10, h⟩ := chk_some h
    obtain ⟨h11, h⟩ := chk_some h
    obtain ⟨h12, h⟩ := chk_some h
    obtain ⟨h13, h⟩ := chk_some h
    obtain ⟨r1005, g14, h⟩ := obnd_some h
    simp -implicitDefEqProofs -dsimp only [go_sem, ↓reduceIte, ↓dreduceIte, reduceCtorEq, Nat.reduceMul, Nat.reduceAdd, Nat.reduceSub, Nat.reduceDiv, Nat.reduceLT, Nat.reduceLeDiff, Nat.reduceEqDiff, Nat.reduceBEq, Int.reduceNeg, Int.reduceLT, Int.reduceLE, Int.reduceEq, Int.reduceToNat, (eq_true h4), (condZ_t h4), (eq_true h6), (eq_true h7), (eq_true h8), (eq_true h9), (eq_true h10), (eq_true h11), (eq_true h12), (eq_true h13)]
    refine callW_of (c_laws_heldConsole g14) ?_
    rcases ite_some h with ⟨h15, h⟩ | ⟨h15, h⟩
    · cases h
      simp -implicitDefEqProofs -dsimp only [go_sem, ↓reduceIte, ↓dreduceIte, reduceCtorEq, Nat.reduceMul, Nat.reduceAdd, Nat.reduceSub, Nat.reduceDiv, Nat.reduceLT, Nat.reduceLeDiff, Nat.reduceEqDiff, Nat.reduceBEq, Int.reduceNeg, Int.reduceLT, Int.reduceLE, Int.reduceEq, Int.reduceToNat, (eq_true h4), (condZ_t h4), (eq_true h6), (eq_true h7), (eq_true h8), (eq_true h9), (eq_true h10), (eq_true h11), (eq_true h12), (eq_true h13), (eq_true h15)]
    · rcases ite_some h with ⟨h16, h⟩ | ⟨h16, h⟩
      · obtain ⟨r1006, g17, h⟩ := obnd_some h
        simp -implicitDefEqProofs -dsimp only [go_sem, ↓reduceIte, ↓dreduceIte, reduceCtorEq, Nat.reduceMul, Nat.reduceAdd, Nat.reduceSub, Nat.reduceDiv, Nat.reduceLT, Nat.reduceLeDiff, Nat.reduceEqDiff, Nat.reduceBEq, Int.reduceNeg, Int.reduceLT, Int.reduceLE, Int.reduceEq, Int.reduceToNat, (eq_true h4), (condZ_t h4), (eq_true h6), (eq_true h7), (eq_true h8), (eq_true h9), (eq_true h10), (eq_true h11), (eq_true h12), (eq_true h13), (eq_false h15), (eq_true h16)]
        refine callW_of (c_impl_NewConsole g17) ?_
        obtain ⟨r1007, g18, h⟩ := obnd_some h
        simp -implicitDefEqProofs -dsimp only [go_sem, ↓reduceIte, ↓dreduceIte, reduceCtorEq, Nat.reduceMul, Nat.reduceAdd, Nat.reduceSub, Nat.reduceDiv, Nat.reduceLT, Nat.reduceLeDiff, Nat.reduceEqDiff, Nat.reduceBEq, Int.reduceNeg, Int.reduceLT, Int.reduceLE, Int.reduceEq, Int.reduceToNat, (eq_true h4), (condZ_t h4), (eq_true h6), (eq_true h7), (eq_true h8), (eq_true h9), (eq_true h10), (eq_true h11), (eq_true h12), (eq_true h13), (eq_false h15), (eq_true h16)]
        refine callW_of (c_laws_eqConsole g18) ?_
        rcases ite_some h with ⟨h19, h⟩ | ⟨h19, h⟩
        · obtain ⟨r1008, g20, h⟩ := obnd_some h
          simp -implicitDefEqProofs -dsimp only [go_sem, ↓reduceIte, ↓dreduceIte, reduceCtorEq, Nat.reduceMul, Nat.reduceAdd, Nat.reduceSub, Nat.reduceDiv, Nat.reduceLT, Nat.reduceLeDiff, Nat.reduceEqDiff, Nat.reduceBEq, Int.reduceNeg, Int.reduceLT, Int.reduceLE, Int.reduceEq, Int.reduceToNat, (eq_true h4), (condZ_t h4), (eq_true h6), (eq_true h7), (eq_true h8), (eq_true h9), (eq_true h10), (eq_true h11), (eq_true h12), (eq_true h13), (eq_false h15), (eq_true h16), (eq_true h19), (condZ_t h19)]
          refine callW_of (c_laws_heldConsole g20) ?_
          rcases ite_some h with ⟨h21, h⟩ | ⟨h21, h⟩
          · cases h
            simp -implicitDefEqProofs -dsimp only [go_sem, ↓reduceIte, ↓dreduceIte, reduceCtorEq, Nat.reduceMul, Nat.reduceAdd, Nat.reduceSub, Nat.reduceDiv, Nat.reduceLT, Nat.reduceLeDiff, Nat.reduceEqDiff, Nat.reduceBEq, Int.reduceNeg, Int.reduceLT, Int.reduceLE, Int.reduceEq, Int.reduceToNat, (eq_true h4), (condZ_t h4), (eq_true h6), (eq_true h7), (eq_true h8), (eq_true h9), (eq_true h10), (eq_true h11), (eq_true h12), (eq_true h13), (eq_false h15), (eq_true h16), (eq_true h19), (condZ_t h19), (eq_true h21)]
          · rcases ite_some h with ⟨h22, h⟩ | ⟨h22, h⟩
            · cases h
              simp -implicitDefEqProofs -dsimp only [go_sem, ↓reduceIte, ↓dreduceIte, reduceCtorEq, Nat.reduceMul, Nat.reduceAdd, Nat.reduceSub, Nat.reduceDiv, Nat.reduceLT, Nat.reduceLeDiff, Nat.reduceEqDiff, Nat.reduceBEq, Int.reduceNeg, Int.reduceLT, Int.reduceLE, Int.reduceEq, Int.reduceToNat, (eq_true h4), (condZ_t h4), (eq_true h6), (eq_true h7), (eq_true h8), (eq_true h9), (eq_true h10), (eq_true h11), (eq_true h12), (eq_true h13), (eq_false h15), (eq_true h16), (eq_true h19), (condZ_t h19), (eq_false h21), (eq_true h22)]
            · cases h
              simp -implicitDefEqProofs -dsimp only [go_sem, ↓reduceIte, ↓dreduceIte, reduceCtorEq, Nat.reduceMul, Nat.reduceAdd, Nat.reduceSub, Nat.reduceDiv, Nat.reduceLT, Nat.reduceLeDiff, Nat.reduceEqDiff, Nat.reduceBEq, Int.reduceNeg, Int.reduceLT, Int.reduceLE, Int.reduceEq, Int.reduceToNat, (eq_true h4), (condZ_t h4), (eq_true h6), (eq_true h7), (eq_true h8), (eq_true h9), (eq_true h10), (eq_true h11), (eq_true h12), (eq_true h13), (eq_false h15), (eq_true h16), (eq_true h19), (condZ_t h19), (eq_false h21), (eq_false h22)]
        · cases h
          simp -implicitDefEqProofs -dsimp only [go_sem, ↓reduceIte, ↓dreduceIte, reduceCtorEq, Nat.reduceMul, Nat.reduceAdd, Nat.reduceSub, Nat.reduceDiv, Nat.reduceLT, Nat.reduceLeDiff, Nat.reduceEqDiff, Nat.reduceBEq, Int.reduceNeg, Int.reduceLT, Int.reduceLE, Int.reduceEq, Int.reduceToNat, (eq_true h4), (condZ_t h4), (eq_true h6), (eq_true h7), (eq_true h8), (eq_true h9), (eq_true h10), (eq_true h11), (eq_true h12), (eq_true h13), (eq_false h15), (eq_true h16), (eq_false h19), (condZ_f h19)]
      · cases h
        simp -implicitDefEqProofs -dsimp only [go_sem, ↓reduceIte, ↓dreduceIte, reduceCtorEq, Nat.reduceMul, Nat.reduceAdd, Nat.reduceSub, Nat.reduceDiv, Nat.reduceLT, Nat.reduceLeDiff, Nat.reduceEqDiff, Nat.reduceBEq, Int.reduceNeg, Int.reduceLT, Int.reduceLE, Int.reduceEq, Int.reduceToNat, (eq_true h4), (condZ_t h4), (eq_true h6), (eq_true h7), (eq_true h8), (eq_true h9), (eq_true h10), (eq_true h11), (eq_true h12), (eq_true h13), (eq_false h15), (eq_false h16)]
  · cases h
    simp -implicitDefEqProofs -dsimp only [go_sem, ↓reduceIte, ↓dreduceIte, reduceCtorEq, Nat.reduceMul, Nat.reduceAdd, Nat.reduceSub, Nat.reduceDiv, Nat.reduceLT, Nat.reduceLeDiff, Nat.reduceEqDiff, Nat.reduceBEq, Int.reduceNeg, Int.reduceLT, Int.reduceLE, Int.reduceEq, Int.reduceToNat, (eq_false h4), (condZ_f h4)]
end Go.Proofs.YtgmiaokdnpaglaaV
