/- Functions. -/
import Derived.Test.YtgmiaokdnpaglaaVFK1
set_option linter.all false
set_option linter.unusedVariables false
set_option linter.unusedSimpArgs false
set_option maxRecDepth 100000
set_option maxHeartbeats 400000
namespace Go.Proofs.YtgmiaokdnpaglaaV
open Go
/- 43 loop.example/g00827/spec.TimeLine -/
def m_spec_TimeLine_L2_St (times : List Int) (node : Int) (out : ByteArray) (n : Int) (v39 : List GTie) (v40 : Int) (s_0 : List GNode) (s_2 : Int) : (ByteArray × Int) → St
  | (b, v41) => ⟨[(1, .sl (rowsOf eI times)), (2, .lit (.int .i64 node)), (3, .ptr 192 1 0 0), (7, .lit (.string out)), (8, .lit (.int .i64 n)), (9, .lit (.string b)), (39, .sl (rowsOf GTie.enc v39)), (40, .lit (.int .i64 v40)), (41, .lit (.int .i64 v41))], [(192, 1, .var [.sl (rowsOf GNode.encS s_0), .sl (rowsOf GTie.enc v39), .lit (.int .i64 s_2)])], 2⟩
attribute [go_sem] m_spec_TimeLine_L2_St
def m_spec_TimeLine_L3_St (times : List Int) (node : Int) (s_0 : List GNode) (s_1 : List GTie) (s_2 : Int) : (ByteArray × Int) → St
  | (out, n) => ⟨[(1, .sl (rowsOf eI times)), (2, .lit (.int .i64 node)), (3, .ptr 192 1 0 0), (7, .lit (.string out)), (8, .lit (.int .i64 n))], [(192, 1, .var [.sl (rowsOf GNode.encS s_0), .sl (rowsOf GTie.enc s_1), .lit (.int .i64 s_2)])], 2⟩
attribute [go_sem] m_spec_TimeLine_L3_St
def hi43 : Hint where
  acts := fun _ => []
  draws := fun
    | _ => ⟨[], [], []⟩
theorem hi43a (i : Nat) : hi43.acts i = [] := rfl
theorem hi43v (i : Nat) : hi43.views i = none := rfl
attribute [go_sem] hi43a hi43v Go.Proofs.Try.ntmps43 Go.Proofs.Try.results43
theorem c_spec_TimeLine {s : GShow} {times : List Int} {node : Int} {res : ByteArray} (h : m_spec_TimeLine s times node = some res) : CallOk Go.Proofs.Try.prog 43 [.agg [.sl (rowsOf GNode.encS s.nodes), .sl (rowsOf GTie.enc s.ties), .lit (.int .i64 s.horizon)], .sl (rowsOf eI times), .lit (.int .i64 node)] [] (.lit (.string res)) [] := by
  refine callOk_of (ra := []) (md := mdT) hT (hi := hi43) Go.Proofs.Try.func43 rfl rfl (by decide +kernel) (by simp) ?_
  unfold m_spec_TimeLine at h
  obtain ⟨r1001, g1, h⟩ := obnd_some h
  simp -implicitDefEqProofs -dsimp only [go_sem, ↓reduceIte, ↓dreduceIte, reduceCtorEq, Nat.reduceMul, Nat.reduceAdd, Nat.reduceSub, Nat.reduceDiv, Nat.reduceLT, Nat.reduceLeDiff, Nat.reduceEqDiff, Nat.reduceBEq, Int.reduceNeg, Int.reduceLT, Int.reduceLE, Int.reduceEq, Int.reduceToNat]
  refine callW_of (c_spec_ShowOk g1) ?_
  rcases ite_some h with ⟨h2, h⟩ | ⟨h2, h⟩
  · rcases ite_some h with ⟨h3, h⟩ | ⟨h3, h⟩
    · obtain ⟨r1002, g4, h⟩ := obnd_some h
      simp -implicitDefEqProofs -dsimp only [go_sem, ↓reduceIte, ↓dreduceIte, reduceCtorEq, Nat.reduceMul, Nat.reduceAdd, Nat.reduceSub, Nat.reduceDiv, Nat.reduceLT, Nat.reduceLeDiff, Nat.reduceEqDiff, Nat.reduceBEq, Int.reduceNeg, Int.reduceLT, Int.reduceLE, Int.reduceEq, Int.reduceToNat, (eq_true h2), (condZ_t h2), (eq_true h3)]
      refine callW_of (c_spec_l01In g4) ?_
      rcases ite_some h with ⟨h5, h⟩ | ⟨h5, h⟩
      · obtain ⟨q1008, l6, h⟩ := obnd_some h
        simp -implicitDefEqProofs -dsimp only [go_sem, ↓reduceIte, ↓dreduceIte, reduceCtorEq, Nat.reduceMul, Nat.reduceAdd, Nat.reduceSub, Nat.reduceDiv, Nat.reduceLT, Nat.reduceLeDiff, Nat.reduceEqDiff, Nat.reduceBEq, Int.reduceNeg, Int.reduceLT, Int.reduceLE, Int.reduceEq, Int.reduceToNat, (eq_true h2), (condZ_t h2), (eq_true h3), (eq_true h5), (condZ_t h5)]
        refine loopW_loopO (m1 := .mk) (m2 := .mk) [.nf [1, 2, 3, 7, 8] [192]] (m_spec_TimeLine_L3_St times node s.nodes s.ties s.horizon) l6 ?_ ?_
        · simp -implicitDefEqProofs -dsimp only [go_sem, ↓reduceIte, ↓dreduceIte, reduceCtorEq, Nat.reduceMul, Nat.reduceAdd, Nat.reduceSub, Nat.reduceDiv, Nat.reduceLT, Nat.reduceLeDiff, Nat.reduceEqDiff, Nat.reduceBEq, Int.reduceNeg, Int.reduceLT, Int.reduceLE, Int.reduceEq, Int.reduceToNat, (eq_true h2), (condZ_t h2), (eq_true h3), (eq_true h5), (condZ_t h5)]
        · intro nb7 sb7 bb7 b7 gb7
          obtain ⟨out_1, n_1⟩ := sb7
          unfold m_spec_TimeLine_L3 at b7
          try dsimp only at b7
          rcases ite_some b7 with ⟨h8, b7⟩ | ⟨h8, b7⟩
          · obtain ⟨q1007, l9, b7⟩ := obnd_some b7
            simp -implicitDefEqProofs -dsimp only [go_sem, ↓reduceIte, ↓dreduceIte, reduceCtorEq, Nat.reduceMul, Nat.reduceAdd, Nat.reduceSub, Nat.reduceDiv, Nat.reduceLT, Nat.reduceLeDiff, Nat.reduceEqDiff, Nat.reduceBEq, Int.reduceNeg, Int.reduceLT, Int.reduceLE, Int.reduceEq, Int.reduceToNat, (eq_true h2), (condZ_t h2), (eq_true h3), (eq_true h5), (condZ_t h5), (eq_true h8)]
            refine loopW_loopO (m1 := .mk) (m2 := .mk) [.nf [1, 2, 3, 7, 8, 9, 39, 40, 41] [192]] (m_spec_TimeLine_L2_St times node out_1 n_1 s.ties ((s.ties.length : Nat) : Int) s.nodes s.horizon) l9 ?_ ?_
            · simp -implicitDefEqProofs -dsimp only [go_sem, ↓reduceIte, ↓dreduceIte, reduceCtorEq, Nat.reduceMul, Nat.reduceAdd, Nat.reduceSub, Nat.reduceDiv, Nat.reduceLT, Nat.reduceLeDiff, Nat.reduceEqDiff, Nat.reduceBEq, Int.reduceNeg, Int.reduceLT, Int.reduceLE, Int.reduceEq, Int.reduceToNat, (eq_true h2), (condZ_t h2), (eq_true h3), (eq_true h5), (condZ_t h5), (eq_true h8)]
            · intro nb10 sb10 bb10 b10 gb10
              obtain ⟨b_2, v41_2⟩ := sb10
              unfold m_spec_TimeLine_L2 at b10
              try dsimp only at b10
              rcases ite_some b10 with ⟨h11, b10⟩ | ⟨h11, b10⟩
              · obtain ⟨x1003, g12, b10⟩ := obnd_some b10
                obtain ⟨h13, h14, h15⟩ := getI_some g12
                rcases ite_some b10 with ⟨h16, b10⟩ | ⟨h16, b10⟩
                · rcases ite_some b10 with ⟨h17, b10⟩ | ⟨h17, b10⟩
                  · obtain ⟨x1004, g18, b10⟩ := obnd_some b10
                    obtain ⟨h19, h20, h21⟩ := getI_some g18
                    rcases ite_some b10 with ⟨h22, b10⟩ | ⟨h22, b10⟩
                    · cases b10
                      simp -implicitDefEqProofs -dsimp only [go_sem, ↓reduceIte, ↓dreduceIte, reduceCtorEq, Nat.reduceMul, Nat.reduceAdd, Nat.reduceSub, Nat.reduceDiv, Nat.reduceLT, Nat.reduceLeDiff, Nat.reduceEqDiff, Nat.reduceBEq, Int.reduceNeg, Int.reduceLT, Int.reduceLE, Int.reduceEq, Int.reduceToNat, (eq_true h2), (condZ_t h2), (eq_true h3), (eq_true h5), (condZ_t h5), (eq_true h8), (eq_true h11), h13, h14, h15, (eq_true h16), (condZ_t h16), (eq_true h17), h19, h20, h21, (eq_true h22)]
                      refine next_of gb10 ?_
                      simp -implicitDefEqProofs -dsimp only [go_sem, ↓reduceIte, ↓dreduceIte, reduceCtorEq, Nat.reduceMul, Nat.reduceAdd, Nat.reduceSub, Nat.reduceDiv, Nat.reduceLT, Nat.reduceLeDiff, Nat.reduceEqDiff, Nat.reduceBEq, Int.reduceNeg, Int.reduceLT, Int.reduceLE, Int.reduceEq, Int.reduceToNat, (eq_true h2), (condZ_t h2), (eq_true h3), (eq_true h5), (condZ_t h5), (eq_true h8), (eq_true h11), h13, h14, h15, (eq_true h16), (condZ_t h16), (eq_true h17), h19, h20, h21, (eq_true h22)]
                    · rcases ite_some b10 with ⟨h23, b10⟩ | ⟨h23, b10⟩
                      · obtain ⟨x1005, g24, b10⟩ := obnd_some b10
                        obtain ⟨h25, h26, h27⟩ := getI_some g24
                        rcases ite_some b10 with ⟨h28, b10⟩ | ⟨h28, b10⟩
                        · cases b10
                          simp -implicitDefEqProofs -dsimp only [go_sem, ↓reduceIte, ↓dreduceIte, reduceCtorEq, Nat.reduceMul, Nat.reduceAdd, Nat.reduceSub, Nat.reduceDiv, Nat.reduceLT, Nat.reduceLeDiff, Nat.reduceEqDiff, Nat.reduceBEq, Int.reduceNeg, Int.reduceLT, Int.reduceLE, Int.reduceEq, Int.reduceToNat, (eq_true h2), (condZ_t h2), (eq_true h3), (eq_true h5), (condZ_t h5), (eq_true h8), (eq_true h11), h13, h14, h15, (eq_true h16), (condZ_t h16), (eq_true h17), h19, h20, h21, (eq_false h22), (eq_true h23), h25, h26, h27, (eq_true h28)]
                          refine next_of gb10 ?_
                          simp -implicitDefEqProofs -dsimp only [go_sem, ↓reduceIte, ↓dreduceIte, reduceCtorEq, Nat.reduceMul, Nat.reduceAdd, Nat.reduceSub, Nat.reduceDiv, Nat.reduceLT, Nat.reduceLeDiff, Nat.reduceEqDiff, Nat.reduceBEq, Int.reduceNeg, Int.reduceLT, Int.reduceLE, Int.reduceEq, Int.reduceToNat, (eq_true h2), (condZ_t h2), (eq_true h3), (eq_true h5), (condZ_t h5), (eq_true h8), (eq_true h11), h13, h14, h15, (eq_true h16), (condZ_t h16), (eq_true h17), h19, h20, h21, (eq_false h22), (eq_true h23), h25, h26, h27, (eq_true h28)]
                        · rcases ite_some b10 with ⟨h29, b10⟩ | ⟨h29, b10⟩
                          · cases b10
                            simp -implicitDefEqProofs -dsimp only [go_sem, ↓reduceIte, ↓dreduceIte, reduceCtorEq, Nat.reduceMul, Nat.reduceAdd, Nat.reduceSub, Nat.reduceDiv, Nat.reduceLT, Nat.reduceLeDiff, Nat.reduceEqDiff, Nat.reduceBEq, Int.reduceNeg, Int.reduceLT, Int.reduceLE, Int.reduceEq, Int.reduceToNat, (eq_true h2), (condZ_t h2), (eq_true h3), (eq_true h5), (condZ_t h5), (eq_true h8), (eq_true h11), h13, h14, h15, (eq_true h16), (condZ_t h16), (eq_true h17), h19, h20, h21, (eq_false h22), (eq_true h23), h25, h26, h27, (eq_false h28), (eq_true h29)]
                            refine next_of gb10 ?_
                            simp -implicitDefEqProofs -dsimp only [go_sem, ↓reduceIte, ↓dreduceIte, reduceCtorEq, Nat.reduceMul, Nat.reduceAdd, Nat.reduceSub, Nat.reduceDiv, Nat.reduceLT, Nat.reduceLeDiff, Nat.reduceEqDiff, Nat.reduceBEq, Int.reduceNeg, Int.reduceLT, Int.reduceLE, Int.reduceEq, Int.reduceToNat, (eq_true h2), (condZ_t h2), (eq_true h3), (eq_true h5), (condZ_t h5), (eq_true h8), (eq_true h11), h13, h14, h15, (eq_true h16), (condZ_t h16), (eq_true h17), h19, h20, h21, (eq_false h22), (eq_true h23), h25, h26, h27, (eq_false h28), (eq_true h29)]
                          · cases b10
                            simp -implicitDefEqProofs -dsimp only [go_sem, ↓reduceIte, ↓dreduceIte, reduceCtorEq, Nat.reduceMul, Nat.reduceAdd, Nat.reduceSub, Nat.reduceDiv, Nat.reduceLT, Nat.reduceLeDiff, Nat.reduceEqDiff, Nat.reduceBEq, Int.reduceNeg, Int.reduceLT, Int.reduceLE, Int.reduceEq, Int.reduceToNat, (eq_true h2), (condZ_t h2), (eq_true h3), (eq_true h5), (condZ_t h5), (eq_true h8), (eq_true h11), h13, h14, h15, (eq_true h16), (condZ_t h16), (eq_true h17), h19, h20, h21, (eq_false h22), (eq_true h23), h25, h26, h27, (eq_false h28), (eq_false h29)]
                            refine next_of gb10 ?_
                            simp -implicitDefEqProofs -dsimp only [go_sem, ↓reduceIte, ↓dreduceIte, reduceCtorEq, Nat.reduceMul, Nat.reduceAdd, Nat.reduceSub, Nat.reduceDiv, Nat.reduceLT, Nat.reduceLeDiff, Nat.reduceEqDiff, Nat.reduceBEq, Int.reduceNeg, Int.reduceLT, Int.reduceLE, Int.reduceEq, Int.reduceToNat, (eq_true h2), (condZ_t h2), (eq_true h3), (eq_true h5), (condZ_t h5), (eq_true h8), (eq_true h11), h13, h14, h15, (eq_true h16), (condZ_t h16), (eq_true h17), h19, h20, h21, (eq_false h22), (eq_true h23), h25, h26, h27, (eq_false h28), (eq_false h29)]
                      · cases b10
                        simp -implicitDefEqProofs -dsimp only [go_sem, ↓reduceIte, ↓dreduceIte, reduceCtorEq, Nat.reduceMul, Nat.reduceAdd, Nat.reduceSub, Nat.reduceDiv, Nat.reduceLT, Nat.reduceLeDiff, Nat.reduceEqDiff, Nat.reduceBEq, Int.reduceNeg, Int.reduceLT, Int.reduceLE, Int.reduceEq, Int.reduceToNat, (eq_true h2), (condZ_t h2), (eq_true h3), (eq_true h5), (condZ_t h5), (eq_true h8), (eq_true h11), h13, h14, h15, (eq_true h16), (condZ_t h16), (eq_true h17), h19, h20, h21, (eq_false h22), (eq_false h23)]
                        refine next_of gb10 ?_
                        simp -implicitDefEqProofs -dsimp only [go_sem, ↓reduceIte, ↓dreduceIte, reduceCtorEq, Nat.reduceMul, Nat.reduceAdd, Nat.reduceSub, Nat.reduceDiv, Nat.reduceLT, Nat.reduceLeDiff, Nat.reduceEqDiff, Nat.reduceBEq, Int.reduceNeg, Int.reduceLT, Int.reduceLE, Int.reduceEq, Int.reduceToNat, (eq_true h2), (condZ_t h2), (eq_true h3), (eq_true h5), (condZ_t h5), (eq_true h8), (eq_true h11), h13, h14, h15, (eq_true h16), (condZ_t h16), (eq_true h17), h19, h20, h21, (eq_false h22), (eq_false h23)]
                  · cases b10
                    simp -implicitDefEqProofs -dsimp only [go_sem, ↓reduceIte, ↓dreduceIte, reduceCtorEq, Nat.reduceMul, Nat.reduceAdd, Nat.reduceSub, Nat.reduceDiv, Nat.reduceLT, Nat.reduceLeDiff, Nat.reduceEqDiff, Nat.reduceBEq, Int.reduceNeg, Int.reduceLT, Int.reduceLE, Int.reduceEq, Int.reduceToNat, (eq_true h2), (condZ_t h2), (eq_true h3), (eq_true h5), (condZ_t h5), (eq_true h8), (eq_true h11), h13, h14, h15, (eq_true h16), (condZ_t h16), (eq_false h17)]
                    refine next_of gb10 ?_
                    simp -implicitDefEqProofs -dsimp only [go_sem, ↓reduceIte, ↓dreduceIte, reduceCtorEq, Nat.reduceMul, Nat.reduceAdd, Nat.reduceSub, Nat.reduceDiv, Nat.reduceLT, Nat.reduceLeDiff, Nat.reduceEqDiff, Nat.reduceBEq, Int.reduceNeg, Int.reduceLT, Int.reduceLE, Int.reduceEq, Int.reduceToNat, (eq_true h2), (condZ_t h2), (eq_true h3), (eq_true h5), (condZ_t h5), (eq_true h8), (eq_true h11), h13, h14, h15, (eq_true h16), (condZ_t h16), (eq_false h17)]
                · cases b10
                  simp -implicitDefEqProofs -dsimp only [go_sem, ↓reduceIte, ↓dreduceIte, reduceCtorEq, Nat.reduceMul, Nat.reduceAdd, Nat.reduceSub, Nat.reduceDiv, Nat.reduceLT, Nat.reduceLeDiff, Nat.reduceEqDiff, Nat.reduceBEq, Int.reduceNeg, Int.reduceLT, Int.reduceLE, Int.reduceEq, Int.reduceToNat, (eq_true h2), (condZ_t h2), (eq_true h3), (eq_true h5), (condZ_t h5), (eq_true h8), (eq_true h11), h13, h14, h15, (eq_false h16), (condZ_f h16)]
                  refine next_of gb10 ?_
                  simp -implicitDefEqProofs -dsimp only [go_sem, ↓reduceIte, ↓dreduceIte, reduceCtorEq, Nat.reduceMul, Nat.reduceAdd, Nat.reduceSub, Nat.reduceDiv, Nat.reduceLT, Nat.reduceLeDiff, Nat.reduceEqDiff, Nat.reduceBEq, Int.reduceNeg, Int.reduceLT, Int.reduceLE, Int.reduceEq, Int.reduceToNat, (eq_true h2), (condZ_t h2), (eq_true h3), (eq_true h5), (condZ_t h5), (eq_true h8), (eq_true h11), h13, h14, h15, (eq_false h16), (condZ_f h16)]
              · cases b10
                have e30 := done_of gb10
                subst e30
                try dsimp only at b7
                obtain ⟨x1006, g31, b7⟩ := obnd_some b7
                obtain ⟨h32, h33, h34⟩ := getI_some g31
                rcases ite_some b7 with ⟨h35, b7⟩ | ⟨h35, b7⟩
                · obtain ⟨h36, b7⟩ := chk_some b7
                  cases b7
                  simp -implicitDefEqProofs -dsimp only [go_sem, ↓reduceIte, ↓dreduceIte, reduceCtorEq, Nat.reduceMul, Nat.reduceAdd, Nat.reduceSub, Nat.reduceDiv, Nat.reduceLT, Nat.reduceLeDiff, Nat.reduceEqDiff, Nat.reduceBEq, Int.reduceNeg, Int.reduceLT, Int.reduceLE, Int.reduceEq, Int.reduceToNat, (eq_true h2), (condZ_t h2), (eq_true h3), (eq_true h5), (condZ_t h5), (eq_true h8), (eq_false h11), h32, h33, h34, (eq_true h35), (eq_true h36)]
                  refine next_of gb7 ?_
                  simp -implicitDefEqProofs -dsimp only [go_sem, ↓reduceIte, ↓dreduceIte, reduceCtorEq, Nat.reduceMul, Nat.reduceAdd, Nat.reduceSub, Nat.reduceDiv, Nat.reduceLT, Nat.reduceLeDiff, Nat.reduceEqDiff, Nat.reduceBEq, Int.reduceNeg, Int.reduceLT, Int.reduceLE, Int.reduceEq, Int.reduceToNat, (eq_true h2), (condZ_t h2), (eq_true h3), (eq_true h5), (condZ_t h5), (eq_true h8), (eq_false h11), h32, h33, h34, (eq_true h35), (eq_true h36)]
                · obtain ⟨h37, b7⟩ := chk_some b7
                  cases b7
                  simp -implicitDefEqProofs -dsimp only [go_sem, ↓reduceIte, ↓dreduceIte, reduceCtorEq, Nat.reduceMul, Nat.reduceAdd, Nat.reduceSub, Nat.reduceDiv, Nat.reduceLT, Nat.reduceLeDiff, Nat.reduceEqDiff, Nat.reduceBEq, Int.reduceNeg, Int.reduceLT, Int.reduceLE, Int.reduceEq, Int.reduceToNat, (eq_true h2), (condZ_t h2), (eq_true h3), (eq_true h5), (condZ_t h5), (eq_true h8), (eq_false h11), h32, h33, h34, (eq_false h35), (eq_true h37)]
                  refine next_of gb7 ?_
                  simp -implicitDefEqProofs -dsimp only [go_sem, ↓reduceIte, ↓dreduceIte, reduceCtorEq, Nat.reduceMul, Nat.reduceAdd, Nat.reduceSub, Nat.reduceDiv, Nat.reduceLT, Nat.reduceLeDiff, Nat.reduceEqDiff, Nat.reduceBEq, Int.reduceNeg, Int.reduceLT, Int.reduceLE, Int.reduceEq, Int.reduceToNat, (eq_true h2), (condZ_t h2), (eq_true h3), (eq_true h5), (condZ_t h5), (eq_true h8), (eq_false h11), h32, h33, h34, (eq_false h35), (eq_true h37)]
          · cases b7
            have e38 := done_of gb7
            subst e38
            try dsimp only at h
            cases h
            simp -implicitDefEqProofs -dsimp only [go_sem, ↓reduceIte, ↓dreduceIte, reduceCtorEq, Nat.reduceMul, Nat.reduceAdd, Nat.reduceSub, Nat.reduceDiv, Nat.reduceLT, Nat.reduceLeDiff, Nat.reduceEqDiff, Nat.reduceBEq, Int.reduceNeg, Int.reduceLT, Int.reduceLE, Int.reduceEq, Int.reduceToNat, (eq_true h2), (condZ_t h2), (eq_true h3), (eq_true h5), (condZ_t h5), (eq_false h8)]
      · cases h
        simp -implicitDefEqProofs -dsimp only [go_sem, ↓reduceIte, ↓dreduceIte, reduceCtorEq, Nat.reduceMul, Nat.reduceAdd, Nat.reduceSub, Nat.reduceDiv, Nat.reduceLT, Nat.reduceLeDiff, Nat.reduceEqDiff, Nat.reduceBEq, Int.reduceNeg, Int.reduceLT, Int.reduceLE, Int.reduceEq, Int.reduceToNat, (eq_true h2), (condZ_t h2), (eq_true h3), (eq_false h5), (condZ_f h5)]
    · cases h
      simp -implicitDefEqProofs -dsimp only [go_sem, ↓reduceIte, ↓dreduceIte, reduceCtorEq, Nat.reduceMul, Nat.reduceAdd, Nat.reduceSub, Nat.reduceDiv, Nat.reduceLT, Nat.reduceLeDiff, Nat.reduceEqDiff, Nat.reduceBEq, Int.reduceNeg, Int.reduceLT, Int.reduceLE, Int.reduceEq, Int.reduceToNat, (eq_true h2), (condZ_t h2), (eq_false h3)]
  · cases h
    simp -implicitDefEqProofs -dsimp only [go_sem, ↓reduceIte, ↓dreduceIte, reduceCtorEq, Nat.reduceMul, Nat.reduceAdd, Nat.reduceSub, Nat.reduceDiv, Nat.reduceLT, Nat.reduceLeDiff, Nat.reduceEqDiff, Nat.reduceBEq, Int.reduceNeg, Int.reduceLT, Int.reduceLE, Int.reduceEq, Int.reduceToNat, (eq_false h2), (condZ_f h2)]
/- 44 loop.example/g00827/impl.TimeLine -/
def m_impl_TimeLine_L3_St (times : List Int) (node : Int) (tick : Int) (v38 : List GTie) (v39 : Int) (s_0 : List GNode) (s_2 : Int) (out : List Int) : (Int × Int) → St
  | (v9, v40) => ⟨[(1, .sl (rowsOf eI times)), (2, .lit (.int .i64 node)), (3, .ptr 192 1 0 0), (7, .ref 511 1 0 out.length), (8, .lit (.int .i64 tick)), (9, .lit (.int .u8 v9)), (38, .sl (rowsOf GTie.enc v38)), (39, .lit (.int .i64 v39)), (40, .lit (.int .i64 v40))], [(192, 1, .var [.sl (rowsOf GNode.encS s_0), .sl (rowsOf GTie.enc v38), .lit (.int .i64 s_2)]), (511, 1, .row true (rowsOf (eK .u8) out))], 2⟩
attribute [go_sem] m_impl_TimeLine_L3_St
def m_impl_TimeLine_L4_St (times : List Int) (node : Int) (s_0 : List GNode) (s_1 : List GTie) (s_2 : Int) : (Int × (List Int)) → St
  | (tick, out) => ⟨[(1, .sl (rowsOf eI times)), (2, .lit (.int .i64 node)), (3, .ptr 192 1 0 0), (7, .ref 511 1 0 out.length), (8, .lit (.int .i64 tick))], [(192, 1, .var [.sl (rowsOf GNode.encS s_0), .sl (rowsOf GTie.enc s_1), .lit (.int .i64 s_2)]), (511, 1, .row true (rowsOf (eK .u8) out))], 2⟩
attribute [go_sem] m_impl_TimeLine_L4_St
def hi44 : Hint where
  acts := fun _ => []
  draws := fun
    | _ => ⟨[], [], []⟩
theorem hi44a (i : Nat) : hi44.acts i = [] := rfl
theorem hi44v (i : Nat) : hi44.views i = none := rfl
attribute [go_sem] hi44a hi44v Go.Proofs.Try.ntmps44 Go.Proofs.Try.results44
theorem c_impl_TimeLine {s : GShow} {times : List Int} {node : Int} {res : ByteArray} (h : m_impl_TimeLine s times node = some res) : CallOk Go.Proofs.Try.prog 44 [.agg [.sl (rowsOf GNode.encS s.nodes), .sl (rowsOf GTie.enc s.ties), .lit (.int .i64 s.horizon)], .sl (rowsOf eI times), .lit (.int .i64 node)] [] (.lit (.string res)) [] := by
  refine callOk_of (ra := []) (md := mdT) hT (hi := hi44) Go.Proofs.Try.func44 rfl rfl (by decide +kernel) (by simp) ?_
  unfold m_impl_TimeLine at h
  obtain ⟨r1001, g1, h⟩ := obnd_some h
  simp -implicitDefEqProofs -dsimp only [go_sem, ↓reduceIte, ↓dreduceIte, reduceCtorEq, Nat.reduceMul, Nat.reduceAdd, Nat.reduceSub, Nat.reduceDiv, Nat.reduceLT, Nat.reduceLeDiff, Nat.reduceEqDiff, Nat.reduceBEq, Int.reduceNeg, Int.reduceLT, Int.reduceLE, Int.reduceEq, Int.reduceToNat]
  refine callW_of (c_impl_ShowOk g1) ?_
  rcases ite_some h with ⟨h2, h⟩ | ⟨h2, h⟩
  · rcases ite_some h with ⟨h3, h⟩ | ⟨h3, h⟩
    · obtain ⟨r1002, g4, h⟩ := obnd_some h
      simp -implicitDefEqProofs -dsimp only [go_sem, ↓reduceIte, ↓dreduceIte, reduceCtorEq, Nat.reduceMul, Nat.reduceAdd, Nat.reduceSub, Nat.reduceDiv, Nat.reduceLT, Nat.reduceLeDiff, Nat.reduceEqDiff, Nat.reduceBEq, Int.reduceNeg, Int.reduceLT, Int.reduceLE, Int.reduceEq, Int.reduceToNat, (eq_true h2), (condZ_t h2), (eq_true h3)]
      refine callW_of (c_impl_isNode g4) ?_
      rcases ite_some h with ⟨h5, h⟩ | ⟨h5, h⟩
      · obtain ⟨q1008, l6, h⟩ := obnd_some h
        simp -implicitDefEqProofs -dsimp only [go_sem, ↓reduceIte, ↓dreduceIte, reduceCtorEq, Nat.reduceMul, Nat.reduceAdd, Nat.reduceSub, Nat.reduceDiv, Nat.reduceLT, Nat.reduceLeDiff, Nat.reduceEqDiff, Nat.reduceBEq, Int.reduceNeg, Int.reduceLT, Int.reduceLE, Int.reduceEq, Int.reduceToNat, (eq_true h2), (condZ_t h2), (eq_true h3), (eq_true h5), (condZ_t h5)]
        refine loopW_loopO (m1 := .mk) (m2 := .mk) [.home 7, .nf [1, 2, 3, 7, 8] [192, 511]] (m_impl_TimeLine_L4_St times node s.nodes s.ties s.horizon) l6 ?_ ?_
        · simp -implicitDefEqProofs -dsimp only [go_sem, ↓reduceIte, ↓dreduceIte, reduceCtorEq, Nat.reduceMul, Nat.reduceAdd, Nat.reduceSub, Nat.reduceDiv, Nat.reduceLT, Nat.reduceLeDiff, Nat.reduceEqDiff, Nat.reduceBEq, Int.reduceNeg, Int.reduceLT, Int.reduceLE, Int.reduceEq, Int.reduceToNat, (eq_true h2), (condZ_t h2), (eq_true h3), (eq_true h5), (condZ_t h5)]
        · intro nb7 sb7 bb7 b7 gb7
          obtain ⟨tick_1, out_1⟩ := sb7
          unfold m_impl_TimeLine_L4 at b7
          try dsimp only at b7
          rcases ite_some b7 with ⟨h8, b7⟩ | ⟨h8, b7⟩
          · obtain ⟨q1007, l9, b7⟩ := obnd_some b7
            simp -implicitDefEqProofs -dsimp only [go_sem, ↓reduceIte, ↓dreduceIte, reduceCtorEq, Nat.reduceMul, Nat.reduceAdd, Nat.reduceSub, Nat.reduceDiv, Nat.reduceLT, Nat.reduceLeDiff, Nat.reduceEqDiff, Nat.reduceBEq, Int.reduceNeg, Int.reduceLT, Int.reduceLE, Int.reduceEq, Int.reduceToNat, (eq_true h2), (condZ_t h2), (eq_true h3), (eq_true h5), (condZ_t h5), (eq_true h8)]
            refine loopW_loopO (m1 := .mk) (m2 := .mk) [.nf [1, 2, 3, 7, 8, 9, 38, 39, 40] [192, 511]] (m_impl_TimeLine_L3_St times node tick_1 s.ties ((s.ties.length : Nat) : Int) s.nodes s.horizon out_1) l9 ?_ ?_
            · simp -implicitDefEqProofs -dsimp only [go_sem, ↓reduceIte, ↓dreduceIte, reduceCtorEq, Nat.reduceMul, Nat.reduceAdd, Nat.reduceSub, Nat.reduceDiv, Nat.reduceLT, Nat.reduceLeDiff, Nat.reduceEqDiff, Nat.reduceBEq, Int.reduceNeg, Int.reduceLT, Int.reduceLE, Int.reduceEq, Int.reduceToNat, (eq_true h2), (condZ_t h2), (eq_true h3), (eq_true h5), (condZ_t h5), (eq_true h8)]
            · intro nb10 sb10 bb10 b10 gb10
              obtain ⟨v9_2, v40_2⟩ := sb10
              unfold m_impl_TimeLine_L3 at b10
              try dsimp only at b10
              rcases ite_some b10 with ⟨h11, b10⟩ | ⟨h11, b10⟩
              · obtain ⟨x1003, g12, b10⟩ := obnd_some b10
                obtain ⟨h13, h14, h15⟩ := getI_some g12
                rcases ite_some b10 with ⟨h16, b10⟩ | ⟨h16, b10⟩
                · rcases ite_some b10 with ⟨h17, b10⟩ | ⟨h17, b10⟩
                  · obtain ⟨x1004, g18, b10⟩ := obnd_some b10
                    obtain ⟨h19, h20, h21⟩ := getI_some g18
                    rcases ite_some b10 with ⟨h22, b10⟩ | ⟨h22, b10⟩
                    · cases b10
                      simp -implicitDefEqProofs -dsimp only [go_sem, ↓reduceIte, ↓dreduceIte, reduceCtorEq, Nat.reduceMul, Nat.reduceAdd, Nat.reduceSub, Nat.reduceDiv, Nat.reduceLT, Nat.reduceLeDiff, Nat.reduceEqDiff, Nat.reduceBEq, Int.reduceNeg, Int.reduceLT, Int.reduceLE, Int.reduceEq, Int.reduceToNat, (eq_true h2), (condZ_t h2), (eq_true h3), (eq_true h5), (condZ_t h5), (eq_true h8), (eq_true h11), h13, h14, h15, (eq_true h16), (condZ_t h16), (eq_true h17), h19, h20, h21, (eq_true h22)]
                      refine next_of gb10 ?_
                      simp -implicitDefEqProofs -dsimp only [go_sem, ↓reduceIte, ↓dreduceIte, reduceCtorEq, Nat.reduceMul, Nat.reduceAdd, Nat.reduceSub, Nat.reduceDiv, Nat.reduceLT, Nat.reduceLeDiff, Nat.reduceEqDiff, Nat.reduceBEq, Int.reduceNeg, Int.reduceLT, Int.reduceLE, Int.reduceEq, Int.reduceToNat, (eq_true h2), (condZ_t h2), (eq_true h3), (eq_true h5), (condZ_t h5), (eq_true h8), (eq_true h11), h13, h14, h15, (eq_true h16), (condZ_t h16), (eq_true h17), h19, h20, h21, (eq_true h22)]
                    · rcases ite_some b10 with ⟨h23, b10⟩ | ⟨h23, b10⟩
                      · obtain ⟨x1005, g24, b10⟩ := obnd_some b10
                        obtain ⟨h25, h26, h27⟩ := getI_some g24
                        rcases ite_some b10 with ⟨h28, b10⟩ | ⟨h28, b10⟩
                        · cases b10
                          simp -implicitDefEqProofs -dsimp only [go_sem, ↓reduceIte, ↓dreduceIte, reduceCtorEq, Nat.reduceMul, Nat.reduceAdd, Nat.reduceSub, Nat.reduceDiv, Nat.reduceLT, Nat.reduceLeDiff, Nat.reduceEqDiff, Nat.reduceBEq, Int.reduceNeg, Int.reduceLT, Int.reduceLE, Int.reduceEq, Int.reduceToNat, (eq_true h2), (condZ_t h2), (eq_true h3), (eq_true h5), (condZ_t h5), (eq_true h8), (eq_true h11), h13, h14, h15, (eq_true h16), (condZ_t h16), (eq_true h17), h19, h20, h21, (eq_false h22), (eq_true h23), h25, h26, h27, (eq_true h28)]
                          refine next_of gb10 ?_
                          simp -implicitDefEqProofs -dsimp only [go_sem, ↓reduceIte, ↓dreduceIte, reduceCtorEq, Nat.reduceMul, Nat.reduceAdd, Nat.reduceSub, Nat.reduceDiv, Nat.reduceLT, Nat.reduceLeDiff, Nat.reduceEqDiff, Nat.reduceBEq, Int.reduceNeg, Int.reduceLT, Int.reduceLE, Int.reduceEq, Int.reduceToNat, (eq_true h2), (condZ_t h2), (eq_true h3), (eq_true h5), (condZ_t h5), (eq_true h8), (eq_true h11), h13, h14, h15, (eq_true h16), (condZ_t h16), (eq_true h17), h19, h20, h21, (eq_false h22), (eq_true h23), h25, h26, h27, (eq_true h28)]
                        · rcases ite_some b10 with ⟨h29, b10⟩ | ⟨h29, b10⟩
                          · cases b10
                            simp -implicitDefEqProofs -dsimp only [go_sem, ↓reduceIte, ↓dreduceIte, reduceCtorEq, Nat.reduceMul, Nat.reduceAdd, Nat.reduceSub, Nat.reduceDiv, Nat.reduceLT, Nat.reduceLeDiff, Nat.reduceEqDiff, Nat.reduceBEq, Int.reduceNeg, Int.reduceLT, Int.reduceLE, Int.reduceEq, Int.reduceToNat, (eq_true h2), (condZ_t h2), (eq_true h3), (eq_true h5), (condZ_t h5), (eq_true h8), (eq_true h11), h13, h14, h15, (eq_true h16), (condZ_t h16), (eq_true h17), h19, h20, h21, (eq_false h22), (eq_true h23), h25, h26, h27, (eq_false h28), (eq_true h29)]
                            refine next_of gb10 ?_
                            simp -implicitDefEqProofs -dsimp only [go_sem, ↓reduceIte, ↓dreduceIte, reduceCtorEq, Nat.reduceMul, Nat.reduceAdd, Nat.reduceSub, Nat.reduceDiv, Nat.reduceLT, Nat.reduceLeDiff, Nat.reduceEqDiff, Nat.reduceBEq, Int.reduceNeg, Int.reduceLT, Int.reduceLE, Int.reduceEq, Int.reduceToNat, (eq_true h2), (condZ_t h2), (eq_true h3), (eq_true h5), (condZ_t h5), (eq_true h8), (eq_true h11), h13, h14, h15, (eq_true h16), (condZ_t h16), (eq_true h17), h19, h20, h21, (eq_false h22), (eq_true h23), h25, h26, h27, (eq_false h28), (eq_true h29)]
                          · cases b10
                            simp -implicitDefEqProofs -dsimp only [go_sem, ↓reduceIte, ↓dreduceIte, reduceCtorEq, Nat.reduceMul, Nat.reduceAdd, Nat.reduceSub, Nat.reduceDiv, Nat.reduceLT, Nat.reduceLeDiff, Nat.reduceEqDiff, Nat.reduceBEq, Int.reduceNeg, Int.reduceLT, Int.reduceLE, Int.reduceEq, Int.reduceToNat, (eq_true h2), (condZ_t h2), (eq_true h3), (eq_true h5), (condZ_t h5), (eq_true h8), (eq_true h11), h13, h14, h15, (eq_true h16), (condZ_t h16), (eq_true h17), h19, h20, h21, (eq_false h22), (eq_true h23), h25, h26, h27, (eq_false h28), (eq_false h29)]
                            refine next_of gb10 ?_
                            simp -implicitDefEqProofs -dsimp only [go_sem, ↓reduceIte, ↓dreduceIte, reduceCtorEq, Nat.reduceMul, Nat.reduceAdd, Nat.reduceSub, Nat.reduceDiv, Nat.reduceLT, Nat.reduceLeDiff, Nat.reduceEqDiff, Nat.reduceBEq, Int.reduceNeg, Int.reduceLT, Int.reduceLE, Int.reduceEq, Int.reduceToNat, (eq_true h2), (condZ_t h2), (eq_true h3), (eq_true h5), (condZ_t h5), (eq_true h8), (eq_true h11), h13, h14, h15, (eq_true h16), (condZ_t h16), (eq_true h17), h19, h20, h21, (eq_false h22), (eq_true h23), h25, h26, h27, (eq_false h28), (eq_false h29)]
                      · cases b10
                        simp -implicitDefEqProofs -dsimp only [go_sem, ↓reduceIte, ↓dreduceIte, reduceCtorEq, Nat.reduceMul, Nat.reduceAdd, Nat.reduceSub, Nat.reduceDiv, Nat.reduceLT, Nat.reduceLeDiff, Nat.reduceEqDiff, Nat.reduceBEq, Int.reduceNeg, Int.reduceLT, Int.reduceLE, Int.reduceEq, Int.reduceToNat, (eq_true h2), (condZ_t h2), (eq_true h3), (eq_true h5), (condZ_t h5), (eq_true h8), (eq_true h11), h13, h14, h15, (eq_true h16), (condZ_t h16), (eq_true h17), h19, h20, h21, (eq_false h22), (eq_false h23)]
                        refine next_of gb10 ?_
                        simp -implicitDefEqProofs -dsimp only [go_sem, ↓reduceIte, ↓dreduceIte, reduceCtorEq, Nat.reduceMul, Nat.reduceAdd, Nat.reduceSub, Nat.reduceDiv, Nat.reduceLT, Nat.reduceLeDiff, Nat.reduceEqDiff, Nat.reduceBEq, Int.reduceNeg, Int.reduceLT, Int.reduceLE, Int.reduceEq, Int.reduceToNat, (eq_true h2), (condZ_t h2), (eq_true h3), (eq_true h5), (condZ_t h5), (eq_true h8), (eq_true h11), h13, h14, h15, (eq_true h16), (condZ_t h16), (eq_true h17), h19, h20, h21, (eq_false h22), (eq_false h23)]
                  · cases b10
                    simp -implicitDefEqProofs -dsimp only [go_sem, ↓reduceIte, ↓dreduceIte, reduceCtorEq, Nat.reduceMul, Nat.reduceAdd, Nat.reduceSub, Nat.reduceDiv, Nat.reduceLT, Nat.reduceLeDiff, Nat.reduceEqDiff, Nat.reduceBEq, Int.reduceNeg, Int.reduceLT, Int.reduceLE, Int.reduceEq, Int.reduceToNat, (eq_true h2), (condZ_t h2), (eq_true h3), (eq_true h5), (condZ_t h5), (eq_true h8), (eq_true h11), h13, h14, h15, (eq_true h16), (condZ_t h16), (eq_false h17)]
                    refine next_of gb10 ?_
                    simp -implicitDefEqProofs -dsimp only [go_sem, ↓reduceIte, ↓dreduceIte, reduceCtorEq, Nat.reduceMul, Nat.reduceAdd, Nat.reduceSub, Nat.reduceDiv, Nat.reduceLT, Nat.reduceLeDiff, Nat.reduceEqDiff, Nat.reduceBEq, Int.reduceNeg, Int.reduceLT, Int.reduceLE, Int.reduceEq, Int.reduceToNat, (eq_true h2), (condZ_t h2), (eq_true h3), (eq_true h5), (condZ_t h5), (eq_true h8), (eq_true h11), h13, h14, h15, (eq_true h16), (condZ_t h16), (eq_false h17)]
                · cases b10
                  simp -implicitDefEqProofs -dsimp only [go_sem, ↓reduceIte, ↓dreduceIte, reduceCtorEq, Nat.reduceMul, Nat.reduceAdd, Nat.reduceSub, Nat.reduceDiv, Nat.reduceLT, Nat.reduceLeDiff, Nat.reduceEqDiff, Nat.reduceBEq, Int.reduceNeg, Int.reduceLT, Int.reduceLE, Int.reduceEq, Int.reduceToNat, (eq_true h2), (condZ_t h2), (eq_true h3), (eq_true h5), (condZ_t h5), (eq_true h8), (eq_true h11), h13, h14, h15, (eq_false h16), (condZ_f h16)]
                  refine next_of gb10 ?_
                  simp -implicitDefEqProofs -dsimp only [go_sem, ↓reduceIte, ↓dreduceIte, reduceCtorEq, Nat.reduceMul, Nat.reduceAdd, Nat.reduceSub, Nat.reduceDiv, Nat.reduceLT, Nat.reduceLeDiff, Nat.reduceEqDiff, Nat.reduceBEq, Int.reduceNeg, Int.reduceLT, Int.reduceLE, Int.reduceEq, Int.reduceToNat, (eq_true h2), (condZ_t h2), (eq_true h3), (eq_true h5), (condZ_t h5), (eq_true h8), (eq_true h11), h13, h14, h15, (eq_false h16), (condZ_f h16)]
              · cases b10
                have e30 := done_of gb10
                subst e30
                try dsimp only at b7
                obtain ⟨x1006, g31, b7⟩ := obnd_some b7
                obtain ⟨h32, h33, h34⟩ := getI_some g31
                rcases ite_some b7 with ⟨h35, b7⟩ | ⟨h35, b7⟩
                · obtain ⟨h36, b7⟩ := chk_some b7
                  obtain ⟨h37, b7⟩ := chk_some b7
                  cases b7
                  simp -implicitDefEqProofs -dsimp only [go_sem, ↓reduceIte, ↓dreduceIte, reduceCtorEq, Nat.reduceMul, Nat.reduceAdd, Nat.reduceSub, Nat.reduceDiv, Nat.reduceLT, Nat.reduceLeDiff, Nat.reduceEqDiff, Nat.reduceBEq, Int.reduceNeg, Int.reduceLT, Int.reduceLE, Int.reduceEq, Int.reduceToNat, (eq_true h2), (condZ_t h2), (eq_true h3), (eq_true h5), (condZ_t h5), (eq_true h8), (eq_false h11), h32, h33, h34, (eq_true h35), (eq_true h36), (eq_true h37)]
                  refine next_of gb7 ?_
                  simp -implicitDefEqProofs -dsimp only [go_sem, ↓reduceIte, ↓dreduceIte, reduceCtorEq, Nat.reduceMul, Nat.reduceAdd, Nat.reduceSub, Nat.reduceDiv, Nat.reduceLT, Nat.reduceLeDiff, Nat.reduceEqDiff, Nat.reduceBEq, Int.reduceNeg, Int.reduceLT, Int.reduceLE, Int.reduceEq, Int.reduceToNat, (eq_true h2), (condZ_t h2), (eq_true h3), (eq_true h5), (condZ_t h5), (eq_true h8), (eq_false h11), h32, h33, h34, (eq_true h35), (eq_true h36), (eq_true h37)]
                · obtain ⟨h38, b7⟩ := chk_some b7
                  obtain ⟨h39, b7⟩ := chk_some b7
                  cases b7
                  simp -implicitDefEqProofs -dsimp only [go_sem, ↓reduceIte, ↓dreduceIte, reduceCtorEq, Nat.reduceMul, Nat.reduceAdd, Nat.reduceSub, Nat.reduceDiv, Nat.reduceLT, Nat.reduceLeDiff, Nat.reduceEqDiff, Nat.reduceBEq, Int.reduceNeg, Int.reduceLT, Int.reduceLE, Int.reduceEq, Int.reduceToNat, (eq_true h2), (condZ_t h2), (eq_true h3), (eq_true h5), (condZ_t h5), (eq_true h8), (eq_false h11), h32, h33, h34, (eq_false h35), (eq_true h38), (eq_true h39)]
                  refine next_of gb7 ?_
                  simp -implicitDefEqProofs -dsimp only [go_sem, ↓reduceIte, ↓dreduceIte, reduceCtorEq, Nat.reduceMul, Nat.reduceAdd, Nat.reduceSub, Nat.reduceDiv, Nat.reduceLT, Nat.reduceLeDiff, Nat.reduceEqDiff, Nat.reduceBEq, Int.reduceNeg, Int.reduceLT, Int.reduceLE, Int.reduceEq, Int.reduceToNat, (eq_true h2), (condZ_t h2), (eq_true h3), (eq_true h5), (condZ_t h5), (eq_true h8), (eq_false h11), h32, h33, h34, (eq_false h35), (eq_true h38), (eq_true h39)]
          · cases b7
            have e40 := done_of gb7
            subst e40
            try dsimp only at h
            cases h
            simp -implicitDefEqProofs -dsimp only [go_sem, ↓reduceIte, ↓dreduceIte, reduceCtorEq, Nat.reduceMul, Nat.reduceAdd, Nat.reduceSub, Nat.reduceDiv, Nat.reduceLT, Nat.reduceLeDiff, Nat.reduceEqDiff, Nat.reduceBEq, Int.reduceNeg, Int.reduceLT, Int.reduceLE, Int.reduceEq, Int.reduceToNat, (eq_true h2), (condZ_t h2), (eq_true h3), (eq_true h5), (condZ_t h5), (eq_false h8)]
      · cases h
        simp -implicitDefEqProofs -dsimp only [go_sem, ↓reduceIte, ↓dreduceIte, reduceCtorEq, Nat.reduceMul, Nat.reduceAdd, Nat.reduceSub, Nat.reduceDiv, Nat.reduceLT, Nat.reduceLeDiff, Nat.reduceEqDiff, Nat.reduceBEq, Int.reduceNeg, Int.reduceLT, Int.reduceLE, Int.reduceEq, Int.reduceToNat, (eq_true h2), (condZ_t h2), (eq_true h3), (eq_false h5), (condZ_f h5)]
    · cases h
      simp -implicitDefEqProofs -dsimp only [go_sem, ↓reduceIte, ↓dreduceIte, reduceCtorEq, Nat.reduceMul, Nat.reduceAdd, Nat.reduceSub, Nat.reduceDiv, Nat.reduceLT, Nat.reduceLeDiff, Nat.reduceEqDiff, Nat.reduceBEq, Int.reduceNeg, Int.reduceLT, Int.reduceLE, Int.reduceEq, Int.reduceToNat, (eq_true h2), (condZ_t h2), (eq_false h3)]
  · cases h
    simp -implicitDefEqProofs -dsimp only [go_sem, ↓reduceIte, ↓dreduceIte, reduceCtorEq, Nat.reduceMul, Nat.reduceAdd, Nat.reduceSub, Nat.reduceDiv, Nat.reduceLT, Nat.reduceLeDiff, Nat.reduceEqDiff, Nat.reduceBEq, Int.reduceNeg, Int.reduceLT, Int.reduceLE, Int.reduceEq, Int.reduceToNat, (eq_false h2), (condZ_f h2)]
/- 7 loop.example/g00827/laws.FnExactTimeLine -/
def hi7 : Hint where
  acts := fun _ => []
  draws := fun
    | 13 => ⟨[⟨0, true, []⟩, ⟨1, false, []⟩, ⟨2, false, [0]⟩, ⟨3, false, []⟩, ⟨4, false, []⟩], [[], [], [1], [0, 1, 2], [0, 1, 2, 3]], [0, 1, 2, 3, 4]⟩
    | _ => ⟨[], [], []⟩
theorem hi7a (i : Nat) : hi7.acts i = [] := rfl
theorem hi7v (i : Nat) : hi7.views i = none := rfl
attribute [go_sem] hi7a hi7v Go.Proofs.Try.ntmps7 Go.Proofs.Try.results7
@[go_sem] theorem hi7d13 : (hi7.draws 13).order = [⟨0, true, []⟩, ⟨1, false, []⟩, ⟨2, false, [0]⟩, ⟨3, false, []⟩, ⟨4, false, []⟩] := rfl
theorem c_laws_FnExactTimeLine {aS : GShow} {aTimes : List Int} {aNode : Int} {res : Bool} (h : m_laws_FnExactTimeLine aS aTimes aNode = some res) : CallOk Go.Proofs.Try.prog 7 [.agg [.sl (rowsOf GNode.encS aS.nodes), .sl (rowsOf GTie.enc aS.ties), .lit (.int .i64 aS.horizon)], .sl (rowsOf eI aTimes), .lit (.int .i64 aNode)] [] (.lit (.bool res)) [] := by
  refine callOk_of (ra := []) (md := mdT) hT (hi := hi7) Go.Proofs.Try.func7 rfl rfl (by decide +kernel) (by simp) ?_
  unfold m_laws_FnExactTimeLine at h
  rcases ite_some h with ⟨h1, h⟩ | ⟨h1, h⟩
  · cases h
    simp -implicitDefEqProofs -dsimp only [go_sem, ↓reduceIte, ↓dreduceIte, reduceCtorEq, Nat.reduceMul, Nat.reduceAdd, Nat.reduceSub, Nat.reduceDiv, Nat.reduceLT, Nat.reduceLeDiff, Nat.reduceEqDiff, Nat.reduceBEq, Int.reduceNeg, Int.reduceLT, Int.reduceLE, Int.reduceEq, Int.reduceToNat, (eq_true h1)]
  · obtain ⟨r1001, g2, h⟩ := obnd_some h
    simp -implicitDefEqProofs -dsimp only [go_sem, ↓reduceIte, ↓dreduceIte, reduceCtorEq, Nat.reduceMul, Nat.reduceAdd, Nat.reduceSub, Nat.reduceDiv, Nat.reduceLT, Nat.reduceLeDiff, Nat.reduceEqDiff, Nat.reduceBEq, Int.reduceNeg, Int.reduceLT, Int.reduceLE, Int.reduceEq, Int.reduceToNat, (eq_false h1)]
    refine callW_of (c_laws_szShow g2) ?_
    rcases ite_some h with ⟨h3, h⟩ | ⟨h3, h⟩
    · cases h
      simp -implicitDefEqProofs -dsimp only [go_sem, ↓reduceIte, ↓dreduceIte, reduceCtorEq, Nat.reduceMul, Nat.reduceAdd, Nat.reduceSub, Nat.reduceDiv, Nat.reduceLT, Nat.reduceLeDiff, Nat.reduceEqDiff, Nat.reduceBEq, Int.reduceNeg, Int.reduceLT, Int.reduceLE, Int.reduceEq, Int.reduceToNat, (eq_false h1), (eq_true h3)]
    · obtain ⟨r1002, g4, h⟩ := obnd_some h
      simp -implicitDefEqProofs -dsimp only [go_sem, ↓reduceIte, ↓dreduceIte, reduceCtorEq, Nat.reduceMul, Nat.reduceAdd, Nat.reduceSub, Nat.reduceDiv, Nat.reduceLT, Nat.reduceLeDiff, Nat.reduceEqDiff, Nat.reduceBEq, Int.reduceNeg, Int.reduceLT, Int.reduceLE, Int.reduceEq, Int.reduceToNat, (eq_false h1), (eq_false h3)]
      refine callW_of (c_laws_toShow g4) ?_
      obtain ⟨r1003, g5, h⟩ := obnd_some h
      simp -implicitDefEqProofs -dsimp only [go_sem, ↓reduceIte, ↓dreduceIte, reduceCtorEq, Nat.reduceMul, Nat.reduceAdd, Nat.reduceSub, Nat.reduceDiv, Nat.reduceLT, Nat.reduceLeDiff, Nat.reduceEqDiff, Nat.reduceBEq, Int.reduceNeg, Int.reduceLT, Int.reduceLE, Int.reduceEq, Int.reduceToNat, (eq_false h1), (eq_false h3)]
      refine callW_of (c_laws_toIntS g5) ?_
      obtain ⟨r1004, g6, h⟩ := obnd_some h
      simp -implicitDefEqProofs -dsimp only [go_sem, ↓reduceIte, ↓dreduceIte, reduceCtorEq, Nat.reduceMul, Nat.reduceAdd, Nat.reduceSub, Nat.reduceDiv, Nat.reduceLT, Nat.reduceLeDiff, Nat.reduceEqDiff, Nat.reduceBEq, Int.reduceNeg, Int.reduceLT, Int.reduceLE, Int.reduceEq, Int.reduceToNat, (eq_false h1), (eq_false h3)]
      refine callW_of (c_spec_TimeLine g6) ?_
      obtain ⟨r1005, g7, h⟩ := obnd_some h
      simp -implicitDefEqProofs -dsimp only [go_sem, ↓reduceIte, ↓dreduceIte, reduceCtorEq, Nat.reduceMul, Nat.reduceAdd, Nat.reduceSub, Nat.reduceDiv, Nat.reduceLT, Nat.reduceLeDiff, Nat.reduceEqDiff, Nat.reduceBEq, Int.reduceNeg, Int.reduceLT, Int.reduceLE, Int.reduceEq, Int.reduceToNat, (eq_false h1), (eq_false h3)]
      refine callW_of (c_laws_toShow g7) ?_
      obtain ⟨r1006, g8, h⟩ := obnd_some h
      simp -implicitDefEqProofs -dsimp only [go_sem, ↓reduceIte, ↓dreduceIte, reduceCtorEq, Nat.reduceMul, Nat.reduceAdd, Nat.reduceSub, Nat.reduceDiv, Nat.reduceLT, Nat.reduceLeDiff, Nat.reduceEqDiff, Nat.reduceBEq, Int.reduceNeg, Int.reduceLT, Int.reduceLE, Int.reduceEq, Int.reduceToNat, (eq_false h1), (eq_false h3)]
      refine callW_of (c_laws_toIntS g8) ?_
      obtain ⟨r1007, g9, h⟩ := obnd_some h
      simp -implicitDefEqProofs -dsimp only [go_sem, ↓reduceIte, ↓dreduceIte, reduceCtorEq, Nat.reduceMul, Nat.reduceAdd, Nat.reduceSub, Nat.reduceDiv, Nat.reduceLT, Nat.reduceLeDiff, Nat.reduceEqDiff, Nat.reduceBEq, Int.reduceNeg, Int.reduceLT, Int.reduceLE, Int.reduceEq, Int.reduceToNat, (eq_false h1), (eq_false h3)]
      refine callW_of (c_impl_TimeLine g9) ?_
      rcases ite_some h with ⟨h10, h⟩ | ⟨h10, h⟩
      · obtain ⟨r1008, g11, h⟩ := obnd_some h
        simp -implicitDefEqProofs -dsimp only [go_sem, ↓reduceIte, ↓dreduceIte, reduceCtorEq, Nat.reduceMul, Nat.reduceAdd, Nat.reduceSub, Nat.reduceDiv, Nat.reduceLT, Nat.reduceLeDiff, Nat.reduceEqDiff, Nat.reduceBEq, Int.reduceNeg, Int.reduceLT, Int.reduceLE, Int.reduceEq, Int.reduceToNat, (eq_false h1), (eq_false h3), (eq_true h10)]
        refine callW_of (c_laws_toShow g11) ?_
        obtain ⟨r1009, g12, h⟩ := obnd_some h
        simp -implicitDefEqProofs -dsimp only [go_sem, ↓reduceIte, ↓dreduceIte, reduceCtorEq, Nat.reduceMul, Nat.reduceAdd, Nat.reduceSub, Nat.reduceDiv, Nat.reduceLT, Nat.reduceLeDiff, Nat.reduceEqDiff, Nat.reduceBEq, Int.reduceNeg, Int.reduceLT, Int.reduceLE, Int.reduceEq, Int.reduceToNat, (eq_false h1), (eq_false h3), (eq_true h10)]
        refine callW_of (c_laws_eqShow g12) ?_
        rcases ite_some h with ⟨h13, h⟩ | ⟨h13, h⟩
        · obtain ⟨r1010, g14, h⟩ := obnd_some h
          simp -implicitDefEqProofs -dsimp only [go_sem, ↓reduceIte, ↓dreduceIte, reduceCtorEq, Nat.reduceMul, Nat.reduceAdd, Nat.reduceSub, Nat.reduceDiv, Nat.reduceLT, Nat.reduceLeDiff, Nat.reduceEqDiff, Nat.reduceBEq, Int.reduceNeg, Int.reduceLT, Int.reduceLE, Int.reduceEq, Int.reduceToNat, (eq_false h1), (eq_false h3), (eq_true h10), (eq_true h13), (condZ_t h13)]
          refine callW_of (c_laws_toIntS g14) ?_
          obtain ⟨r1011, g15, h⟩ := obnd_some h
          simp -implicitDefEqProofs -dsimp only [go_sem, ↓reduceIte, ↓dreduceIte, reduceCtorEq, Nat.reduceMul, Nat.reduceAdd, Nat.reduceSub, Nat.reduceDiv, Nat.reduceLT, Nat.reduceLeDiff, Nat.reduceEqDiff, Nat.reduceBEq, Int.reduceNeg, Int.reduceLT, Int.reduceLE, Int.reduceEq, Int.reduceToNat, (eq_false h1), (eq_false h3), (eq_true h10), (eq_true h13), (condZ_t h13)]
          refine callW_of (c_laws_eqIntS g15) ?_
          rcases ite_some h with ⟨h16, h⟩ | ⟨h16, h⟩
          · cases h
            simp -implicitDefEqProofs -dsimp only [go_sem, ↓reduceIte, ↓dreduceIte, reduceCtorEq, Nat.reduceMul, Nat.reduceAdd, Nat.reduceSub, Nat.reduceDiv, Nat.reduceLT, Nat.reduceLeDiff, Nat.reduceEqDiff, Nat.reduceBEq, Int.reduceNeg, Int.reduceLT, Int.reduceLE, Int.reduceEq, Int.reduceToNat, (eq_false h1), (eq_false h3), (eq_true h10), (eq_true h13), (condZ_t h13), (eq_true h16), (condZ_t h16)]
          · cases h
            simp -implicitDefEqProofs -dsimp only [go_sem, ↓reduceIte, ↓dreduceIte, reduceCtorEq, Nat.reduceMul, Nat.reduceAdd, Nat.reduceSub, Nat.reduceDiv, Nat.reduceLT, Nat.reduceLeDiff, Nat.reduceEqDiff, Nat.reduceBEq, Int.reduceNeg, Int.reduceLT, Int.reduceLE, Int.reduceEq, Int.reduceToNat, (eq_false h1), (eq_false h3), (eq_true h10), (eq_true h13), (condZ_t h13), (eq_false h16), (condZ_f h16)]
        · cases h
          simp -implicitDefEqProofs -dsimp only [go_sem, ↓reduceIte, ↓dreduceIte, reduceCtorEq, Nat.reduceMul, Nat.reduceAdd, Nat.reduceSub, Nat.reduceDiv, Nat.reduceLT, Nat.reduceLeDiff, Nat.reduceEqDiff, Nat.reduceBEq, Int.reduceNeg, Int.reduceLT, Int.reduceLE, Int.reduceEq, Int.reduceToNat, (eq_false h1), (eq_false h3), (eq_true h10), (eq_false h13), (condZ_f h13)]
      · cases h
        simp -implicitDefEqProofs -dsimp only [go_sem, ↓reduceIte, ↓dreduceIte, reduceCtorEq, Nat.reduceMul, Nat.reduceAdd, Nat.reduceSub, Nat.reduceDiv, Nat.reduceLT, Nat.reduceLeDiff, Nat.reduceEqDiff, Nat.reduceBEq, Int.reduceNeg, Int.reduceLT, Int.reduceLE, Int.reduceEq, Int.reduceToNat, (eq_false h1), (eq_false h3), (eq_false h10)]
end Go.Proofs.YtgmiaokdnpaglaaV
