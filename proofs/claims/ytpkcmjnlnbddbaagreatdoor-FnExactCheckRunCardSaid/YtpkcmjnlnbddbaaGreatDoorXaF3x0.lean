/- Functions. -/
import Derived.Test.YtpkcmjnlnbddbaaGreatDoorXaFK3
set_option linter.all false
set_option maxRecDepth 100000
set_option maxHeartbeats 4000000
namespace Go.Proofs.Qa
open Go
attribute [go_sem] Tryz.ntmps10 Tryz.results10
theorem vP {a:GChoice}{left res:Int}(h:fv a left=some res):ar Tryz.prog 10 [.agg [.sl (ab eI a.lengths),.sl (ab eI a.values)],.lit (.int .i64 left)] [] (.lit (.int .i64 res)) []:=by
 refine am (ra:=[]) (md:=mdT) hT (hi:=hi00) Tryz.func10 rfl rfl (by decide +kernel) (by simp) ?_
 unfold fv at h
 obtain ⟨r01,g1,h⟩:=ae h
 simp(config:=cS)only[go_sem]
 refine ah (lp g1) ?_
 obtain ⟨h2,h⟩|⟨h2,h⟩:=af h
 ·cases h
  simp(config:=cS)only[go_sem,eqT h2]
 ·obtain ⟨r02,g3,h⟩:=ae h
  simp(config:=cS)only[go_sem,eqF h2]
  refine ah (lp g3) ?_
  obtain ⟨h4,h⟩|⟨h4,h⟩:=af h
  ·cases h
   simp(config:=cS)only[go_sem,eqT h4]
  ·cases h
   simp(config:=cS)only[go_sem,eqF h4]
attribute [go_sem] Tryz.ntmps13 Tryz.results13
theorem jL {a res:GChoice}(h:db a=some res):ar Tryz.prog 13 [.agg [.sl (ab eI a.lengths),.sl (ab eI a.values)]] [] (.agg [.ref 20000 1 0 res.lengths.length,.ref 20001 1 0 res.values.length]) [(20000,1,.row true (ab eI res.lengths)),(20001,1,.row true (ab eI res.values))]:=by
 refine am (ra:=[.homeCell 128 0,.homeCell 128 1]) (md:=mdT) hT (hi:=hi00) Tryz.func13 rfl rfl (by decide +kernel) (by simp) ?_
 unfold db at h
 obtain ⟨r01,g1,h⟩:=ae h
 simp(config:=cS)only[go_sem]
 refine ah (fj g1) ?_
 obtain ⟨r02,g2,h⟩:=ae h
 simp(config:=cS)only[go_sem]
 refine ah (fj g2) ?_
 cases h
 simp(config:=cS)only[go_sem]
attribute [go_sem] Tryz.ntmps17 Tryz.results17
theorem vQ {a b:GChoice}{res:Bool}(h:fG a b=some res):ar Tryz.prog 17 [.agg [.sl (ab eI a.lengths),.sl (ab eI a.values)],.agg [.sl (ab eI b.lengths),.sl (ab eI b.values)]] [] (.lit (.bool res)) []:=by
 refine am (ra:=[]) (md:=mdT) hT (hi:=hi00) Tryz.func17 rfl rfl (by decide +kernel) (by simp) ?_
 unfold fG at h
 obtain ⟨r01,g1,h⟩:=ae h
 simp(config:=cS)only[go_sem]
 refine ah (iW g1) ?_
 obtain ⟨h2,h⟩|⟨h2,h⟩:=af h
 ·obtain ⟨r02,g3,h⟩:=ae h
  simp(config:=cS)only[go_sem,eZt h2]
  refine ah (iW g3) ?_
  obtain ⟨h4,h⟩|⟨h4,h⟩:=af h
  ·cases h
   simp(config:=cS)only[go_sem,eZt h4]
  ·cases h
   simp(config:=cS)only[go_sem,eZf h4]
 ·cases h
  simp(config:=cS)only[go_sem,eZf h2]
@[go_sem] def hi3_19:DT:=.i1 0 (.i2 1 (.i0 2 [0] (.i2 3 (.i2 4 .nil))))
@[go_sem] def hi3_17:DT:=.i1 0 (.i2 1 (.i0 2 [0] (.i2 3 (.i2 4 .nil))))
@[go_sem] def hi3_10:DT:=.i2 0 (.i1 2 (.i2 4 (.i0 1 [2] (.i2 3 (.i2 5 (.i2 6 (.i2 7 .nil)))))))
def hi3:Hint where
 acts:=fun _=>[]
 draws:=fun
  | 10=>⟨hi3_10,[[],[0],[],[0,1,2],[],.range 5,.range 6,.range 7],.range 8⟩
  | 17=>⟨hi3_17,[[],[],[1],[0,1,2],[0,1,2,3]],.range 5⟩
  | 19=>⟨hi3_19,[[],[],[1],[0,1,2],[0,1,2,3]],.range 5⟩
  | _=>⟨.nil,[],[]⟩
theorem hi3a (i:Nat):hi3.acts i=[]:=rfl
theorem hi3v (i:Nat):hi3.views i=none:=rfl
attribute [go_sem] hi3a hi3v Tryz.ntmps3 Tryz.results3
@[go_sem] theorem OP:(hi3.draws 10).order=hi3_10:=rfl
@[go_sem] theorem OQ:(hi3.draws 17).order=hi3_17:=rfl
@[go_sem] theorem OR:(hi3.draws 19).order=hi3_19:=rfl
theorem nh {aS:GShow}{aC:GChoice}{aTimes:List Int}{res:Bool}(h:dI aS aC aTimes=some res):ar Tryz.prog 3 [.agg (GShow.encS aS),.agg [.sl (ab eI aC.lengths),.sl (ab eI aC.values)],.sl (ab eI aTimes)] [] (.lit (.bool res)) []:=by
 refine am (ra:=[]) (md:=mdT) hT (hi:=hi3) Tryz.func3 rfl rfl (by decide +kernel) (by simp) ?_
 unfold dI at h
 obtain ⟨h1,h⟩|⟨h1,h⟩:=af h
 ·cases h
  simp(config:=cS)only[go_sem,eqT h1]
 ·obtain ⟨r01,g2,h⟩:=ae h
  simp(config:=cS)only[go_sem,eqF h1]
  refine ah (yF g2) ?_
  obtain ⟨h3,h⟩|⟨h3,h⟩:=af h
  ·cases h
   simp(config:=cS)only[go_sem,eqT h3]
  ·obtain ⟨r02,g4,h⟩:=ae h
   simp(config:=cS)only[go_sem,eqF h3]
   refine ah (vP g4) ?_
   obtain ⟨h5,h⟩|⟨h5,h⟩:=af h
   ·cases h
    simp(config:=cS)only[go_sem,eqT h5]
   ·obtain ⟨r03,g6,h⟩:=ae h
    simp(config:=cS)only[go_sem,eqF h5]
    refine ah (lq g6) ?_
    obtain ⟨r04,g7,h⟩:=ae h
    simp(config:=cS)only[go_sem]
    refine ah (jL g7) ?_
    obtain ⟨r05,g8,h⟩:=ae h
    simp(config:=cS)only[go_sem]
    refine ah (fj g8) ?_
    obtain ⟨r06,g9,h⟩:=ae h
    simp(config:=cS)only[go_sem]
    refine ah (vU g9) ?_
    obtain ⟨r07,g10,h⟩:=ae h
    simp(config:=cS)only[go_sem]
    refine ah (lq g10) ?_
    obtain ⟨r08,g11,h⟩:=ae h
    simp(config:=cS)only[go_sem]
    refine ah (jL g11) ?_
    obtain ⟨r09,g12,h⟩:=ae h
    simp(config:=cS)only[go_sem]
    refine ah (fj g12) ?_
    obtain ⟨r10,g13,h⟩:=ae h
    simp(config:=cS)only[go_sem]
    refine ah (vZ g13) ?_
    obtain ⟨h14,h⟩|⟨h14,h⟩:=af h
    ·obtain ⟨r11,g15,h⟩:=ae h
     simp(config:=cS)only[go_sem,eqT h14]
     refine ah (lq g15) ?_
     obtain ⟨r12,g16,h⟩:=ae h
     simp(config:=cS)only[go_sem]
     refine ah (yR g16) ?_
     obtain ⟨h17,h⟩|⟨h17,h⟩:=af h
     ·obtain ⟨r13,g18,h⟩:=ae h
      simp(config:=cS)only[go_sem,eZt h17]
      refine ah (jL g18) ?_
      obtain ⟨r14,g19,h⟩:=ae h
      simp(config:=cS)only[go_sem]
      refine ah (vQ g19) ?_
      obtain ⟨h20,h⟩|⟨h20,h⟩:=af h
      ·obtain ⟨r15,g21,h⟩:=ae h
       simp(config:=cS)only[go_sem,eZt h20]
       refine ah (fj g21) ?_
       obtain ⟨r16,g22,h⟩:=ae h
       simp(config:=cS)only[go_sem]
       refine ah (iW g22) ?_
       obtain ⟨h23,h⟩|⟨h23,h⟩:=af h
       ·cases h
        simp(config:=cS)only[go_sem,eZt h23]
       ·cases h
        simp(config:=cS)only[go_sem,eZf h23]
      ·cases h
       simp(config:=cS)only[go_sem,eZf h20]
     ·cases h
      simp(config:=cS)only[go_sem,eZf h17]
    ·cases h
     simp(config:=cS)only[go_sem,eqF h14]
end Go.Proofs.Qa
