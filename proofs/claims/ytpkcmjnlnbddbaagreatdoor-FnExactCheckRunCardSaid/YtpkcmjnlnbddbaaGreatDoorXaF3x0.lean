/- Functions. -/
import Derived.Test.YtpkcmjnlnbddbaaGreatDoorXaFK2
set_option linter.all false
set_option maxRecDepth 100000
set_option maxHeartbeats 4000000
namespace Go.Proofs.Qa
open Go
attribute [go_sem] Tryz.ntmps10 Tryz.results10
instance k10 {a:GChoice} {left:Int}:Ctr (fi a left) (fun (res:Int)=>al Tryz.prog 10 [.agg [.sl (ab eI a.lengths),.sl (ab eI a.values)],.lit (.int .i64 left)] [] (.lit (.int .i64 res)) []):=⟨by
 intro res h0
 refine co (hi:=hi00) Tryz.func10 rfl rfl ?_
 unfold fi at h0
 exact run⟩
attribute [go_sem] Tryz.ntmps13 Tryz.results13
instance k13 {a:GChoice}:Ctr (cX a) (fun (res:GChoice)=>al Tryz.prog 13 [.agg [.sl (ab eI a.lengths),.sl (ab eI a.values)]] [] (.agg [.ref 20000 1 0 res.lengths.length,.ref 20001 1 0 res.values.length]) [(20000,1,.row true (ab eI res.lengths)),(20001,1,.row true (ab eI res.values))]):=⟨by
 intro res h0
 refine cE (ra:=[.homeCell 128 0,.homeCell 128 1]) (md:=mdT) hT (hi:=hi00) Tryz.func13 rfl rfl (by decide +kernel) (by simp) ?_
 unfold cX at h0
 exact run⟩
attribute [go_sem] Tryz.ntmps17 Tryz.results17
instance k17 {a:GChoice} {b:GChoice}:Ctr (fz a b) (fun (res:Bool)=>al Tryz.prog 17 [.agg [.sl (ab eI a.lengths),.sl (ab eI a.values)],.agg [.sl (ab eI b.lengths),.sl (ab eI b.values)]] [] (.lit (.bool res)) []):=⟨by
 intro res h0
 refine co (hi:=hi00) Tryz.func17 rfl rfl ?_
 unfold fz at h0
 exact run⟩
@[go_sem] def hi3_19:DT:=.i1 0 (.i2 1 (.i0 2 [0] (.i2 3 (.i2 4 .nil))))
@[go_sem] def hi3_17:DT:=.i1 0 (.i2 1 (.i0 2 [0] (.i2 3 (.i2 4 .nil))))
@[go_sem] def hi3_10:DT:=.i2 0 (.i1 2 (.i2 4 (.i0 1 [2] (.i2 3 (.r2 5 3 .nil)))))
def hi3:Hint where
 acts:=fun _=>[]
 draws:=fun
  | 10=>⟨hi3_10,[[],[0],[],[0,1,2],[],.range 5,.range 6,.range 7],.range 8⟩
  | 17=>⟨hi3_17,[[],[],[1],[0,1,2],[0,1,2,3]],.range 5⟩
  | 19=>⟨hi3_19,[[],[],[1],[0,1,2],[0,1,2,3]],.range 5⟩
  | _=>⟨.nil,[],[]⟩
theorem hi3a (i:Nat):hi3.acts i=[]:=rfl
theorem hi3v (i:Nat):hi3.views i=none:=rfl
attribute [go_sem] hi3a hi3v Tryz.ntmps3 Tryz.results3
@[go_sem] theorem Nh:(hi3.draws 10).order=hi3_10:=rfl
@[go_sem] theorem Ni:(hi3.draws 17).order=hi3_17:=rfl
@[go_sem] theorem Nj:(hi3.draws 19).order=hi3_19:=rfl
theorem mG {aS:GShow}{aC:GChoice}{aTimes:List Int}{res:Bool}(h0:dE aS aC aTimes=some res):al Tryz.prog 3 [.agg (GShow.encS aS),.agg [.sl (ab eI aC.lengths),.sl (ab eI aC.values)],.sl (ab eI aTimes)] [] (.lit (.bool res)) []:=by
 refine co (hi:=hi3) Tryz.func3 rfl rfl ?_
 unfold dE at h0
 exact run
end Go.Proofs.Qa
