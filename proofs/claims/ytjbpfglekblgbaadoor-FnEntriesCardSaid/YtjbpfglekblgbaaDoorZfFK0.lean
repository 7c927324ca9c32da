/- Functions. -/
import Derived.Test.YtjbpfglekblgbaaDoorZfX
import Derived.Test.YtjbpfglekblgbaaDoorZf37
set_option linter.all false
set_option maxRecDepth 100000
set_option maxHeartbeats 4000000
namespace Go.Proofs.Qf
open Go
attribute [go_sem] Tryd.ntmps39 Tryd.results39
attribute [go_sem] Tryd.ntmps9 Tryd.results9
def hZ (a:List Int):(Int × (List Int))→St
 | (i,b)=>⟨[(0,.sl (ab eI a)),(3,.ref 448 1 0 b.length),(4,.lit (.int .i64 i))],[(448,1,.row true (ab eI b))],2⟩
attribute [go_sem] hZ
attribute [go_sem] Tryd.ntmps42 Tryd.results42
attribute [go_sem] Tryd.ntmps11 Tryd.results11
def gp  : (Int × ByteArray)→St
 | (n,s)=>⟨[(0,.lit (.int .i64 n)),(3,.lit (.string s))],[],2⟩
attribute [go_sem] gp
@[go_sem] def hi40_4:DT:=.i2 0 (.i2 1 (.i2 3 (.i2 4 (.i2 5 (.i1 6 (.fork (.i0 2 [6] (.i2 7 (.i1 8 (.i2 9 (.i2 10 .nil))))) (.i2 7 (.i1 8 (.i0 2 [6,8] (.i2 9 (.i2 10 .nil)))))))))))
def hi40:Hint where
 acts:=fun _=>[]
 draws:=fun
  | 4=>⟨hi40_4,[[],[0],[0,1],[],[3],[3,4],[3,4,5],[3,4,5,6],[3,4,5,6,7],.range 9,.range 10],.range 11⟩
  | _=>⟨.nil,[],[]⟩
theorem wF (i:Nat):hi40.acts i=[]:=rfl
theorem wG (i:Nat):hi40.views i=none:=rfl
attribute [go_sem] wF wG Tryd.ntmps40 Tryd.results40
@[go_sem] theorem xb:(hi40.draws 4).order=hi40_4:=rfl
def jo (a:ByteArray)(c:List ByteArray)(d:Int):(ByteArray × Int)→St
 | (s,b)=>⟨[(1,.lit (.string a)),(5,.lit (.string s)),(8,.sl (ab eS c)),(9,.lit (.int .i64 d)),(10,.lit (.int .i64 b))],[],2⟩
attribute [go_sem] jo
attribute [go_sem] Tryd.ntmps75 Tryd.results75
def gS (b:List Int)(c:Int):(Int × (List ByteArray))→St
 | (d,a)=>⟨[(3,.ref 384 1 0 a.length),(7,.sl (ab eI b)),(8,.lit (.int .i64 c)),(9,.lit (.int .i64 d))],[(384,1,.row true (ab eS a))],2⟩
attribute [go_sem] gS
attribute [go_sem] Tryd.ntmps41 Tryd.results41
@[go_sem] def hi10_1:DT:=.i2 0 (.i2 1 (.i1 4 (.i1 5 (.i1 9 (.i1 10 (.i1 14 (.i1 15 (.i0 2 [4,5,9,10,14,15] (.i2 3 (.i0 6 [9,10,14,15] (.i2 7 (.i2 8 (.i0 11 [14,15] (.i2 12 (.i2 13 (.i2 16 (.i2 17 (.i2 18 .nil))))))))))))))))))
def hi10:Hint where
 acts:=fun _=>[]
 draws:=fun
  | 1=>⟨hi10_1,[[],[0],[0,1],[0,1,2],[],[4],[0,1,2,4,5],.range 7,.range 8,[],[9],[0,1,2,4,5,6,9,10],.range 12,.range 13,[],[14],[0,1,2,4,5,6,9,10,11,14,15],.range 17,.range 18],.range 19⟩
  | _=>⟨.nil,[],[]⟩
theorem wH (i:Nat):hi10.acts i=[]:=rfl
theorem wI (i:Nat):hi10.views i=none:=rfl
attribute [go_sem] wH wI Tryd.ntmps10 Tryd.results10
@[go_sem] theorem xc:(hi10.draws 1).order=hi10_1:=rfl
attribute [go_sem] Tryd.ntmps44 Tryd.results44
theorem fO {n:Int}{res:ByteArray}(h:bF n=some res):aG Tryd.prog 44 [.lit (.int .i64 n)] [] (.lit (.string res)) []:=by
 refine aP (ra:=[]) (md:=mdT) hT (hi:=hi00) Tryd.func44 rfl rfl (by decide +kernel) (by simp) ?_
 unfold bF at h
 obtain ⟨r01,g1,h⟩:=am h
 simp(config:=cS)only[go_sem]
 refine aq (ng g1) ?_
 cases h
 simp(config:=cS)only[go_sem]
attribute [go_sem] Tryd.ntmps43 Tryd.results43
theorem kb {l:List ByteArray}{by_ res:ByteArray}(h:cU l by_=some res):aG Tryd.prog 43 [.sl (ab eS l),.lit (.string by_)] [] (.lit (.string res)) []:=by
 refine aP (ra:=[]) (md:=mdT) hT (hi:=hi00) Tryd.func43 rfl rfl (by decide +kernel) (by simp) ?_
 unfold cU at h
 obtain ⟨r01,g1,h⟩:=am h
 simp(config:=cS)only[go_sem]
 refine aq (nh g1) ?_
 cases h
 simp(config:=cS)only[go_sem]
attribute [go_sem] Tryd.ntmps78 Tryd.results78
theorem lM {parts:List ByteArray}{by_ res:ByteArray}(h:cY parts by_=some res):aG Tryd.prog 78 [.sl (ab eS parts),.lit (.string by_)] [] (.lit (.string res)) []:=by
 refine aP (ra:=[]) (md:=mdT) hT (hi:=hi00) Tryd.func78 rfl rfl (by decide +kernel) (by simp) ?_
 unfold cY at h
 obtain ⟨h1,h⟩|⟨h1,h⟩:=au h
 ·cases h
  simp(config:=cS)only[go_sem,eqT h1]
 ·obtain ⟨r01,g2,h⟩:=am h
  simp(config:=cS)only[go_sem,eqF h1]
  refine aq (kb g2) ?_
  cases h
  simp(config:=cS)only[go_sem]
def dU (b:List Int)(c:Int):(Int × (List ByteArray))→St
 | (d,a)=>⟨[(3,.ref 255 1 0 a.length),(6,.sl (ab eI b)),(7,.lit (.int .i64 c)),(8,.lit (.int .i64 d))],[(255,1,.row true (ab eS a))],2⟩
attribute [go_sem] dU
attribute [go_sem] Tryd.ntmps45 Tryd.results45
theorem eu {list:List Int}{res:ByteArray}(h:bq list=some res):aG Tryd.prog 45 [.sl (ab eI list)] [] (.lit (.string res)) []:=by
 refine aP (ra:=[]) (md:=mdT) hT (hi:=hi00) Tryd.func45 rfl rfl (by decide +kernel) (by simp) ?_
 unfold bq at h
 obtain ⟨q04,l1,h⟩:=am h
 simp(config:=cS)only[go_sem]
 refine cv (m1:=.mk) (m2:=.mk) [.home 3,.nf [3,6,7,8] [255]] (dU list ((list.length:Nat):Int)) l1 ?_ ?_
 ·simp(config:=cS)only[go_sem]
 ·intro nb2 sb2 bb2 b2 gb2
  obtain ⟨v8_1,parts_1⟩:=sb2
  unfold co at b2
  try dsimp only at b2
  obtain ⟨h3,b2⟩|⟨h3,b2⟩:=au b2
  ·obtain ⟨x01,g4,b2⟩:=am b2
   obtain ⟨h5,h6,h7⟩:=df g4
   obtain ⟨r02,g8,b2⟩:=am b2
   simp(config:=cS)only[go_sem,eqT h3,h5,h6,h7]
   refine aq (fO g8) ?_
   obtain ⟨h9,b2⟩:=aE b2
   obtain ⟨h10,b2⟩:=aE b2
   cases b2
   simp(config:=cS)only[go_sem,eqT h9,eqT h10]
   refine dO gb2 ?_
   simp(config:=cS)only[go_sem]
  ·cases b2
   obtain rfl:=(cD gb2).symm
   try dsimp only at h
   obtain ⟨r03,g12,h⟩:=am h
   simp(config:=cS)only[go_sem,eqF h3]
   refine aq (lM g12) ?_
   cases h
   simp(config:=cS)only[go_sem]
@[go_sem] def hi12_1:DT:=.i2 0 (.i2 1 (.i1 3 (.i1 4 (.i1 6 (.i1 7 (.i1 9 (.i1 10 (.i0 2 [3,4,6,7,9,10] (.i0 5 [6,7,9,10] (.i0 8 [9,10] (.i2 11 (.i2 12 (.i2 13 (.i2 14 .nil))))))))))))))
def hi12:Hint where
 acts:=fun _=>[]
 draws:=fun
  | 1=>⟨hi12_1,[[],[0],[0,1],[],[3],.range 5,[],[6],.range 8,[],[9],.range 11,.range 12,.range 13,.range 14],.range 15⟩
  | _=>⟨.nil,[],[]⟩
theorem wJ (i:Nat):hi12.acts i=[]:=rfl
theorem wK (i:Nat):hi12.views i=none:=rfl
attribute [go_sem] wJ wK Tryd.ntmps12 Tryd.results12
@[go_sem] theorem xd:(hi12.draws 1).order=hi12_1:=rfl
theorem eZ {e:GEntry}{res:ByteArray}(h:bj e=some res):aG Tryd.prog 12 [.agg (GEntry.encS e)] [] (.lit (.string res)) []:=by
 refine aP (ra:=[]) (md:=mdT) hT (hi:=hi12) Tryd.func12 rfl rfl (by decide +kernel) (by simp) ?_
 unfold bj at h
 obtain ⟨r01,g1,h⟩:=am h
 simp(config:=cS)only[go_sem]
 refine aq (fO g1) ?_
 obtain ⟨r02,g2,h⟩:=am h
 simp(config:=cS)only[go_sem]
 refine aq (eu g2) ?_
 obtain ⟨r03,g3,h⟩:=am h
 simp(config:=cS)only[go_sem]
 refine aq (eu g3) ?_
 obtain ⟨r04,g4,h⟩:=am h
 simp(config:=cS)only[go_sem]
 refine aq (eu g4) ?_
 obtain ⟨r05,g5,h⟩:=am h
 simp(config:=cS)only[go_sem]
 refine aq (kb g5) ?_
 cases h
 simp(config:=cS)only[go_sem]
def ia (a b:List Int)(i:Int):St:=⟨[(0,.sl (ab eI a)),(1,.sl (ab eI b)),(5,.lit (.int .i64 i))],[],2⟩
attribute [go_sem] ia
@[go_sem] def hi46_6:DT:=.i2 0 (.i2 1 (.i2 2 (.i2 3 (.i2 4 (.i2 5 (.i2 6 (.i2 7 (.i2 8 .nil))))))))
def hi46:Hint where
 acts:=fun _=>[]
 draws:=fun
  | 6=>⟨hi46_6,[[],[],[0,1],[0,1,2],[],[],[4,5],[4,5,6],.range 8],.range 9⟩
  | _=>⟨.nil,[],[]⟩
theorem wL (i:Nat):hi46.acts i=[]:=rfl
theorem wM (i:Nat):hi46.views i=none:=rfl
attribute [go_sem] wL wM Tryd.ntmps46 Tryd.results46
@[go_sem] theorem xe:(hi46.draws 6).order=hi46_6:=rfl
attribute [go_sem] Tryd.ntmps13 Tryd.results13
@[go_sem] def hi3_10:DT:=.i1 0 (.i2 1 (.i0 2 [0] (.i2 3 (.i2 4 .nil))))
def hi3:Hint where
 acts:=fun _=>[]
 draws:=fun
  | 10=>⟨hi3_10,[[],[],[1],[0,1,2],[0,1,2,3]],.range 5⟩
  | _=>⟨.nil,[],[]⟩
theorem hi3a (i:Nat):hi3.acts i=[]:=rfl
theorem hi3v (i:Nat):hi3.views i=none:=rfl
attribute [go_sem] hi3a hi3v Tryd.ntmps3 Tryd.results3
@[go_sem] theorem xf:(hi3.draws 10).order=hi3_10:=rfl
end Go.Proofs.Qf
