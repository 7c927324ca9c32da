/- Functions. -/
import Derived.Test.YtjbpfglekblgbaaDoorZfFK0
set_option linter.all false
set_option maxRecDepth 100000
set_option maxHeartbeats 4000000
namespace Go.Proofs.Qf
open Go
def ew (a:List Int):(Int × Int)→St
 | (b,i)=>⟨[(0,.sl (ab (eK .u8) a)),(3,.lit (.int .i64 b)),(4,.lit (.int .i64 i))],[],2⟩
attribute [go_sem] ew
attribute [go_sem] Tryd.ntmps56 Tryd.results56
theorem nK {code:List Int}{res:GL01Cur}(h:cR code=some res):aG Tryd.prog 56 [.sl (ab (eK .u8) code)] [] (.ptr 20000 1 0 0) [(20000,1,.var [.sl (ab (eK .u8) res.b),.lit (.int .i64 res.i),.lit (.int .i64 res.h)])]:=by
 refine aP (ra:=[]) (md:=mdT) hT (hi:=hi00) Tryd.func56 rfl rfl (by decide +kernel) (by simp) ?_
 unfold cR at h
 obtain ⟨q02,l1,h⟩:=am h
 simp(config:=cS)only[go_sem]
 refine cv (m1:=.mk) (m2:=.mk) [.nf [0,3,4] []] (ew code) l1 ?_ ?_
 ·simp(config:=cS)only[go_sem]
 ·intro nb2 sb2 bb2 b2 gb2
  obtain ⟨v3_1,i_1⟩:=sb2
  unfold bZ at b2
  try dsimp only at b2
  obtain ⟨h3,b2⟩|⟨h3,b2⟩:=au b2
  ·obtain ⟨h4,b2⟩|⟨h4,b2⟩:=au b2
   ·obtain ⟨x01,g5,b2⟩:=am b2
    obtain ⟨h6,h7,h8⟩:=df g5
    cases b2
    simp(config:=cS)only[go_sem,eqT h3,eqT h4,h6,h7,h8]
    refine dO gb2 ?_
    simp(config:=cS)only[go_sem]
   ·cases b2
    obtain rfl:=(cD gb2).symm
    try dsimp only at h
    cases h
    simp(config:=cS)only[go_sem,eqT h3,eqF h4]
  ·cases b2
   obtain rfl:=(cD gb2).symm
   try dsimp only at h
   cases h
   simp(config:=cS)only[go_sem,eqF h3]
@[go_sem] def hi112_4:DT:=.i2 0 (.i2 1 (.i2 2 (.i2 3 (.i2 4 (.i2 5 (.i2 6 (.i2 7 (.i2 8 (.i2 9 (.i2 10 (.i2 11 (.i2 12 (.i2 13 (.i2 14 .nil))))))))))))))
@[go_sem] def hi112_3:DT:=.i2 0 (.i2 1 (.i2 2 (.i2 3 (.i2 4 (.i2 5 (.i2 6 (.i2 7 (.i2 8 (.i2 9 .nil)))))))))
@[go_sem] def hi112_2:DT:=.i2 0 (.i2 1 (.i2 2 (.i2 3 (.i2 4 (.i2 5 (.i2 6 (.i2 7 (.i2 8 (.i2 9 (.i2 10 (.i2 11 (.i2 12 .nil))))))))))))
def jl:Hint where
 acts:=fun _=>[]
 draws:=fun
  | 2=>⟨hi112_2,[[],[0],[0,1],[0,1,2],[0,1,2,3],[],[5],[5,6],[5,6,7],[5,6,7,8],.range 10,.range 11,.range 12],.range 13⟩
  | 3=>⟨hi112_3,[[],[0],[0,1],[0,1,2],[],[4],[4,5],[4,5,6],[4,5,6,7],.range 9],.range 10⟩
  | 4=>⟨hi112_4,[[],[],[1],[1,2],[1,2,3],[],[5],[5,6],[5,6,7],[1,2,3,4,5,6,7,8],[1,2,3,4,5,6,7,8,9],[1,2,3,4,5,6,7,8,9,10],.range 12,.range 13,.range 14],.range 15⟩
  | _=>⟨.nil,[],[]⟩
theorem vR (i:Nat):jl.acts i=[]:=rfl
theorem vS (i:Nat):jl.views i=none:=rfl
attribute [go_sem] vR vS Tryd.ntmps112 Tryd.results112
@[go_sem] theorem wW:(jl.draws 2).order=hi112_2:=rfl
@[go_sem] theorem wX:(jl.draws 3).order=hi112_3:=rfl
@[go_sem] theorem wY:(jl.draws 4).order=hi112_4:=rfl
theorem cE {v0:GL01Cur}{res:Int × GL01Cur}(h:ba v0=some res):aG Tryd.prog 112 [.ptr 10000 0 0 0] [(10000,0,.var [.sl (ab (eK .u8) v0.b),.lit (.int .i64 v0.i),.lit (.int .i64 v0.h)])] (.lit (.int .i64 res.1)) [(10000,0,.var [.sl (ab (eK .u8) res.2.b),.lit (.int .i64 res.2.i),.lit (.int .i64 res.2.h)])]:=by
 refine aP (ra:=[]) (md:=mdT) hT (hi:=jl) Tryd.func112 rfl rfl (by decide +kernel) (by simp) ?_
 unfold ba at h
 obtain ⟨h1,h⟩|⟨h1,h⟩:=au h
 ·obtain ⟨x01,g2,h⟩:=am h
  obtain ⟨h3,h4,h5⟩:=df g2
  cases h
  simp(config:=cS)only[go_sem,eqT h1,h3,h4,h5]
 ·cases h
  simp(config:=cS)only[go_sem,eqF h1]
attribute [go_sem] Tryd.ntmps82 Tryd.results82
theorem cn {v0:GL01Cur}{n:Int}{res:Int × GL01Cur}(h:aV v0 n=some res):aG Tryd.prog 82 [.ptr 10000 0 0 0,.lit (.int .i64 n)] [(10000,0,.var [.sl (ab (eK .u8) v0.b),.lit (.int .i64 v0.i),.lit (.int .i64 v0.h)])] (.lit (.int .i64 res.1)) [(10000,0,.var [.sl (ab (eK .u8) res.2.b),.lit (.int .i64 res.2.i),.lit (.int .i64 res.2.h)])]:=by
 refine aP (ra:=[]) (md:=mdT) hT (hi:=hi00) Tryd.func82 rfl rfl (by decide +kernel) (by simp) ?_
 unfold aV at h
 obtain ⟨h1,h⟩|⟨h1,h⟩:=au h
 ·cases h
  simp(config:=cS)only[go_sem,eqT h1]
 ·obtain ⟨h2,h⟩|⟨h2,h⟩:=au h
  ·obtain ⟨r01,g3,h⟩:=am h
   simp(config:=cS)only[go_sem,eqF h1,eqT h2]
   refine aq (cE g3) ?_
   obtain ⟨h4,h⟩:=aE h
   cases h
   simp(config:=cS)only[go_sem,eqF h4]
  ·obtain ⟨r02,g5,h⟩:=am h
   simp(config:=cS)only[go_sem,eqF h1,eqF h2]
   refine aq (cE g5) ?_
   obtain ⟨r03,g6,h⟩:=am h
   simp(config:=cS)only[go_sem]
   refine aq (cE g6) ?_
   obtain ⟨r04,g7,h⟩:=am h
   simp(config:=cS)only[go_sem]
   refine aq (cE g7) ?_
   obtain ⟨r05,g8,h⟩:=am h
   simp(config:=cS)only[go_sem]
   refine aq (cE g8) ?_
   obtain ⟨h9,h⟩:=aE h
   cases h
   simp(config:=cS)only[go_sem,eqF h9]
attribute [go_sem] Tryd.ntmps83 Tryd.results83
theorem mL {v0:GL01Cur}{n:Int}{res:Bool × GL01Cur}(h:cF v0 n=some res):aG Tryd.prog 83 [.ptr 10000 0 0 0,.lit (.int .i64 n)] [(10000,0,.var [.sl (ab (eK .u8) v0.b),.lit (.int .i64 v0.i),.lit (.int .i64 v0.h)])] (.lit (.bool res.1)) [(10000,0,.var [.sl (ab (eK .u8) res.2.b),.lit (.int .i64 res.2.i),.lit (.int .i64 res.2.h)])]:=by
 refine aP (ra:=[]) (md:=mdT) hT (hi:=hi00) Tryd.func83 rfl rfl (by decide +kernel) (by simp) ?_
 unfold cF at h
 obtain ⟨r01,g1,h⟩:=am h
 simp(config:=cS)only[go_sem]
 refine aq (cn g1) ?_
 cases h
 simp(config:=cS)only[go_sem]
def dQ (f:Int):(Int × (List Int) × Int × Int × (List Int) × (List Int))→St
 | (n,c,d,e,a,b)=>⟨[(0,.ptr 10000 0 0 0),(2,.ptr 128 1 0 0),(3,.ptr 192 1 0 0),(4,.lit (.int .i64 n))],[(10000,0,.var [.sl (ab (eK .u8) c),.lit (.int .i64 d),.lit (.int .i64 e)]),(128,1,.var [.lit (.int .i64 0),.lit (.slice none 0 0),.lit (.slice none 0 0),.lit (.slice none 0 0)]),(192,1,.var [.lit (.int .i64 f),.ref 100012289 1 0 a.length,.ref 100012290 1 0 b.length,.lit (.slice none 0 0)]),(100012289,1,.row true (ab eI a)),(100012290,1,.row true (ab eI b))],2⟩
attribute [go_sem] dQ
@[go_sem] def hi55_6:DT:=.i1 0 (.i1 1 (.i2 2 (.i0 3 [0,1] (.i0 4 [0,1] (.i2 5 (.i2 6 (.i2 7 .nil)))))))
@[go_sem] def hi55_5:DT:=.i1 0 (.i1 1 (.i2 2 (.i0 3 [0,1] (.i0 4 [0,1] (.i2 5 (.i2 6 (.i2 7 .nil)))))))
def hi55:Hint where
 acts:=fun _=>[]
 draws:=fun
  | 5=>⟨hi55_5,[[],[0],[],[2],[2,3],.range 5,.range 6,.range 7],.range 8⟩
  | 6=>⟨hi55_6,[[],[0],[],[2],[2,3],.range 5,.range 6,.range 7],.range 8⟩
  | _=>⟨.nil,[],[]⟩
theorem wD (i:Nat):hi55.acts i=[]:=rfl
theorem wE (i:Nat):hi55.views i=none:=rfl
attribute [go_sem] wD wE Tryd.ntmps55 Tryd.results55
@[go_sem] theorem wZ:(hi55.draws 5).order=hi55_5:=rfl
@[go_sem] theorem xa:(hi55.draws 6).order=hi55_6:=rfl
theorem lK {v0:GL01Cur}{res:GEntry × GL01Cur}(h:cZ v0=some res):aG Tryd.prog 55 [.ptr 10000 0 0 0] [(10000,0,.var [.sl (ab (eK .u8) v0.b),.lit (.int .i64 v0.i),.lit (.int .i64 v0.h)])] (.agg [.lit (.int .i64 res.1.now),.ref 20000 1 0 res.1.ties.length,.ref 20001 1 0 res.1.nodes.length,.ref 20002 1 0 res.1.values.length]) [(10000,0,.var [.sl (ab (eK .u8) res.2.b),.lit (.int .i64 res.2.i),.lit (.int .i64 res.2.h)]),(20000,1,.row true (ab eI res.1.ties)),(20001,1,.row true (ab eI res.1.nodes)),(20002,1,.row true (ab eI res.1.values))]:=by
 refine aP (ra:=[.homeCell 128 1,.homeCell 128 2,.homeCell 128 3]) (md:=mdT) hT (hi:=hi55) Tryd.func55 rfl rfl (by decide +kernel) (by simp) ?_
 unfold cZ at h
 obtain ⟨r01,g1,h⟩:=am h
 simp(config:=cS)only[go_sem]
 refine aq (cn g1) ?_
 obtain ⟨r02,g2,h⟩:=am h
 simp(config:=cS)only[go_sem]
 refine aq (cn g2) ?_
 obtain ⟨q06,l3,h⟩:=am h
 simp(config:=cS)only[go_sem]
 refine cv (m1:=.mk) (m2:=.mk) [.homeCell 192 1,.homeCell 192 2,.nf [0,2,3,4] [10000,128,192,100012289,100012290]] (dQ r01.1) l3 ?_ ?_
 ·simp(config:=cS)only[go_sem]
 ·intro nb4 sb4 bb4 b4 gb4
  obtain ⟨n_1,v0_0_1,v0_1_1,v0_2_1,h100012289_1,h100012290_1⟩:=sb4
  unfold bM at b4
  try dsimp only at b4
  obtain ⟨h5,b4⟩|⟨h5,b4⟩:=au b4
  ·obtain ⟨r03,g6,b4⟩:=am b4
   simp(config:=cS)only[go_sem,eqT h5]
   refine aq (cn g6) ?_
   obtain ⟨h7,b4⟩:=aE b4
   obtain ⟨h8,b4⟩:=aE b4
   obtain ⟨r04,g9,b4⟩:=am b4
   simp(config:=cS)only[go_sem,eqT h7,eqT h8]
   refine aq (cn g9) ?_
   obtain ⟨h10,b4⟩:=aE b4
   obtain ⟨h11,b4⟩:=aE b4
   cases b4
   simp(config:=cS)only[go_sem,eqT h10,eqT h11]
   refine dO gb4 ?_
   simp(config:=cS)only[go_sem]
  ·cases b4
   obtain rfl:=(cD gb4).symm
   try dsimp only at h
   obtain ⟨r05,g13,h⟩:=am h
   simp(config:=cS)only[go_sem,eqF h5]
   refine aq (mL g13) ?_
   obtain ⟨h14,h⟩|⟨h14,h⟩:=au h
   ·cases h
    simp(config:=cS)only[go_sem,eZt h14]
   ·cases h
    simp(config:=cS)only[go_sem,eZf h14]
attribute [go_sem] Tryd.ntmps18 Tryd.results18
theorem kh {code:List Int}{res:GEntry}(h:ca code=some res):aG Tryd.prog 18 [.sl (ab (eK .u8) code)] [] (.agg [.lit (.int .i64 res.now),.ref 20000 1 0 res.ties.length,.ref 20001 1 0 res.nodes.length,.ref 20002 1 0 res.values.length]) [(20000,1,.row true (ab eI res.ties)),(20001,1,.row true (ab eI res.nodes)),(20002,1,.row true (ab eI res.values))]:=by
 refine aP (ra:=[.homeCell 128 1,.homeCell 128 2,.homeCell 128 3]) (md:=mdT) hT (hi:=hi00) Tryd.func18 rfl rfl (by decide +kernel) (by simp) ?_
 unfold ca at h
 obtain ⟨r01,g1,h⟩:=am h
 simp(config:=cS)only[go_sem]
 refine aq (nK g1) ?_
 obtain ⟨r02,g2,h⟩:=am h
 simp(config:=cS)only[go_sem]
 refine aq (lK g2) ?_
 cases h
 simp(config:=cS)only[go_sem]
def dR (s c:ByteArray):(Int × Int × (List ByteArray))→St
 | (a,i,b)=>⟨[(0,.lit (.string s)),(1,.lit (.string c)),(5,.ref 383 1 0 b.length),(6,.lit (.int .i64 a)),(7,.lit (.int .i64 i))],[(383,1,.row true (ab eS b))],2⟩
attribute [go_sem] dR
attribute [go_sem] Tryd.ntmps50 Tryd.results50
theorem gf {s by_:ByteArray}{res:List ByteArray}(h:bO s by_=some res):aG Tryd.prog 50 [.lit (.string s),.lit (.string by_)] [] (.ref 20000 1 0 res.length) [(20000,1,.row true (ab eS res))]:=by
 refine aP (ra:=[.home 4]) (md:=mdT) hT (hi:=hi00) Tryd.func50 rfl rfl (by decide +kernel) (by simp) ?_
 unfold bO at h
 obtain ⟨q03,l1,h⟩:=am h
 simp(config:=cS)only[go_sem]
 refine cv (m1:=.mk) (m2:=.mk) [.home 5,.nf [0,1,5,6,7] [383]] (dR s by_) l1 ?_ ?_
 ·simp(config:=cS)only[go_sem]
 ·intro nb2 sb2 bb2 b2 gb2
  obtain ⟨from__1,i_1,out_1⟩:=sb2
  unfold bL at b2
  try dsimp only at b2
  obtain ⟨h3,b2⟩|⟨h3,b2⟩:=au b2
  ·obtain ⟨c1001,g4,b2⟩:=am b2
   obtain ⟨h5,h6,h7⟩:=ry g4
   obtain ⟨r02,g8,b2⟩:=am b2
   simp(config:=cS)only[go_sem,eqT h3,h5,h6,h7]
   refine aq (ii g8) ?_
   obtain ⟨h9,b2⟩|⟨h9,b2⟩:=au b2
   ·obtain ⟨h10,b2⟩:=aE b2
    obtain ⟨h11,b2⟩:=aE b2
    obtain ⟨h12,b2⟩:=aE b2
    obtain ⟨h13,b2⟩:=aE b2
    obtain ⟨h14,b2⟩:=aE b2
    obtain ⟨h15,b2⟩:=aE b2
    cases b2
    simp(config:=cS)only[go_sem,eqT h9,eqT h10,eqT h11,eqT h12,eqT h13,eqT h14,eqT h15]
    refine dO gb2 ?_
    simp(config:=cS)only[go_sem]
   ·cases b2
    simp(config:=cS)only[go_sem,eqF h9]
    refine dO gb2 ?_
    simp(config:=cS)only[go_sem]
  ·cases b2
   obtain rfl:=(cD gb2).symm
   try dsimp only at h
   obtain ⟨h17,h⟩:=aE h
   obtain ⟨h18,h⟩:=aE h
   obtain ⟨h19,h⟩:=aE h
   obtain ⟨h20,h⟩:=aE h
   cases h
   simp(config:=cS)only[go_sem,eqF h3,eqT h17,eqT h18,eqT h19,eqT h20]
def dS (c:Int)(a:List ByteArray):(Int × (List Int))→St
 | (d,b)=>⟨[(4,.ref 319 1 0 b.length),(12,.ref 768 1 0 a.length),(13,.lit (.int .i64 c)),(14,.lit (.int .i64 d))],[(319,1,.row true (ab eI b)),(768,1,.row true (ab eS a))],2⟩
attribute [go_sem] dS
attribute [go_sem] Tryd.ntmps52 Tryd.results52
theorem er {s:ByteArray}{res:(List Int) × Bool}(h:br s=some res):aG Tryd.prog 52 [.lit (.string s)] [] (.tup [.ref 20000 1 0 res.1.length,.lit (.bool res.2)]) [(20000,1,.row true (ab eI res.1))]:=by
 refine aP (ra:=[.home 2]) (md:=mdT) hT (hi:=hi00) Tryd.func52 rfl rfl (by decide +kernel) (by simp) ?_
 unfold br at h
 obtain ⟨h1,h⟩|⟨h1,h⟩:=au h
 ·cases h
  simp(config:=cS)only[go_sem,eqT h1]
 ·obtain ⟨r01,g2,h⟩:=am h
  simp(config:=cS)only[go_sem,eqF h1]
  refine aq (gf g2) ?_
  obtain ⟨q04,l3,h⟩:=am h
  simp(config:=cS)only[go_sem]
  refine cv (m1:=.mk) (m2:=.mk) [.home 4,.nf [4,12,13,14] [319,768]] (dS ((r01.length:Nat):Int) r01) l3 ?_ ?_
  ·simp(config:=cS)only[go_sem]
  ·intro nb4 sb4 bb4 b4 gb4
   obtain ⟨v14_1,out_1⟩:=sb4
   unfold cp at b4
   try dsimp only at b4
   obtain ⟨h5,b4⟩|⟨h5,b4⟩:=au b4
   ·obtain ⟨x02,g6,b4⟩:=am b4
    obtain ⟨h7,h8,h9⟩:=df g6
    obtain ⟨r03,g10,b4⟩:=am b4
    simp(config:=cS)only[go_sem,eqT h5,h7,h8,h9]
    refine aq (gj g10) ?_
    obtain ⟨h11,b4⟩|⟨h11,b4⟩:=au b4
    ·obtain ⟨h12,b4⟩:=aE b4
     obtain ⟨h13,b4⟩:=aE b4
     cases b4
     simp(config:=cS)only[go_sem,eZt h11,eqT h12,eqT h13]
     refine dO gb4 ?_
     simp(config:=cS)only[go_sem]
    ·cases b4
     obtain rfl:=(cD gb4).symm
     try dsimp only at h
     cases h
     simp(config:=cS)only[go_sem,eZf h11]
   ·cases b4
    obtain rfl:=(cD gb4).symm
    try dsimp only at h
    cases h
    simp(config:=cS)only[go_sem,eqF h5]
attribute [go_sem] Tryd.ntmps15 Tryd.results15
theorem fj {line:ByteArray}{res:GEntry × Bool}(h:bu line=some res):aG Tryd.prog 15 [.lit (.string line)] [] (.tup [.agg [.lit (.int .i64 res.1.now),.ref 20000 1 0 res.1.ties.length,.ref 20001 1 0 res.1.nodes.length,.ref 20002 1 0 res.1.values.length],.lit (.bool res.2)]) [(20000,1,.row true (ab eI res.1.ties)),(20001,1,.row true (ab eI res.1.nodes)),(20002,1,.row true (ab eI res.1.values))]:=by
 refine aP (ra:=[.homeCell 128 1,.homeCell 128 2,.homeCell 128 3]) (md:=mdT) hT (hi:=hi00) Tryd.func15 rfl rfl (by decide +kernel) (by simp) ?_
 unfold bu at h
 obtain ⟨r01,g1,h⟩:=am h
 simp(config:=cS)only[go_sem]
 refine aq (gf g1) ?_
 obtain ⟨h2,h⟩|⟨h2,h⟩:=au h
 ·obtain ⟨x02,g3,h⟩:=am h
  obtain ⟨h5,h6⟩:=fH (k:=0) g3
  obtain ⟨r03,g7,h⟩:=am h
  simp(config:=cS)only[go_sem,eqT h2,h5,h6]
  refine aq (gj g7) ?_
  obtain ⟨x04,g8,h⟩:=am h
  obtain ⟨h10,h11⟩:=fH (k:=1) g8
  obtain ⟨r05,g12,h⟩:=am h
  simp(config:=cS)only[go_sem,h10,h11]
  refine aq (er g12) ?_
  obtain ⟨x06,g13,h⟩:=am h
  obtain ⟨h15,h16⟩:=fH (k:=2) g13
  obtain ⟨r07,g17,h⟩:=am h
  simp(config:=cS)only[go_sem,h15,h16]
  refine aq (er g17) ?_
  obtain ⟨x08,g18,h⟩:=am h
  obtain ⟨h20,h21⟩:=fH (k:=3) g18
  obtain ⟨r09,g22,h⟩:=am h
  simp(config:=cS)only[go_sem,h20,h21]
  refine aq (er g22) ?_
  obtain ⟨h23,h⟩|⟨h23,h⟩:=au h
  ·obtain ⟨h24,h⟩|⟨h24,h⟩:=au h
   ·obtain ⟨h25,h⟩|⟨h25,h⟩:=au h
    ·obtain ⟨h26,h⟩|⟨h26,h⟩:=au h
     ·cases h
      simp(config:=cS)only[go_sem,eZt h23,eZt h24,eZt h25,eZt h26]
     ·cases h
      simp(config:=cS)only[go_sem,eZt h23,eZt h24,eZt h25,eZf h26]
    ·cases h
     simp(config:=cS)only[go_sem,eZt h23,eZt h24,eZf h25]
   ·cases h
    simp(config:=cS)only[go_sem,eZt h23,eZf h24]
  ·cases h
   simp(config:=cS)only[go_sem,eZf h23]
 ·cases h
  simp(config:=cS)only[go_sem,eqF h2]
def di  : (ByteArray × (List GEntry))→St
 | (b,a)=>⟨[(0,.lit (.string b)),(4,.ref 319 1 0 a.length)],[(319,1,.row true (ab GEntry.encO a))],2⟩
attribute [go_sem] di
attribute [go_sem] Tryd.ntmps19 Tryd.results19
theorem iB {text:ByteArray}{res:(List GEntry) × Int}(h:bN text=some res):aG Tryd.prog 19 [.lit (.string text)] [] (.tup [.ref 20000 1 0 res.1.length,.lit (.int .i64 res.2)]) [(20000,1,.row true (ab GEntry.encO res.1))]:=by
 refine aP (ra:=[.home 2]) (md:=mdT) hT (hi:=hi00) Tryd.func19 rfl rfl (by decide +kernel) (by simp) ?_
 unfold bN at h
 obtain ⟨q03,l1,h⟩:=am h
 simp(config:=cS)only[go_sem]
 refine cv (m1:=.mk) (m2:=.mk) [.home 4,.nf [0,4] [319]] (di) l1 ?_ ?_
 ·simp(config:=cS)only[go_sem]
 ·intro nb2 sb2 bb2 b2 gb2
  obtain ⟨text_1,out_1⟩:=sb2
  unfold bQ at b2
  try dsimp only at b2
  obtain ⟨r01,g3,b2⟩:=am b2
  simp(config:=cS)only[go_sem]
  refine aq (nQ g3) ?_
  obtain ⟨h4,b2⟩|⟨h4,b2⟩:=au b2
  ·obtain ⟨r02,g5,b2⟩:=am b2
   simp(config:=cS)only[go_sem,eZt h4]
   refine aq (fj g5) ?_
   obtain ⟨h6,b2⟩|⟨h6,b2⟩:=au b2
   ·obtain ⟨h7,b2⟩:=aE b2
    obtain ⟨h8,b2⟩:=aE b2
    cases b2
    simp(config:=cS)only[go_sem,eZt h6,eqT h7,eqT h8]
    refine dO gb2 ?_
    simp(config:=cS)only[go_sem]
   ·cases b2
    obtain rfl:=(cD gb2).symm
    try dsimp only at h
    cases h
    simp(config:=cS)only[go_sem,eZf h6]
  ·cases b2
   obtain rfl:=(cD gb2).symm
   try dsimp only at h
   cases h
   simp(config:=cS)only[go_sem,eZf h4]
def dT (b a:List Int)(c d:Int):St:=⟨[(1,.sl (ab eI b)),(12,.sl (ab eI a)),(13,.lit (.int .i64 c)),(14,.lit (.int .i64 d))],[],2⟩
attribute [go_sem] dT
attribute [go_sem] Tryd.ntmps20 Tryd.results20
theorem lL {a b:List Int}{res:Bool}(h:cq a b=some res):aG Tryd.prog 20 [.sl (ab eI a),.sl (ab eI b)] [] (.lit (.bool res)) []:=by
 refine aP (ra:=[]) (md:=mdT) hT (hi:=hi00) Tryd.func20 rfl rfl (by decide +kernel) (by simp) ?_
 unfold cq at h
 obtain ⟨h1,h⟩|⟨h1,h⟩:=au h
 ·obtain ⟨q03,l2,h⟩:=am h
  simp(config:=cS)only[go_sem,eqT h1]
  refine cv (m1:=.mk) (m2:=.mk) [.nf [1,12,13,14] []] (dT b a ((a.length:Nat):Int)) l2 ?_ ?_
  ·simp(config:=cS)only[go_sem]
  ·intro nb3 v14_1 bb3 b3 gb3
   unfold bk at b3
   try dsimp only at b3
   obtain ⟨h4,b3⟩|⟨h4,b3⟩:=au b3
   ·obtain ⟨x01,g5,b3⟩:=am b3
    obtain ⟨h6,h7,h8⟩:=df g5
    obtain ⟨x02,g9,b3⟩:=am b3
    obtain ⟨h10,h11,h12⟩:=df g9
    obtain ⟨h13,b3⟩|⟨h13,b3⟩:=au b3
    ·cases b3
     simp(config:=cS)only[go_sem,eqT h4,h6,h7,h8,h10,h11,h12,eqT h13]
     refine dO gb3 ?_
     simp(config:=cS)only[go_sem]
    ·cases b3
     obtain rfl:=(cD gb3).symm
     try dsimp only at h
     cases h
     simp(config:=cS)only[go_sem,eqT h4,h6,h7,h8,h10,h11,h12,eqF h13]
   ·cases b3
    obtain rfl:=(cD gb3).symm
    try dsimp only at h
    cases h
    simp(config:=cS)only[go_sem,eqF h4]
 ·cases h
  simp(config:=cS)only[go_sem,eqF h1]
@[go_sem] def hi5_7:DT:=.i2 0 (.i2 1 (.i2 2 (.i2 4 (.i2 3 (.i2 5 (.i2 6 (.i2 7 (.i2 8 (.i2 9 (.i2 10 (.i2 11 (.i2 12 (.i2 13 (.i2 14 (.i2 15 (.i2 16 (.i2 17 (.i2 18 (.i2 19 (.i2 20 (.i2 21 (.i2 22 (.i2 23 (.i2 24 (.i2 25 (.i2 26 (.i2 27 (.i2 28 (.i2 29 (.i2 30 (.i2 31 (.i2 32 .nil))))))))))))))))))))))))))))))))
def hi5:Hint where
 acts:=fun i=>match i with | 7=>[.freeze [1664]] | _=>[]
 draws:=fun
  | 7=>⟨hi5_7,[[],[0],[0,1],[0,1,2],[0,1],.range 5,.range 6,.range 7,.range 8,.range 9,.range 8,[0,1,2,3,4,5,6,7,10],.range 12,.range 13,.range 14,.range 15,.range 16,.range 17,.range 18,.range 19,.range 20,.range 21,.range 22,.range 23,.range 24,.range 25,.range 26,.range 27,.range 24,[0,1,2,3,4,5,6,7,8,9,10,11,12,13,14,15,16,17,18,19,20,21,22,23,28],.range 30,.range 31,.range 32],.range 33⟩
  | _=>⟨.nil,[],[]⟩
@[go_sem] theorem xm:hi5.acts 0=[]:=rfl
@[go_sem] theorem xn:hi5.acts 1=[]:=rfl
@[go_sem] theorem xo:hi5.acts 2=[]:=rfl
@[go_sem] theorem xp:hi5.acts 3=[]:=rfl
@[go_sem] theorem xq:hi5.acts 4=[]:=rfl
@[go_sem] theorem xr:hi5.acts 5=[]:=rfl
@[go_sem] theorem xt:hi5.acts 6=[]:=rfl
@[go_sem] theorem xu:hi5.acts 7=[.freeze [1664]]:=rfl
theorem hi5v (i:Nat):hi5.views i=none:=rfl
attribute [go_sem] hi5v Tryd.ntmps5 Tryd.results5
@[go_sem] theorem xv:(hi5.draws 7).order=hi5_7:=rfl
theorem ki {code:List Int}{res:Bool}(h:cM code=some res):aG Tryd.prog 5 [.sl (ab (eK .u8) code)] [] (.lit (.bool res)) []:=by
 refine aP (ra:=[]) (md:=mdT) hT (hi:=hi5) Tryd.func5 rfl rfl (by decide +kernel) (by simp) ?_
 unfold cM at h
 obtain ⟨h1,h⟩|⟨h1,h⟩:=au h
 ·cases h
  simp(config:=cS)only[go_sem,eqT h1]
 ·obtain ⟨r01,g2,h⟩:=am h
  simp(config:=cS)only[go_sem,eqF h1]
  refine aq (kh g2) ?_
  obtain ⟨r02,g3,h⟩:=am h
  simp(config:=cS)only[go_sem,eqF h1]
  refine aq (eZ g3) ?_
  obtain ⟨r03,g4,h⟩:=am h
  simp(config:=cS)only[go_sem,eqF h1]
  refine aq (fj g4) ?_
  obtain ⟨h5,h⟩:=aE h
  obtain ⟨h6,h⟩:=aE h
  try simp(config:=cS)only[go_sem] at h6
  obtain ⟨r04,g7,h⟩:=am h
  simp(config:=cS)only[go_sem,eqF h1,eqT h5,eqT h6]
  refine aq (iB g7) ?_
  obtain ⟨h8,h⟩|⟨h8,h⟩:=au h
  ·obtain ⟨r05,g9,h⟩:=am h
   simp(config:=cS)only[go_sem,eqF h1,eqT h5,eqT h6,eZt h8]
   refine aq (eZ g9) ?_
   obtain ⟨h10,h⟩|⟨h10,h⟩:=au h
   ·obtain ⟨h11,h⟩|⟨h11,h⟩:=au h
    ·obtain ⟨h12,h⟩|⟨h12,h⟩:=au h
     ·obtain ⟨h13,h⟩|⟨h13,h⟩:=au h
      ·obtain ⟨x06,g14,h⟩:=am h
       obtain ⟨h16,h17⟩:=fH (k:=0) g14
       obtain ⟨r07,g18,h⟩:=am h
       simp(config:=cS)only[go_sem,eqF h1,eqT h5,eqT h6,eZt h8,eqT h10,eqT h11,eqT h12,eqT h13,h16,h17]
       refine aq (lL g18) ?_
       cases h
       simp(config:=cS)only[go_sem,eqF h1,eqT h5,eqT h6,eZt h8,eqT h10,eqT h11,eqT h12,eqT h13,h16,h17]
      ·cases h
       simp(config:=cS)only[go_sem,eqF h1,eqT h5,eqT h6,eZt h8,eqT h10,eqT h11,eqT h12,eqF h13]
     ·cases h
      simp(config:=cS)only[go_sem,eqF h1,eqT h5,eqT h6,eZt h8,eqT h10,eqT h11,eqF h12]
    ·cases h
     simp(config:=cS)only[go_sem,eqF h1,eqT h5,eqT h6,eZt h8,eqT h10,eqF h11]
   ·cases h
    simp(config:=cS)only[go_sem,eqF h1,eqT h5,eqT h6,eZt h8,eqF h10]
  ·cases h
   simp(config:=cS)only[go_sem,eqF h1,eqT h5,eqT h6,eZf h8]
end Go.Proofs.Qf
