/- Functions. -/
import Derived.Test.YtjbpfglekblgbaaDoorZdFK0
set_option linter.all false
set_option maxRecDepth 100000
set_option maxHeartbeats 4000000
namespace Go.Proofs.Qd
open Go
attribute [go_sem] Tryd.ntmps85 Tryd.results85
theorem rD {a:GNode}{left res:Int}(h:eX a left=some res):ar Tryd.prog 85 [.agg (GNode.encS a),.lit (.int .i64 left)] [] (.lit (.int .i64 res)) []:=by
 refine ao (ra:=[]) (md:=mdT) hT (hi:=hi00) Tryd.func85 rfl rfl (by decide +kernel) (by simp) ?_
 unfold eX at h
 obtain ⟨h1,h⟩|⟨h1,h⟩:=af h
 ·cases h
  simp(config:=cS)only[go_sem,eqT h1]
 ·obtain ⟨r01,g2,h⟩:=ae h
  simp(config:=cS)only[go_sem,eqF h1]
  refine ah (rP g2) ?_
  obtain ⟨h3,h⟩|⟨h3,h⟩:=af h
  ·cases h
   simp(config:=cS)only[go_sem,eqT h3]
  ·cases h
   simp(config:=cS)only[go_sem,eqF h3]
def hP (a:List GNode):(Int × Int)→St
 | (b,i)=>⟨[(0,.sl (ab GNode.encS a)),(1,.lit (.int .i64 b)),(5,.lit (.int .i64 i))],[],2⟩
attribute [go_sem] hP
attribute [go_sem] Tryd.ntmps58 Tryd.results58
theorem qw {a:List GNode}{left res:Int}(h:eu a left=some res):ar Tryd.prog 58 [.sl (ab GNode.encS a),.lit (.int .i64 left)] [] (.lit (.int .i64 res)) []:=by
 refine ao (ra:=[]) (md:=mdT) hT (hi:=hi00) Tryd.func58 rfl rfl (by decide +kernel) (by simp) ?_
 unfold eu at h
 obtain ⟨h1,h⟩|⟨h1,h⟩:=af h
 ·cases h
  simp(config:=cS)only[go_sem,eqT h1]
 ·obtain ⟨q03,l2,h⟩:=ae h
  simp(config:=cS)only[go_sem,eqF h1]
  refine aw (m1:=.mk) (m2:=.mk) [.nf [0,1,5] []] (hP a) l2 ?_ ?_
  ·simp(config:=cS)only[go_sem]
  ·intro nb3 sb3 bb3 b3 gb3
   obtain ⟨left_1,i_1⟩:=sb3
   unfold dt at b3
   try dsimp only at b3
   obtain ⟨h4,b3⟩|⟨h4,b3⟩:=af b3
   ·obtain ⟨x01,g5,b3⟩:=ae b3
    obtain ⟨h6,h7,h8⟩:=an g5
    obtain ⟨r02,g9,b3⟩:=ae b3
    simp(config:=cS)only[go_sem,eqT h4,h6,h7,h8]
    refine ah (rD g9) ?_
    obtain ⟨h10,b3⟩|⟨h10,b3⟩:=af b3
    ·cases b3
     obtain rfl:=(al gb3).symm
     try dsimp only at h
     cases h
     simp(config:=cS)only[go_sem,eqT h10]
    ·cases b3
     simp(config:=cS)only[go_sem,eqF h10]
     refine aA gb3 ?_
     simp(config:=cS)only[go_sem]
   ·cases b3
    obtain rfl:=(al gb3).symm
    try dsimp only at h
    cases h
    simp(config:=cS)only[go_sem,eqF h4]
attribute [go_sem] Tryd.ntmps59 Tryd.results59
theorem rE {a:List GTie}{left res:Int}(h:eY a left=some res):ar Tryd.prog 59 [.sl (ab GTie.enc a),.lit (.int .i64 left)] [] (.lit (.int .i64 res)) []:=by
 refine ao (ra:=[]) (md:=mdT) hT (hi:=hi00) Tryd.func59 rfl rfl (by decide +kernel) (by simp) ?_
 unfold eY at h
 obtain ⟨h1,h⟩|⟨h1,h⟩:=af h
 ·cases h
  simp(config:=cS)only[go_sem,eqT h1]
 ·cases h
  simp(config:=cS)only[go_sem,eqF h1]
attribute [go_sem] Tryd.ntmps21 Tryd.results21
theorem lf {a:GShow}{left res:Int}(h:cF a left=some res):ar Tryd.prog 21 [.agg (GShow.encS a),.lit (.int .i64 left)] [] (.lit (.int .i64 res)) []:=by
 refine ao (ra:=[]) (md:=mdT) hT (hi:=hi00) Tryd.func21 rfl rfl (by decide +kernel) (by simp) ?_
 unfold cF at h
 obtain ⟨r01,g1,h⟩:=ae h
 simp(config:=cS)only[go_sem]
 refine ah (qw g1) ?_
 obtain ⟨h2,h⟩|⟨h2,h⟩:=af h
 ·cases h
  simp(config:=cS)only[go_sem,eqT h2]
 ·obtain ⟨r02,g3,h⟩:=ae h
  simp(config:=cS)only[go_sem,eqF h2]
  refine ah (rE g3) ?_
  obtain ⟨h4,h⟩|⟨h4,h⟩:=af h
  ·cases h
   simp(config:=cS)only[go_sem,eqT h4]
  ·cases h
   simp(config:=cS)only[go_sem,eqF h4]
attribute [go_sem] Tryd.ntmps89 Tryd.results89
theorem rG {a res:GNode}(h:eZ a=some res):ar Tryd.prog 89 [.agg (GNode.encS a)] [] (.agg [.lit (.string res.name),.ref 20000 1 0 res.label.length,.lit (.int .i64 res.watch)]) [(20000,1,.row true (ab eI res.label))]:=by
 refine ao (ra:=[.homeCell 128 1]) (md:=mdT) hT (hi:=hi00) Tryd.func89 rfl rfl (by decide +kernel) (by simp) ?_
 unfold eZ at h
 obtain ⟨r01,g1,h⟩:=ae h
 simp(config:=cS)only[go_sem]
 refine ah (rQ g1) ?_
 cases h
 simp(config:=cS)only[go_sem]
def hU (a:List GNode):(Int × (List GNode))→St
 | (i,b)=>⟨[(0,.sl (ab GNode.encS a)),(3,.ref 448 1 0 b.length),(4,.lit (.int .i64 i))],[(448,1,.row true (ab GNode.encO b))],2⟩
attribute [go_sem] hU
attribute [go_sem] Tryd.ntmps61 Tryd.results61
theorem qx {a res:List GNode}(h:ev a=some res):ar Tryd.prog 61 [.sl (ab GNode.encS a)] [] (.ref 20000 1 0 res.length) [(20000,1,.row true (ab GNode.encO res))]:=by
 refine ao (ra:=[.home 2]) (md:=mdT) hT (hi:=hi00) Tryd.func61 rfl rfl (by decide +kernel) (by simp) ?_
 unfold ev at h
 obtain ⟨h1,h⟩:=aE h
 obtain ⟨h2,h⟩:=aE h
 obtain ⟨q04,l3,h⟩:=ae h
 simp(config:=cS)only[go_sem,eqT h1,eqT h2]
 refine aw (m1:=.mk) (m2:=.mk) [.nf [0,3,4] [448]] (hU a) l3 ?_ ?_
 ·simp(config:=cS)only[go_sem]
 ·intro nb4 sb4 bb4 b4 gb4
  obtain ⟨i_1,out_1⟩:=sb4
  unfold du at b4
  try dsimp only at b4
  obtain ⟨h5,b4⟩|⟨h5,b4⟩:=af b4
  ·obtain ⟨x01,g6,b4⟩:=ae b4
   obtain ⟨h7,h8,h9⟩:=an g6
   obtain ⟨r02,g10,b4⟩:=ae b4
   simp(config:=cS)only[go_sem,eqT h5,h7,h8,h9]
   refine ah (rG g10) ?_
   obtain ⟨x03,g11,b4⟩:=ae b4
   obtain ⟨h12,h13,h14⟩:=an g11
   cases b4
   simp(config:=cS)only[go_sem,h12,h13,h14]
   refine aA gb4 ?_
   simp(config:=cS)only[go_sem]
  ·cases b4
   obtain rfl:=(al gb4).symm
   try dsimp only at h
   cases h
   simp(config:=cS)only[go_sem,eqF h5]
attribute [go_sem] Tryd.ntmps90 Tryd.results90
theorem sY {a res:GTie}(h:ij a=some res):ar Tryd.prog 90 [.agg (GTie.enc a)] [] (.agg (GTie.enc res)) []:=by
 refine ao (ra:=[]) (md:=mdT) hT (hi:=hi00) Tryd.func90 rfl rfl (by decide +kernel) (by simp) ?_
 unfold ij at h
 cases h
 simp(config:=cS)only[go_sem]
def io (a:List GTie):(Int × (List GTie))→St
 | (i,b)=>⟨[(0,.sl (ab GTie.enc a)),(3,.ref 448 1 0 b.length),(4,.lit (.int .i64 i))],[(448,1,.row true (ab GTie.enc b))],2⟩
attribute [go_sem] io
attribute [go_sem] Tryd.ntmps62 Tryd.results62
theorem rH {a res:List GTie}(h:fa a=some res):ar Tryd.prog 62 [.sl (ab GTie.enc a)] [] (.ref 20000 1 0 res.length) [(20000,1,.row true (ab GTie.enc res))]:=by
 refine ao (ra:=[.home 2]) (md:=mdT) hT (hi:=hi00) Tryd.func62 rfl rfl (by decide +kernel) (by simp) ?_
 unfold fa at h
 obtain ⟨h1,h⟩:=aE h
 obtain ⟨h2,h⟩:=aE h
 obtain ⟨q04,l3,h⟩:=ae h
 simp(config:=cS)only[go_sem,eqT h1,eqT h2]
 refine aw (m1:=.mk) (m2:=.mk) [.nf [0,3,4] [448]] (io a) l3 ?_ ?_
 ·simp(config:=cS)only[go_sem]
 ·intro nb4 sb4 bb4 b4 gb4
  obtain ⟨i_1,out_1⟩:=sb4
  unfold dG at b4
  try dsimp only at b4
  obtain ⟨h5,b4⟩|⟨h5,b4⟩:=af b4
  ·obtain ⟨x01,g6,b4⟩:=ae b4
   obtain ⟨h7,h8,h9⟩:=an g6
   obtain ⟨r02,g10,b4⟩:=ae b4
   simp(config:=cS)only[go_sem,eqT h5,h7,h8,h9]
   refine ah (sY g10) ?_
   obtain ⟨x03,g11,b4⟩:=ae b4
   obtain ⟨h12,h13,h14⟩:=an g11
   cases b4
   simp(config:=cS)only[go_sem,h12,h13,h14]
   refine aA gb4 ?_
   simp(config:=cS)only[go_sem]
  ·cases b4
   obtain rfl:=(al gb4).symm
   try dsimp only at h
   cases h
   simp(config:=cS)only[go_sem,eqF h5]
attribute [go_sem] Tryd.ntmps23 Tryd.results23
theorem cE {a res:GShow}(h:bb a=some res):ar Tryd.prog 23 [.agg (GShow.encS a)] [] (.agg [.ref 20000 1 0 res.nodes.length,.ref 20001 1 0 res.ties.length,.lit (.int .i64 res.horizon)]) [(20000,1,.row true (ab GNode.encO res.nodes)),(20001,1,.row true (ab GTie.enc res.ties))]:=by
 refine ao (ra:=[.homeCell 128 0,.homeCell 128 1]) (md:=mdT) hT (hi:=hi00) Tryd.func23 rfl rfl (by decide +kernel) (by simp) ?_
 unfold bb at h
 obtain ⟨r01,g1,h⟩:=ae h
 simp(config:=cS)only[go_sem]
 refine ah (qx g1) ?_
 obtain ⟨r02,g2,h⟩:=ae h
 simp(config:=cS)only[go_sem]
 refine ah (rH g2) ?_
 cases h
 simp(config:=cS)only[go_sem]
attribute [go_sem] Tryd.ntmps87 Tryd.results87
theorem dE {n lo hi:Int}{res:Bool}(h:bz n lo hi=some res):ar Tryd.prog 87 [.lit (.int .i64 n),.lit (.int .i64 lo),.lit (.int .i64 hi)] [] (.lit (.bool res)) []:=by
 refine ao (ra:=[]) (md:=mdT) hT (hi:=hi00) Tryd.func87 rfl rfl (by decide +kernel) (by simp) ?_
 unfold bz at h
 obtain ⟨h1,h⟩|⟨h1,h⟩:=af h
 ·cases h
  simp(config:=cS)only[go_sem,eqT h1]
 ·cases h
  simp(config:=cS)only[go_sem,eqF h1]
def ip (s:ByteArray)(i:Int):St:=⟨[(0,.lit (.string s)),(3,.lit (.int .i64 i))],[],2⟩
attribute [go_sem] ip
attribute [go_sem] Tryd.ntmps143 Tryd.results143
theorem rI {s:ByteArray}{res:Bool}(h:fb s=some res):ar Tryd.prog 143 [.lit (.string s)] [] (.lit (.bool res)) []:=by
 refine ao (ra:=[]) (md:=mdT) hT (hi:=hi00) Tryd.func143 rfl rfl (by decide +kernel) (by simp) ?_
 unfold fb at h
 obtain ⟨q03,l1,h⟩:=ae h
 simp(config:=cS)only[go_sem]
 refine aw (m1:=.mk) (m2:=.mk) [.nf [0,3] []] (ip s) l1 ?_ ?_
 ·simp(config:=cS)only[go_sem]
 ·intro nb2 i_1 bb2 b2 gb2
  unfold cU at b2
  try dsimp only at b2
  obtain ⟨h3,b2⟩|⟨h3,b2⟩:=af b2
  ·obtain ⟨c1001,g4,b2⟩:=ae b2
   obtain ⟨h5,h6,h7⟩:=rg g4
   obtain ⟨h8,b2⟩|⟨h8,b2⟩:=af b2
   ·obtain ⟨h9,b2⟩|⟨h9,b2⟩:=af b2
    ·cases b2
     simp(config:=cS)only[go_sem,eqT h3,h5,h6,h7,eqT h8,eqT h9]
     refine aA gb2 ?_
     simp(config:=cS)only[go_sem]
    ·obtain ⟨h10,b2⟩|⟨h10,b2⟩:=af b2
     ·cases b2
      obtain rfl:=(al gb2).symm
      try dsimp only at h
      cases h
      simp(config:=cS)only[go_sem,eqT h3,h5,h6,h7,eqT h8,eqF h9,eqT h10]
     ·obtain ⟨h12,b2⟩|⟨h12,b2⟩:=af b2
      ·cases b2
       obtain rfl:=(al gb2).symm
       try dsimp only at h
       cases h
       simp(config:=cS)only[go_sem,eqT h3,h5,h6,h7,eqT h8,eqF h9,eqF h10,eqT h12]
      ·obtain ⟨h14,b2⟩|⟨h14,b2⟩:=af b2
       ·cases b2
        obtain rfl:=(al gb2).symm
        try dsimp only at h
        cases h
        simp(config:=cS)only[go_sem,eqT h3,h5,h6,h7,eqT h8,eqF h9,eqF h10,eqF h12,eqT h14]
       ·cases b2
        simp(config:=cS)only[go_sem,eqT h3,h5,h6,h7,eqT h8,eqF h9,eqF h10,eqF h12,eqF h14]
        refine aA gb2 ?_
        simp(config:=cS)only[go_sem]
   ·obtain ⟨h16,b2⟩|⟨h16,b2⟩:=af b2
    ·cases b2
     obtain rfl:=(al gb2).symm
     try dsimp only at h
     cases h
     simp(config:=cS)only[go_sem,eqT h3,h5,h6,h7,eqF h8,eqT h16]
    ·obtain ⟨h18,b2⟩|⟨h18,b2⟩:=af b2
     ·cases b2
      obtain rfl:=(al gb2).symm
      try dsimp only at h
      cases h
      simp(config:=cS)only[go_sem,eqT h3,h5,h6,h7,eqF h8,eqF h16,eqT h18]
     ·obtain ⟨h20,b2⟩|⟨h20,b2⟩:=af b2
      ·cases b2
       obtain rfl:=(al gb2).symm
       try dsimp only at h
       cases h
       simp(config:=cS)only[go_sem,eqT h3,h5,h6,h7,eqF h8,eqF h16,eqF h18,eqT h20]
      ·cases b2
       simp(config:=cS)only[go_sem,eqT h3,h5,h6,h7,eqF h8,eqF h16,eqF h18,eqF h20]
       refine aA gb2 ?_
       simp(config:=cS)only[go_sem]
  ·cases b2
   obtain rfl:=(al gb2).symm
   try dsimp only at h
   obtain ⟨r02,g23,h⟩:=ae h
   simp(config:=cS)only[go_sem,eqF h3]
   refine ah (dE g23) ?_
   cases h
   simp(config:=cS)only[go_sem]
attribute [go_sem] Tryd.ntmps101 Tryd.results101
theorem iG {n res:Int}(h:bZ n=some res):ar Tryd.prog 101 [.lit (.int .i64 n)] [] (.lit (.int .i64 res)) []:=by
 refine ao (ra:=[]) (md:=mdT) hT (hi:=hi00) Tryd.func101 rfl rfl (by decide +kernel) (by simp) ?_
 unfold bZ at h
 obtain ⟨h1,h⟩|⟨h1,h⟩:=af h
 ·cases h
  simp(config:=cS)only[go_sem,eqT h1]
 ·cases h
  simp(config:=cS)only[go_sem,eqF h1]
def hY (l:List Int)(a b:Int):St:=⟨[(0,.sl (ab eI l)),(5,.sl (ab eI l)),(6,.lit (.int .i64 a)),(7,.lit (.int .i64 b))],[],2⟩
attribute [go_sem] hY
attribute [go_sem] Tryd.ntmps100 Tryd.results100
theorem iH {l:List Int}{res:Bool}(h:cV l=some res):ar Tryd.prog 100 [.sl (ab eI l)] [] (.lit (.bool res)) []:=by
 refine ao (ra:=[]) (md:=mdT) hT (hi:=hi00) Tryd.func100 rfl rfl (by decide +kernel) (by simp) ?_
 unfold cV at h
 obtain ⟨q06,l1,h⟩:=ae h
 simp(config:=cS)only[go_sem]
 refine aw (m1:=.mk) (m2:=.mk) [.nf [0,5,6,7] []] (hY l ((l.length:Nat):Int)) l1 ?_ ?_
 ·simp(config:=cS)only[go_sem]
 ·intro nb2 v7_1 bb2 b2 gb2
  unfold cw at b2
  try dsimp only at b2
  obtain ⟨h3,b2⟩|⟨h3,b2⟩:=af b2
  ·obtain ⟨x01,g4,b2⟩:=ae b2
   obtain ⟨h5,h6,h7⟩:=an g4
   obtain ⟨h8,b2⟩|⟨h8,b2⟩:=af b2
   ·cases b2
    obtain rfl:=(al gb2).symm
    try dsimp only at h
    cases h
    simp(config:=cS)only[go_sem,eqT h3,h5,h6,h7,eqT h8]
   ·obtain ⟨r02,g10,b2⟩:=ae b2
    simp(config:=cS)only[go_sem,eqT h3,h5,h6,h7,eqF h8]
    refine ah (dE g10) ?_
    obtain ⟨h11,b2⟩|⟨h11,b2⟩:=af b2
    ·obtain ⟨h12,b2⟩|⟨h12,b2⟩:=af b2
     ·obtain ⟨x03,g13,b2⟩:=ae b2
      obtain ⟨h14,h15,h16⟩:=an g13
      obtain ⟨r04,g17,b2⟩:=ae b2
      simp(config:=cS)only[go_sem,eqT h3,h5,h6,h7,eqF h8,eZt h11,eqT h12,h14,h15,h16]
      refine ah (iG g17) ?_
      obtain ⟨r05,g18,b2⟩:=ae b2
      simp(config:=cS)only[go_sem,eqT h3,h5,h6,h7,eqF h8,eZt h11,eqT h12,h14,h15,h16]
      refine ah (iG g18) ?_
      obtain ⟨h19,b2⟩|⟨h19,b2⟩:=af b2
      ·cases b2
       obtain rfl:=(al gb2).symm
       try dsimp only at h
       cases h
       simp(config:=cS)only[go_sem,eqT h3,h5,h6,h7,eqF h8,eZt h11,eqT h12,h14,h15,h16,eqT h19]
      ·cases b2
       simp(config:=cS)only[go_sem,eqT h3,h5,h6,h7,eqF h8,eZt h11,eqT h12,h14,h15,h16,eqF h19]
       refine aA gb2 ?_
       simp(config:=cS)only[go_sem,eqT h3,h5,h6,h7,eqF h8,eZt h11,eqT h12,h14,h15,h16,eqF h19]
     ·cases b2
      simp(config:=cS)only[go_sem,eqT h3,h5,h6,h7,eqF h8,eZt h11,eqF h12]
      refine aA gb2 ?_
      simp(config:=cS)only[go_sem,eqT h3,h5,h6,h7,eqF h8,eZt h11,eqF h12]
    ·cases b2
     obtain rfl:=(al gb2).symm
     try dsimp only at h
     cases h
     simp(config:=cS)only[go_sem,eqT h3,h5,h6,h7,eqF h8,eZf h11]
  ·cases b2
   obtain rfl:=(al gb2).symm
   try dsimp only at h
   cases h
   simp(config:=cS)only[go_sem,eqF h3]
attribute [go_sem] Tryd.ntmps114 Tryd.results114
theorem rJ {n:GNode}{res:Bool}(h:fc n=some res):ar Tryd.prog 114 [.agg (GNode.encS n)] [] (.lit (.bool res)) []:=by
 refine ao (ra:=[]) (md:=mdT) hT (hi:=hi00) Tryd.func114 rfl rfl (by decide +kernel) (by simp) ?_
 unfold fc at h
 obtain ⟨r01,g1,h⟩:=ae h
 simp(config:=cS)only[go_sem]
 refine ah (rI g1) ?_
 obtain ⟨h2,h⟩|⟨h2,h⟩:=af h
 ·obtain ⟨r02,g3,h⟩:=ae h
  simp(config:=cS)only[go_sem,eZt h2]
  refine ah (iH g3) ?_
  obtain ⟨h4,h⟩|⟨h4,h⟩:=af h
  ·obtain ⟨r03,g5,h⟩:=ae h
   simp(config:=cS)only[go_sem,eZt h2,eZt h4]
   refine ah (dE g5) ?_
   cases h
   simp(config:=cS)only[go_sem,eZt h2,eZt h4]
  ·cases h
   simp(config:=cS)only[go_sem,eZt h2,eZf h4]
 ·cases h
  simp(config:=cS)only[go_sem,eZf h2]
def gd (a:ByteArray)(c:List GNode)(d b:Int):St:=⟨[(1,.lit (.string a)),(8,.sl (ab GNode.encS c)),(9,.lit (.int .i64 d)),(10,.lit (.int .i64 b))],[],2⟩
attribute [go_sem] gd
attribute [go_sem] Tryd.ntmps115 Tryd.results115
theorem nU {s:GShow}{name:ByteArray}{res:Int}(h:dH s name=some res):ar Tryd.prog 115 [.agg (GShow.encS s),.lit (.string name)] [] (.lit (.int .i64 res)) []:=by
 refine ao (ra:=[]) (md:=mdT) hT (hi:=hi00) Tryd.func115 rfl rfl (by decide +kernel) (by simp) ?_
 unfold dH at h
 obtain ⟨q02,l1,h⟩:=ae h
 simp(config:=cS)only[go_sem]
 refine aw (m1:=.mk) (m2:=.mk) [.nf [1,8,9,10] []] (gd name s.nodes ((s.nodes.length:Nat):Int)) l1 ?_ ?_
 ·simp(config:=cS)only[go_sem]
 ·intro nb2 v10_1 bb2 b2 gb2
  unfold bO at b2
  try dsimp only at b2
  obtain ⟨h3,b2⟩|⟨h3,b2⟩:=af b2
  ·obtain ⟨x01,g4,b2⟩:=ae b2
   obtain ⟨h5,h6,h7⟩:=an g4
   obtain ⟨h8,b2⟩|⟨h8,b2⟩:=af b2
   ·cases b2
    obtain rfl:=(al gb2).symm
    try dsimp only at h
    cases h
    simp(config:=cS)only[go_sem,eqT h3,h5,h6,h7,eqT h8]
   ·cases b2
    simp(config:=cS)only[go_sem,eqT h3,h5,h6,h7,eqF h8]
    refine aA gb2 ?_
    simp(config:=cS)only[go_sem]
  ·cases b2
   obtain rfl:=(al gb2).symm
   try dsimp only at h
   cases h
   simp(config:=cS)only[go_sem,eqF h3]
def fW (p:Int)(b:List GNode)(c a:Int):St:=⟨[(1,.lit (.int .i64 p)),(8,.sl (ab GNode.encS b)),(9,.lit (.int .i64 c)),(10,.lit (.int .i64 a))],[],2⟩
attribute [go_sem] fW
attribute [go_sem] Tryd.ntmps99 Tryd.results99
theorem jk {s:GShow}{p res:Int}(h:bK s p=some res):ar Tryd.prog 99 [.agg (GShow.encS s),.lit (.int .i64 p)] [] (.lit (.int .i64 res)) []:=by
 refine ao (ra:=[]) (md:=mdT) hT (hi:=hi00) Tryd.func99 rfl rfl (by decide +kernel) (by simp) ?_
 unfold bK at h
 obtain ⟨q02,l1,h⟩:=ae h
 simp(config:=cS)only[go_sem]
 refine aw (m1:=.mk) (m2:=.mk) [.nf [1,8,9,10] []] (fW p s.nodes ((s.nodes.length:Nat):Int)) l1 ?_ ?_
 ·simp(config:=cS)only[go_sem]
 ·intro nb2 v10_1 bb2 b2 gb2
  unfold bE at b2
  try dsimp only at b2
  obtain ⟨h3,b2⟩|⟨h3,b2⟩:=af b2
  ·obtain ⟨x01,g4,b2⟩:=ae b2
   obtain ⟨h5,h6,h7⟩:=an g4
   obtain ⟨h8,b2⟩|⟨h8,b2⟩:=af b2
   ·cases b2
    obtain rfl:=(al gb2).symm
    try dsimp only at h
    cases h
    simp(config:=cS)only[go_sem,eqT h3,h5,h6,h7,eqT h8]
   ·cases b2
    simp(config:=cS)only[go_sem,eqT h3,h5,h6,h7,eqF h8]
    refine aA gb2 ?_
    simp(config:=cS)only[go_sem]
  ·cases b2
   obtain rfl:=(al gb2).symm
   try dsimp only at h
   cases h
   simp(config:=cS)only[go_sem,eqF h3]
def iq (n:Int)(a:List Int)(b c:Int):St:=⟨[(1,.lit (.int .i64 n)),(7,.sl (ab eI a)),(8,.lit (.int .i64 b)),(9,.lit (.int .i64 c))],[],2⟩
attribute [go_sem] iq
attribute [go_sem] Tryd.ntmps116 Tryd.results116
theorem jh {l:List Int}{n:Int}{res:Bool}(h:bU l n=some res):ar Tryd.prog 116 [.sl (ab eI l),.lit (.int .i64 n)] [] (.lit (.bool res)) []:=by
 refine ao (ra:=[]) (md:=mdT) hT (hi:=hi00) Tryd.func116 rfl rfl (by decide +kernel) (by simp) ?_
 unfold bU at h
 obtain ⟨q02,l1,h⟩:=ae h
 simp(config:=cS)only[go_sem]
 refine aw (m1:=.mk) (m2:=.mk) [.nf [1,7,8,9] []] (iq n l ((l.length:Nat):Int)) l1 ?_ ?_
 ·simp(config:=cS)only[go_sem]
 ·intro nb2 v9_1 bb2 b2 gb2
  unfold cW at b2
  try dsimp only at b2
  obtain ⟨h3,b2⟩|⟨h3,b2⟩:=af b2
  ·obtain ⟨x01,g4,b2⟩:=ae b2
   obtain ⟨h5,h6,h7⟩:=an g4
   obtain ⟨h8,b2⟩|⟨h8,b2⟩:=af b2
   ·cases b2
    obtain rfl:=(al gb2).symm
    try dsimp only at h
    cases h
    simp(config:=cS)only[go_sem,eqT h3,h5,h6,h7,eqT h8]
   ·cases b2
    simp(config:=cS)only[go_sem,eqT h3,h5,h6,h7,eqF h8]
    refine aA gb2 ?_
    simp(config:=cS)only[go_sem]
  ·cases b2
   obtain rfl:=(al gb2).symm
   try dsimp only at h
   cases h
   simp(config:=cS)only[go_sem,eqF h3]
def fy (a b:List Int)(c d:Int):St:=⟨[(0,.sl (ab eI a)),(15,.sl (ab eI b)),(16,.lit (.int .i64 c)),(17,.lit (.int .i64 d))],[],2⟩
attribute [go_sem] fy
attribute [go_sem] Tryd.ntmps117 Tryd.results117
theorem lq {a b:List Int}{res:Bool}(h:bP a b=some res):ar Tryd.prog 117 [.sl (ab eI a),.sl (ab eI b)] [] (.lit (.bool res)) []:=by
 refine ao (ra:=[]) (md:=mdT) hT (hi:=hi00) Tryd.func117 rfl rfl (by decide +kernel) (by simp) ?_
 unfold bP at h
 obtain ⟨r01,g1,h⟩:=ae h
 simp(config:=cS)only[go_sem]
 refine ah (iH g1) ?_
 obtain ⟨h2,h⟩|⟨h2,h⟩:=af h
 ·obtain ⟨r02,g3,h⟩:=ae h
  simp(config:=cS)only[go_sem,eZt h2]
  refine ah (iH g3) ?_
  obtain ⟨h4,h⟩|⟨h4,h⟩:=af h
  ·obtain ⟨q05,l5,h⟩:=ae h
   simp(config:=cS)only[go_sem,eZt h2,eZt h4]
   refine aw (m1:=.mk) (m2:=.mk) [.nf [0,15,16,17] []] (fy a b ((b.length:Nat):Int)) l5 ?_ ?_
   ·simp(config:=cS)only[go_sem,eZt h2,eZt h4]
   ·intro nb6 v17_1 bb6 b6 gb6
    unfold bl at b6
    try dsimp only at b6
    obtain ⟨h7,b6⟩|⟨h7,b6⟩:=af b6
    ·obtain ⟨x03,g8,b6⟩:=ae b6
     obtain ⟨h9,h10,h11⟩:=an g8
     obtain ⟨r04,g12,b6⟩:=ae b6
     simp(config:=cS)only[go_sem,eZt h2,eZt h4,eqT h7,h9,h10,h11]
     refine ah (jh g12) ?_
     obtain ⟨h13,b6⟩|⟨h13,b6⟩:=af b6
     ·cases b6
      simp(config:=cS)only[go_sem,eZt h2,eZt h4,eqT h7,h9,h10,h11,eZt h13]
      refine aA gb6 ?_
      simp(config:=cS)only[go_sem,eZt h2,eZt h4,eqT h7,h9,h10,h11,eZt h13]
     ·cases b6
      obtain rfl:=(al gb6).symm
      try dsimp only at h
      cases h
      simp(config:=cS)only[go_sem,eZt h2,eZt h4,eqT h7,h9,h10,h11,eZf h13]
    ·cases b6
     obtain rfl:=(al gb6).symm
     try dsimp only at h
     cases h
     simp(config:=cS)only[go_sem,eZt h2,eZt h4,eqF h7]
  ·cases h
   simp(config:=cS)only[go_sem,eZt h2,eZf h4]
 ·cases h
  simp(config:=cS)only[go_sem,eZf h2]
def gF (a:List GNode)(b:Int)(c:List GTie)(d e:Int):St:=⟨[(1,.ptr 64 1 0 0),(33,.sl (ab GNode.encS a)),(34,.lit (.int .i64 b)),(35,.lit (.int .i64 e))],[(64,1,.var [.sl (ab GNode.encS a),.sl (ab GTie.enc c),.lit (.int .i64 d)])],2⟩
attribute [go_sem] gF
def gG (a:List GNode)(c d:Int)(b:List Int)(e:Int)(f:List GTie)(g:Int)(h:ByteArray)(i j:Int):St:=⟨[(1,.ptr 64 1 0 0),(6,.ptr 384 1 0 0),(66,.sl (ab GNode.encS a)),(67,.lit (.int .i64 c)),(68,.lit (.int .i64 d)),(73,.sl (ab eI b)),(74,.lit (.int .i64 e)),(75,.lit (.int .i64 j))],[(64,1,.var [.sl (ab GNode.encS a),.sl (ab GTie.enc f),.lit (.int .i64 g)]),(384,1,.var [.lit (.string h),.sl (ab eI b),.lit (.int .i64 i)])],2⟩
attribute [go_sem] gG
def gH (a:List GNode)(b:Int)(c:List GTie)(d e:Int):St:=⟨[(1,.ptr 64 1 0 0),(66,.sl (ab GNode.encS a)),(67,.lit (.int .i64 b)),(68,.lit (.int .i64 e))],[(64,1,.var [.sl (ab GNode.encS a),.sl (ab GTie.enc c),.lit (.int .i64 d)])],2⟩
attribute [go_sem] gH
@[go_sem] def hi86_16:DT:=.i2 0 (.i2 1 (.i2 2 (.i2 3 (.i2 4 (.i2 5 (.i2 6 (.i2 7 (.i2 8 (.i2 9 (.i2 10 (.i2 11 (.i2 12 (.i2 13 (.i2 14 (.i2 15 (.i2 16 (.i2 17 (.i2 18 (.i2 19 (.i2 20 (.i2 21 (.i2 22 (.i2 23 (.i2 24 (.i2 25 (.i2 26 (.i2 27 (.i2 28 (.i2 29 (.i2 30 (.i2 31 (.i2 32 (.i2 33 (.i2 34 .nil))))))))))))))))))))))))))))))))))
@[go_sem] def hi86_15:DT:=.i1 0 (.i2 1 (.i0 2 [0] (.i2 3 (.i2 4 .nil))))
def hi86:Hint where
 acts:=fun _=>[]
 draws:=fun
  | 15=>⟨hi86_15,[[],[],[1],[0,1,2],[0,1,2,3]],.range 5⟩
  | 16=>⟨hi86_16,[[],[0],[0,1],[0,1,2],[0,1,2,3],[0,1,2],.range 6,.range 7,.range 8,[0,1,2],.range 10,.range 11,.range 12,.range 13,.range 14,.range 13,.range 16,.range 17,.range 18,.range 13,[0,1,2,3,4,5,6,7,8,9,10,11,12,19],.range 21,.range 22,.range 23,.range 24,.range 25,.range 24,[0,1,2,3,4,5,6,7,8,9,10,11,12,13,14,15,16,17,18,19,20,21,22,23,26],.range 24,[0,1,2,3,4,5,6,7,8,9,10,11,12,13,14,15,16,17,18,19,20,21,22,23,26,27,28],[0,1,2,3,4,5,6,7,8,9,10,11,12,13,14,15,16,17,18,19,20,21,22,23,26,27,28,29],[0,1,2,3,4,5,6,7,8,9,10,11,12,13,14,15,16,17,18,19,20,21,22,23,26,27,28,29,30],.range 32,.range 33,.range 34],.range 35⟩
  | _=>⟨.nil,[],[]⟩
theorem AI (i:Nat):hi86.acts i=[]:=rfl
theorem AJ (i:Nat):hi86.views i=none:=rfl
attribute [go_sem] AI AJ Tryd.ntmps86 Tryd.results86
@[go_sem] theorem Bw:(hi86.draws 15).order=hi86_15:=rfl
@[go_sem] theorem Bx:(hi86.draws 16).order=hi86_16:=rfl
theorem pG {s:GShow}{res:Bool}(h:dX s=some res):ar Tryd.prog 86 [.agg (GShow.encS s)] [] (.lit (.bool res)) []:=by
 refine ao (ra:=[]) (md:=mdT) hT (hi:=hi86) Tryd.func86 rfl rfl (by decide +kernel) (by simp) ?_
 unfold dX at h
 obtain ⟨r01,g1,h⟩:=ae h
 simp(config:=cS)only[go_sem]
 refine ah (dE g1) ?_
 obtain ⟨h2,h⟩|⟨h2,h⟩:=af h
 ·obtain ⟨x02,g3,h⟩:=ae h
  obtain ⟨h5,h6⟩:=sJ (k:=0) g3
  obtain ⟨h7,h⟩|⟨h7,h⟩:=af h
  ·cases h
   simp(config:=cS)only[go_sem,eZt h2,h5,h6,eqT h7]
  ·obtain ⟨h8,h⟩|⟨h8,h⟩:=af h
   ·obtain ⟨q17,l9,h⟩:=ae h
    simp(config:=cS)only[go_sem,eZt h2,h5,h6,eqF h7,eqT h8]
    refine aw (m1:=.mk) (m2:=.mk) [.nf [1,33,34,35] [64]] (gF s.nodes ((s.nodes.length:Nat):Int) s.ties s.horizon) l9 ?_ ?_
    ·simp(config:=cS)only[go_sem,eZt h2,h5,h6,eqF h7,eqT h8]
    ·intro nb10 v35_1 bb10 b10 gb10
     unfold ca at b10
     try dsimp only at b10
     obtain ⟨h11,b10⟩|⟨h11,b10⟩:=af b10
     ·obtain ⟨x03,g12,b10⟩:=ae b10
      obtain ⟨h13,h14,h15⟩:=an g12
      obtain ⟨r04,g16,b10⟩:=ae b10
      simp(config:=cS)only[go_sem,eZt h2,h5,h6,eqF h7,eqT h8,eqT h11,h13,h14,h15]
      refine ah (rJ g16) ?_
      obtain ⟨h17,b10⟩|⟨h17,b10⟩:=af b10
      ·obtain ⟨r05,g18,b10⟩:=ae b10
       simp(config:=cS)only[go_sem,eZt h2,h5,h6,eqF h7,eqT h8,eqT h11,h13,h14,h15,eZt h17]
       refine ah (nU g18) ?_
       obtain ⟨h19,b10⟩|⟨h19,b10⟩:=af b10
       ·obtain ⟨h20,b10⟩|⟨h20,b10⟩:=af b10
        ·cases b10
         simp(config:=cS)only[go_sem,eZt h2,h5,h6,eqF h7,eqT h8,eqT h11,h13,h14,h15,eZt h17,eqT h19,eqT h20]
         refine aA gb10 ?_
         simp(config:=cS)only[go_sem,eZt h2,h5,h6,eqF h7,eqT h8,eqT h11,h13,h14,h15,eZt h17,eqT h19,eqT h20]
        ·obtain ⟨r06,g21,b10⟩:=ae b10
         simp(config:=cS)only[go_sem,eZt h2,h5,h6,eqF h7,eqT h8,eqT h11,h13,h14,h15,eZt h17,eqT h19,eqF h20]
         refine ah (jk g21) ?_
         obtain ⟨h22,b10⟩|⟨h22,b10⟩:=af b10
         ·cases b10
          simp(config:=cS)only[go_sem,eZt h2,h5,h6,eqF h7,eqT h8,eqT h11,h13,h14,h15,eZt h17,eqT h19,eqF h20,eqT h22]
          refine aA gb10 ?_
          simp(config:=cS)only[go_sem,eZt h2,h5,h6,eqF h7,eqT h8,eqT h11,h13,h14,h15,eZt h17,eqT h19,eqF h20,eqT h22]
         ·cases b10
          obtain rfl:=(al gb10).symm
          try dsimp only at h
          cases h
          simp(config:=cS)only[go_sem,eZt h2,h5,h6,eqF h7,eqT h8,eqT h11,h13,h14,h15,eZt h17,eqT h19,eqF h20,eqF h22]
       ·cases b10
        obtain rfl:=(al gb10).symm
        try dsimp only at h
        cases h
        simp(config:=cS)only[go_sem,eZt h2,h5,h6,eqF h7,eqT h8,eqT h11,h13,h14,h15,eZt h17,eqF h19]
      ·cases b10
       obtain rfl:=(al gb10).symm
       try dsimp only at h
       cases h
       simp(config:=cS)only[go_sem,eZt h2,h5,h6,eqF h7,eqT h8,eqT h11,h13,h14,h15,eZf h17]
     ·cases b10
      obtain rfl:=(al gb10).symm
      try dsimp only at h
      obtain ⟨q16,l27,h⟩:=ae h
      simp(config:=cS)only[go_sem,eZt h2,h5,h6,eqF h7,eqT h8,eqF h11]
      refine aw (m1:=.mk) (m2:=.mk) [.nf [1,66,67,68] [64]] (gH s.nodes ((s.nodes.length:Nat):Int) s.ties s.horizon) l27 ?_ ?_
      ·simp(config:=cS)only[go_sem,eZt h2,h5,h6,eqF h7,eqT h8,eqF h11]
      ·intro nb28 v68_2 bb28 b28 gb28
       unfold ce at b28
       try dsimp only at b28
       obtain ⟨h29,b28⟩|⟨h29,b28⟩:=af b28
       ·obtain ⟨x07,g30,b28⟩:=ae b28
        obtain ⟨h31,h32,h33⟩:=an g30
        obtain ⟨q15,l34,b28⟩:=ae b28
        simp(config:=cS)only[go_sem,eZt h2,h5,h6,eqF h7,eqT h8,eqF h11,eqT h29,h31,h32,h33]
        refine aw (m1:=.mk) (m2:=.mk) [.nf [1,6,66,67,68,73,74,75] [64,384]] (gG s.nodes ((s.nodes.length:Nat):Int) v68_2 x07.label ((x07.label.length:Nat):Int) s.ties s.horizon x07.name x07.watch) l34 ?_ ?_
        ·simp(config:=cS)only[go_sem,eZt h2,h5,h6,eqF h7,eqT h8,eqF h11,eqT h29,h31,h32,h33]
        ·intro nb35 v75_3 bb35 b35 gb35
         unfold cd at b35
         try dsimp only at b35
         obtain ⟨h36,b35⟩|⟨h36,b35⟩:=af b35
         ·obtain ⟨x08,g37,b35⟩:=ae b35
          obtain ⟨h38,h39,h40⟩:=an g37
          obtain ⟨r09,g41,b35⟩:=ae b35
          simp(config:=cS)only[go_sem,eZt h2,h5,h6,eqF h7,eqT h8,eqF h11,eqT h29,h31,h32,h33,eqT h36,h38,h39,h40]
          refine ah (iG g41) ?_
          obtain ⟨r10,g42,b35⟩:=ae b35
          simp(config:=cS)only[go_sem,eZt h2,h5,h6,eqF h7,eqT h8,eqF h11,eqT h29,h31,h32,h33,eqT h36,h38,h39,h40]
          refine ah (jk g42) ?_
          obtain ⟨h43,b35⟩|⟨h43,b35⟩:=af b35
          ·cases b35
           obtain rfl:=(al gb35).symm
           try dsimp only at b28
           cases b28
           obtain rfl:=(al gb28).symm
           try dsimp only at h
           cases h
           simp(config:=cS)only[go_sem,eZt h2,h5,h6,eqF h7,eqT h8,eqF h11,eqT h29,h31,h32,h33,eqT h36,h38,h39,h40,eqT h43]
          ·obtain ⟨x11,g46,b35⟩:=ae b35
           obtain ⟨h47,h48,h49⟩:=an g46
           obtain ⟨r12,g50,b35⟩:=ae b35
           simp(config:=cS)only[go_sem,eZt h2,h5,h6,eqF h7,eqT h8,eqF h11,eqT h29,h31,h32,h33,eqT h36,h38,h39,h40,eqF h43,h47,h48,h49]
           refine ah (jh g50) ?_
           obtain ⟨h51,b35⟩|⟨h51,b35⟩:=af b35
           ·cases b35
            obtain rfl:=(al gb35).symm
            try dsimp only at b28
            cases b28
            obtain rfl:=(al gb28).symm
            try dsimp only at h
            cases h
            simp(config:=cS)only[go_sem,eZt h2,h5,h6,eqF h7,eqT h8,eqF h11,eqT h29,h31,h32,h33,eqT h36,h38,h39,h40,eqF h43,h47,h48,h49,eZt h51]
           ·obtain ⟨r13,g54,b35⟩:=ae b35
            simp(config:=cS)only[go_sem,eZt h2,h5,h6,eqF h7,eqT h8,eqF h11,eqT h29,h31,h32,h33,eqT h36,h38,h39,h40,eqF h43,h47,h48,h49,eZf h51]
            refine ah (jh g54) ?_
            obtain ⟨h55,b35⟩|⟨h55,b35⟩:=af b35
            ·cases b35
             obtain rfl:=(al gb35).symm
             try dsimp only at b28
             cases b28
             obtain rfl:=(al gb28).symm
             try dsimp only at h
             cases h
             simp(config:=cS)only[go_sem,eZt h2,h5,h6,eqF h7,eqT h8,eqF h11,eqT h29,h31,h32,h33,eqT h36,h38,h39,h40,eqF h43,h47,h48,h49,eZf h51,eZt h55]
            ·obtain ⟨r14,g58,b35⟩:=ae b35
             simp(config:=cS)only[go_sem,eZt h2,h5,h6,eqF h7,eqT h8,eqF h11,eqT h29,h31,h32,h33,eqT h36,h38,h39,h40,eqF h43,h47,h48,h49,eZf h51,eZf h55]
             refine ah (lq g58) ?_
             obtain ⟨h59,b35⟩|⟨h59,b35⟩:=af b35
             ·cases b35
              simp(config:=cS)only[go_sem,eZt h2,h5,h6,eqF h7,eqT h8,eqF h11,eqT h29,h31,h32,h33,eqT h36,h38,h39,h40,eqF h43,h47,h48,h49,eZf h51,eZf h55,eZt h59]
              refine aA gb35 ?_
              simp(config:=cS)only[go_sem,eZt h2,h5,h6,eqF h7,eqT h8,eqF h11,eqT h29,h31,h32,h33,eqT h36,h38,h39,h40,eqF h43,h47,h48,h49,eZf h51,eZf h55,eZt h59]
             ·cases b35
              obtain rfl:=(al gb35).symm
              try dsimp only at b28
              cases b28
              obtain rfl:=(al gb28).symm
              try dsimp only at h
              cases h
              simp(config:=cS)only[go_sem,eZt h2,h5,h6,eqF h7,eqT h8,eqF h11,eqT h29,h31,h32,h33,eqT h36,h38,h39,h40,eqF h43,h47,h48,h49,eZf h51,eZf h55,eZf h59]
         ·cases b35
          obtain rfl:=(al gb35).symm
          try dsimp only at b28
          cases b28
          simp(config:=cS)only[go_sem,eZt h2,h5,h6,eqF h7,eqT h8,eqF h11,eqT h29,h31,h32,h33,eqF h36]
          refine aA gb28 ?_
          simp(config:=cS)only[go_sem,eZt h2,h5,h6,eqF h7,eqT h8,eqF h11,eqT h29,h31,h32,h33,eqF h36]
       ·cases b28
        obtain rfl:=(al gb28).symm
        try dsimp only at h
        cases h
        simp(config:=cS)only[go_sem,eZt h2,h5,h6,eqF h7,eqT h8,eqF h11,eqF h29]
   ·cases h
    simp(config:=cS)only[go_sem,eZt h2,h5,h6,eqF h7,eqF h8]
 ·cases h
  simp(config:=cS)only[go_sem,eZf h2]
def hZ (b a:List Int)(c d:Int):St:=⟨[(1,.sl (ab eI b)),(12,.sl (ab eI a)),(13,.lit (.int .i64 c)),(14,.lit (.int .i64 d))],[],2⟩
attribute [go_sem] hZ
attribute [go_sem] Tryd.ntmps118 Tryd.results118
theorem qy {a b:List Int}{res:Bool}(h:ew a b=some res):ar Tryd.prog 118 [.sl (ab eI a),.sl (ab eI b)] [] (.lit (.bool res)) []:=by
 refine ao (ra:=[]) (md:=mdT) hT (hi:=hi00) Tryd.func118 rfl rfl (by decide +kernel) (by simp) ?_
 unfold ew at h
 obtain ⟨h1,h⟩|⟨h1,h⟩:=af h
 ·obtain ⟨q03,l2,h⟩:=ae h
  simp(config:=cS)only[go_sem,eqT h1]
  refine aw (m1:=.mk) (m2:=.mk) [.nf [1,12,13,14] []] (hZ b a ((a.length:Nat):Int)) l2 ?_ ?_
  ·simp(config:=cS)only[go_sem]
  ·intro nb3 v14_1 bb3 b3 gb3
   unfold cy at b3
   try dsimp only at b3
   obtain ⟨h4,b3⟩|⟨h4,b3⟩:=af b3
   ·obtain ⟨x01,g5,b3⟩:=ae b3
    obtain ⟨h6,h7,h8⟩:=an g5
    obtain ⟨x02,g9,b3⟩:=ae b3
    obtain ⟨h10,h11,h12⟩:=an g9
    obtain ⟨h13,b3⟩|⟨h13,b3⟩:=af b3
    ·cases b3
     simp(config:=cS)only[go_sem,eqT h4,h6,h7,h8,h10,h11,h12,eqT h13]
     refine aA gb3 ?_
     simp(config:=cS)only[go_sem]
    ·cases b3
     obtain rfl:=(al gb3).symm
     try dsimp only at h
     cases h
     simp(config:=cS)only[go_sem,eqT h4,h6,h7,h8,h10,h11,h12,eqF h13]
   ·cases b3
    obtain rfl:=(al gb3).symm
    try dsimp only at h
    cases h
    simp(config:=cS)only[go_sem,eqF h4]
 ·cases h
  simp(config:=cS)only[go_sem,eqF h1]
def ia (a:Int)(c:List GTie)(d b:Int):St:=⟨[(1,.lit (.int .i64 a)),(8,.sl (ab GTie.enc c)),(9,.lit (.int .i64 d)),(10,.lit (.int .i64 b))],[],2⟩
attribute [go_sem] ia
attribute [go_sem] Tryd.ntmps119 Tryd.results119
theorem qz {s:GShow}{node res:Int}(h:ex s node=some res):ar Tryd.prog 119 [.agg (GShow.encS s),.lit (.int .i64 node)] [] (.lit (.int .i64 res)) []:=by
 refine ao (ra:=[]) (md:=mdT) hT (hi:=hi00) Tryd.func119 rfl rfl (by decide +kernel) (by simp) ?_
 unfold ex at h
 obtain ⟨q02,l1,h⟩:=ae h
 simp(config:=cS)only[go_sem]
 refine aw (m1:=.mk) (m2:=.mk) [.nf [1,8,9,10] []] (ia node s.ties ((s.ties.length:Nat):Int)) l1 ?_ ?_
 ·simp(config:=cS)only[go_sem]
 ·intro nb2 v10_1 bb2 b2 gb2
  unfold cz at b2
  try dsimp only at b2
  obtain ⟨h3,b2⟩|⟨h3,b2⟩:=af b2
  ·obtain ⟨x01,g4,b2⟩:=ae b2
   obtain ⟨h5,h6,h7⟩:=an g4
   obtain ⟨h8,b2⟩|⟨h8,b2⟩:=af b2
   ·obtain ⟨h9,b2⟩|⟨h9,b2⟩:=af b2
    ·cases b2
     obtain rfl:=(al gb2).symm
     try dsimp only at h
     cases h
     simp(config:=cS)only[go_sem,eqT h3,h5,h6,h7,eZt h8,eqT h9]
    ·cases b2
     simp(config:=cS)only[go_sem,eqT h3,h5,h6,h7,eZt h8,eqF h9]
     refine aA gb2 ?_
     simp(config:=cS)only[go_sem]
   ·cases b2
    simp(config:=cS)only[go_sem,eqT h3,h5,h6,h7,eZf h8]
    refine aA gb2 ?_
    simp(config:=cS)only[go_sem]
  ·cases b2
   obtain rfl:=(al gb2).symm
   try dsimp only at h
   cases h
   simp(config:=cS)only[go_sem,eqF h3]
@[go_sem] def hi88_5:DT:=.i2 0 (.i2 1 (.i2 2 (.i2 3 (.i2 4 (.i2 5 (.i2 6 (.i2 7 (.i2 8 (.i2 9 (.i2 10 (.i2 11 (.i2 12 (.i2 13 (.i2 14 (.i2 15 (.i2 16 (.i2 17 (.i2 18 (.i2 19 (.i2 20 (.i2 21 (.i2 22 (.i2 23 (.i2 24 (.i2 25 (.i2 26 (.i2 27 (.i2 28 (.i2 29 (.i2 30 (.i2 31 (.i2 32 (.i2 33 (.i2 34 (.i2 35 (.i2 36 (.i2 37 (.i2 38 (.i2 39 (.i2 40 (.i2 41 (.i2 42 (.i2 44 (.i2 43 (.i2 45 (.i2 46 (.i2 47 (.i2 48 .nil))))))))))))))))))))))))))))))))))))))))))))))))
def hi88:Hint where
 acts:=fun _=>[]
 draws:=fun
  | 5=>⟨hi88_5,[[],[0],[0,1],[0,1,2],[0,1,2,3],.range 5,.range 6,.range 7,.range 8,.range 9,.range 10,.range 11,.range 12,.range 13,.range 14,.range 13,[0,1,2,3,4,5,6,7,8,9,10,11,12,15],.range 17,.range 18,.range 19,.range 20,.range 21,.range 22,.range 23,.range 24,.range 23,[0,1,2,3,4,5,6,7,8,9,10,11,12,13,14,15,16,17,18,19,20,21,22,25],.range 27,.range 28,.range 29,.range 23,[0,1,2,3,4,5,6,7,8,9,10,11,12,13,14,15,16,17,18,19,20,21,22,30],.range 23,[0,1,2,3,4,5,6,7,8,9,10,11,12,13,14,15,16,17,18,19,20,21,22,32],[0,1,2,3,4,5,6,7,8,9,10,11,12,13,14,15,16,17,18,19,20,21,22,30,31,32,33],[0,1,2,3,4,5,6,7,8,9,10,11,12,13,14,15,16,17,18,19,20,21,22,30,31,32,33,34],[0,1,2,3,4,5,6,7,8,9,10,11,12,13,14,15,16,17,18,19,20,21,22,30,31,32,33,34,35],.range 37,.range 38,.range 39,.range 40,.range 40,[0,1,2,3,4,5,6,7,8,9,10,11,12,13,14,15,16,17,18,19,20,21,22,23,24,25,26,27,28,29,30,31,32,33,34,35,36,37,38,39,41],.range 43,.range 40,.range 45,.range 46,.range 47,.range 48],.range 49⟩
  | _=>⟨.nil,[],[]⟩
theorem AK (i:Nat):hi88.acts i=[]:=rfl
theorem AL (i:Nat):hi88.views i=none:=rfl
attribute [go_sem] AK AL Tryd.ntmps88 Tryd.results88
@[go_sem] theorem BA:(hi88.draws 5).order=hi88_5:=rfl
theorem rK {s:GShow}{i:Int}{res:Bool}(h:fe s i=some res):ar Tryd.prog 88 [.agg (GShow.encS s),.lit (.int .i64 i)] [] (.lit (.bool res)) []:=by
 refine ao (ra:=[]) (md:=mdT) hT (hi:=hi88) Tryd.func88 rfl rfl (by decide +kernel) (by simp) ?_
 unfold fe at h
 obtain ⟨x01,g1,h⟩:=ae h
 obtain ⟨h2,h3,h4⟩:=an g1
 obtain ⟨r02,g5,h⟩:=ae h
 simp(config:=cS)only[go_sem,h2,h3,h4]
 refine ah (dE g5) ?_
 obtain ⟨h6,h⟩|⟨h6,h⟩:=af h
 ·obtain ⟨r03,g7,h⟩:=ae h
  simp(config:=cS)only[go_sem,h2,h3,h4,eZt h6]
  refine ah (dE g7) ?_
  obtain ⟨h8,h⟩|⟨h8,h⟩:=af h
  ·obtain ⟨h9,h⟩|⟨h9,h⟩:=af h
   ·cases h
    simp(config:=cS)only[go_sem,h2,h3,h4,eZt h6,eZt h8,eqT h9]
   ·obtain ⟨h10,h⟩|⟨h10,h⟩:=af h
    ·cases h
     simp(config:=cS)only[go_sem,h2,h3,h4,eZt h6,eZt h8,eqF h9,eqT h10]
    ·obtain ⟨h11,h⟩|⟨h11,h⟩:=af h
     ·cases h
      simp(config:=cS)only[go_sem,h2,h3,h4,eZt h6,eZt h8,eqF h9,eqF h10,eqT h11]
     ·obtain ⟨h12,h⟩|⟨h12,h⟩:=af h
      ·cases h
       simp(config:=cS)only[go_sem,h2,h3,h4,eZt h6,eZt h8,eqF h9,eqF h10,eqF h11,eqT h12]
      ·obtain ⟨h13,h⟩|⟨h13,h⟩:=af h
       ·obtain ⟨h14,h⟩|⟨h14,h⟩:=af h
        ·obtain ⟨h15,h⟩|⟨h15,h⟩:=af h
         ·cases h
          simp(config:=cS)only[go_sem,h2,h3,h4,eZt h6,eZt h8,eqF h9,eqF h10,eqF h11,eqF h12,eZt h13,eqT h14,eqT h15]
         ·obtain ⟨x04,g16,h⟩:=ae h
          obtain ⟨h17,h18,h19⟩:=an g16
          obtain ⟨h20,h⟩|⟨h20,h⟩:=af h
          ·obtain ⟨x05,g21,h⟩:=ae h
           obtain ⟨h22,h23,h24⟩:=an g21
           obtain ⟨r06,g25,h⟩:=ae h
           simp(config:=cS)only[go_sem,h2,h3,h4,eZt h6,eZt h8,eqF h9,eqF h10,eqF h11,eqF h12,eZt h13,eqT h14,eqF h15,h17,h18,h19,eqT h20,h22,h23,h24]
           refine ah (qy g25) ?_
           obtain ⟨h26,h⟩|⟨h26,h⟩:=af h
           ·obtain ⟨r07,g27,h⟩:=ae h
            simp(config:=cS)only[go_sem,h2,h3,h4,eZt h6,eZt h8,eqF h9,eqF h10,eqF h11,eqF h12,eZt h13,eqT h14,eqF h15,h17,h18,h19,eqT h20,h22,h23,h24,eZt h26]
            refine ah (qz g27) ?_
            cases h
            simp(config:=cS)only[go_sem,h2,h3,h4,eZt h6,eZt h8,eqF h9,eqF h10,eqF h11,eqF h12,eZt h13,eqT h14,eqF h15,h17,h18,h19,eqT h20,h22,h23,h24,eZt h26]
           ·cases h
            simp(config:=cS)only[go_sem,h2,h3,h4,eZt h6,eZt h8,eqF h9,eqF h10,eqF h11,eqF h12,eZt h13,eqT h14,eqF h15,h17,h18,h19,eqT h20,h22,h23,h24,eZf h26]
          ·cases h
           simp(config:=cS)only[go_sem,h2,h3,h4,eZt h6,eZt h8,eqF h9,eqF h10,eqF h11,eqF h12,eZt h13,eqT h14,eqF h15,h17,h18,h19,eqF h20]
        ·cases h
         simp(config:=cS)only[go_sem,h2,h3,h4,eZt h6,eZt h8,eqF h9,eqF h10,eqF h11,eqF h12,eZt h13,eqF h14]
       ·cases h
        simp(config:=cS)only[go_sem,h2,h3,h4,eZt h6,eZt h8,eqF h9,eqF h10,eqF h11,eqF h12,eZf h13]
  ·cases h
   simp(config:=cS)only[go_sem,h2,h3,h4,eZt h6,eZf h8]
 ·cases h
  simp(config:=cS)only[go_sem,h2,h3,h4,eZf h6]
def ir (a:Int)(b:List GNode)(c:List GTie)(d e:Int):St:=⟨[(1,.ptr 64 1 0 0),(21,.lit (.int .i64 a)),(22,.lit (.int .i64 e))],[(64,1,.var [.sl (ab GNode.encS b),.sl (ab GTie.enc c),.lit (.int .i64 d)])],2⟩
attribute [go_sem] ir
attribute [go_sem] Tryd.ntmps60 Tryd.results60
theorem lg {s:GShow}{res:Bool}(h:dP s=some res):ar Tryd.prog 60 [.agg (GShow.encS s)] [] (.lit (.bool res)) []:=by
 refine ao (ra:=[]) (md:=mdT) hT (hi:=hi00) Tryd.func60 rfl rfl (by decide +kernel) (by simp) ?_
 unfold dP at h
 obtain ⟨r01,g1,h⟩:=ae h
 simp(config:=cS)only[go_sem]
 refine ah (pG g1) ?_
 obtain ⟨h2,h⟩|⟨h2,h⟩:=af h
 ·obtain ⟨h3,h⟩|⟨h3,h⟩:=af h
  ·cases h
   simp(config:=cS)only[go_sem,eZt h2,eqT h3]
  ·obtain ⟨r02,g4,h⟩:=ae h
   simp(config:=cS)only[go_sem,eZt h2,eqF h3]
   refine ah (dE g4) ?_
   obtain ⟨h5,h⟩|⟨h5,h⟩:=af h
   ·obtain ⟨q04,l6,h⟩:=ae h
    simp(config:=cS)only[go_sem,eZt h5]
    refine aw (m1:=.mk) (m2:=.mk) [.nf [1,21,22] [64]] (ir ((s.ties.length:Nat):Int) s.nodes s.ties s.horizon) l6 ?_ ?_
    ·simp(config:=cS)only[go_sem]
    ·intro nb7 v22_1 bb7 b7 gb7
     unfold cX at b7
     try dsimp only at b7
     obtain ⟨h8,b7⟩|⟨h8,b7⟩:=af b7
     ·obtain ⟨r03,g9,b7⟩:=ae b7
      simp(config:=cS)only[go_sem,eqT h8]
      refine ah (rK g9) ?_
      obtain ⟨h10,b7⟩|⟨h10,b7⟩:=af b7
      ·cases b7
       simp(config:=cS)only[go_sem,eZt h10]
       refine aA gb7 ?_
       simp(config:=cS)only[go_sem]
      ·cases b7
       obtain rfl:=(al gb7).symm
       try dsimp only at h
       cases h
       simp(config:=cS)only[go_sem,eZf h10]
     ·cases b7
      obtain rfl:=(al gb7).symm
      try dsimp only at h
      cases h
      simp(config:=cS)only[go_sem,eqF h8]
   ·cases h
    simp(config:=cS)only[go_sem,eZf h5]
 ·cases h
  simp(config:=cS)only[go_sem,eZf h2]
def eR (a:List GTie)(c:Int)(d:List GNode)(e:Int)(f:List GNode)(g:List GTie)(h:Int):(Int × (List ByteArray))→St
 | (i,b)=>⟨[(2,.ptr 128 1 0 0),(3,.ptr 192 1 0 0),(5,.ref 2240 1 0 b.length),(37,.sl (ab GTie.enc a)),(38,.lit (.int .i64 c)),(39,.lit (.int .i64 i))],[(128,1,.var [.sl (ab GNode.encS d),.sl (ab GTie.enc a),.lit (.int .i64 e)]),(192,1,.var [.sl (ab GNode.encS f),.sl (ab GTie.enc g),.lit (.int .i64 h)]),(2240,1,.row true (ab eS b))],2⟩
attribute [go_sem] eR
@[go_sem] def hi22_9:DT:=.i2 0 (.i1 1 (.i1 2 (.i1 3 (.i1 4 (.i1 5 (.i1 6 (.i1 7 (.i2 8 (.i2 9 (.i1 10 (.i1 11 (.i1 12 (.i1 13 (.i1 14 (.i1 15 (.i1 16 (.i2 17 (.i2 18 (.i2 19 (.i2 20 (.i1 24 (.i1 25 (.i0 21 [1,2,3,4,5,6,7,10,11,12,13,14,15,16,24,25] (.i2 22 (.i2 23 (.i0 26 [1,2,3,4,5,6,7,10,11,12,13,14,15,16] (.i2 27 (.i2 28 (.i2 29 (.i2 30 .nil))))))))))))))))))))))))))))))
def hi22:Hint where
 acts:=fun _=>[]
 draws:=fun
  | 9=>⟨hi22_9,[[],[],[1],[],[3],[1,2,3,4],[1,2,3,4,5],[1,2,3,4,5,6],[1,2,3,4,5,6,7],[1,2,3,4,5,6,7,8],[],[10],[],[12],[10,11,12,13],[10,11,12,13,14],[10,11,12,13,14,15],[1,2,3,4,5,6,7,8,9,10,11,12,13,14,15,16],[1,2,3,4,5,6,7,8,9,10,11,12,13,14,15,16,17],[],[19],[19,20],[1,2,3,4,5,6,7,8,9,10,11,12,13,14,15,16,17,18,19,20,21],[1,2,3,4,5,6,7,8,9,10,11,12,13,14,15,16,17,18,19,20,21,22],[],[24],[19,20,21,24,25],[1,2,3,4,5,6,7,8,9,10,11,12,13,14,15,16,17,18,19,20,21,22,23,24,25,26],[1,2,3,4,5,6,7,8,9,10,11,12,13,14,15,16,17,18,19,20,21,22,23,24,25,26,27],.range 29,.range 30],.range 31⟩
  | _=>⟨.nil,[],[]⟩
theorem AM (i:Nat):hi22.acts i=[]:=rfl
theorem AN (i:Nat):hi22.views i=none:=rfl
attribute [go_sem] AM AN Tryd.ntmps22 Tryd.results22
@[go_sem] theorem BB:(hi22.draws 9).order=hi22_9:=rfl
theorem kO {s t:GShow}{res:List ByteArray}(h:cv s t=some res):ar Tryd.prog 22 [.agg (GShow.encS s),.agg (GShow.encS t)] [] (.ref 20000 1 0 res.length) [(20000,1,.row true (ab eS res))]:=by
 refine ao (ra:=[.home 4]) (md:=mdT) hT (hi:=hi22) Tryd.func22 rfl rfl (by decide +kernel) (by simp) ?_
 unfold cv at h
 obtain ⟨r01,g1,h⟩:=ae h
 simp(config:=cS)only[go_sem]
 refine ah (lg g1) ?_
 obtain ⟨h2,h⟩|⟨h2,h⟩:=af h
 ·obtain ⟨r02,g3,h⟩:=ae h
  simp(config:=cS)only[go_sem,eZt h2]
  refine ah (lg g3) ?_
  obtain ⟨h4,h⟩|⟨h4,h⟩:=af h
  ·obtain ⟨h5,h⟩|⟨h5,h⟩:=af h
   ·obtain ⟨h6,h⟩|⟨h6,h⟩:=af h
    ·obtain ⟨q13,l7,h⟩:=ae h
     simp(config:=cS)only[go_sem,eZt h2,eZt h4,eqT h5,eqT h6]
     refine aw (m1:=.mk) (m2:=.mk) [.nf [2,3,5,37,38,39] [128,192,2240]] (eR s.ties ((s.ties.length:Nat):Int) s.nodes s.horizon t.nodes t.ties t.horizon) l7 ?_ ?_
     ·simp(config:=cS)only[go_sem,eZt h2,eZt h4,eqT h5,eqT h6]
     ·intro nb8 sb8 bb8 b8 gb8
      obtain ⟨v39_1,out_1⟩:=sb8
      unfold bH at b8
      try dsimp only at b8
      obtain ⟨h9,b8⟩|⟨h9,b8⟩:=af b8
      ·obtain ⟨x03,g10,b8⟩:=ae b8
       obtain ⟨h11,h12,h13⟩:=an g10
       obtain ⟨x04,g14,b8⟩:=ae b8
       obtain ⟨h15,h16,h17⟩:=an g14
       obtain ⟨h18,b8⟩|⟨h18,b8⟩:=af b8
       ·obtain ⟨h19,b8⟩|⟨h19,b8⟩:=af b8
        ·obtain ⟨h20,b8⟩|⟨h20,b8⟩:=af b8
         ·cases b8
          simp(config:=cS)only[go_sem,eZt h2,eZt h4,eqT h5,eqT h6,eqT h9,h11,h12,h13,h15,h16,h17,eZt h18,eqT h19,eqT h20]
          refine aA gb8 ?_
          simp(config:=cS)only[go_sem,eZt h2,eZt h4,eqT h5,eqT h6,eqT h9,h11,h12,h13,h15,h16,h17,eZt h18,eqT h19,eqT h20]
         ·obtain ⟨x05,g21,b8⟩:=ae b8
          obtain ⟨h22,h23,h24⟩:=an g21
          obtain ⟨h25,b8⟩:=aE b8
          obtain ⟨h26,b8⟩:=aE b8
          try simp(config:=cS)only[go_sem] at h26
          obtain ⟨x06,g27,b8⟩:=ae b8
          obtain ⟨h28,h29,h30⟩:=an g27
          obtain ⟨h31,b8⟩:=aE b8
          try simp(config:=cS)only[go_sem] at h31
          obtain ⟨h32,b8⟩:=aE b8
          try simp(config:=cS)only[go_sem] at h32
          obtain ⟨r07,g33,b8⟩:=ae b8
          simp(config:=cS)only[go_sem,eZt h2,eZt h4,eqT h5,eqT h6,eqT h9,h11,h12,h13,h15,h16,h17,eZt h18,eqT h19,eqF h20,h22,h23,h24,eqT h25,eqT h26,h28,h29,h30,eqT h31,eqT h32]
          refine ah (eJ g33) ?_
          obtain ⟨h34,b8⟩:=aE b8
          try simp(config:=cS)only[go_sem] at h34
          obtain ⟨h35,b8⟩:=aE b8
          try simp(config:=cS)only[go_sem] at h35
          obtain ⟨r08,g36,b8⟩:=ae b8
          simp(config:=cS)only[go_sem,eZt h2,eZt h4,eqT h5,eqT h6,eqT h9,h11,h12,h13,h15,h16,h17,eZt h18,eqT h19,eqF h20,h22,h23,h24,eqT h25,eqT h26,h28,h29,h30,eqT h31,eqT h32,eqT h34,eqT h35]
          refine ah (eJ g36) ?_
          obtain ⟨h37,b8⟩:=aE b8
          try simp(config:=cS)only[go_sem] at h37
          obtain ⟨h38,b8⟩:=aE b8
          obtain ⟨h39,b8⟩:=aE b8
          cases b8
          simp(config:=cS)only[go_sem,eZt h2,eZt h4,eqT h5,eqT h6,eqT h9,h11,h12,h13,h15,h16,h17,eZt h18,eqT h19,eqF h20,h22,h23,h24,eqT h25,eqT h26,h28,h29,h30,eqT h31,eqT h32,eqT h34,eqT h35,eqT h37,eqT h38,eqT h39]
          refine aA gb8 ?_
          simp(config:=cS)only[go_sem,eZt h2,eZt h4,eqT h5,eqT h6,eqT h9,h11,h12,h13,h15,h16,h17,eZt h18,eqT h19,eqF h20,h22,h23,h24,eqT h25,eqT h26,h28,h29,h30,eqT h31,eqT h32,eqT h34,eqT h35,eqT h37,eqT h38,eqT h39]
        ·obtain ⟨x09,g40,b8⟩:=ae b8
         obtain ⟨h41,h42,h43⟩:=an g40
         obtain ⟨h44,b8⟩:=aE b8
         obtain ⟨h45,b8⟩:=aE b8
         try simp(config:=cS)only[go_sem] at h45
         obtain ⟨x10,g46,b8⟩:=ae b8
         obtain ⟨h47,h48,h49⟩:=an g46
         obtain ⟨h50,b8⟩:=aE b8
         try simp(config:=cS)only[go_sem] at h50
         obtain ⟨h51,b8⟩:=aE b8
         try simp(config:=cS)only[go_sem] at h51
         obtain ⟨r11,g52,b8⟩:=ae b8
         simp(config:=cS)only[go_sem,eZt h2,eZt h4,eqT h5,eqT h6,eqT h9,h11,h12,h13,h15,h16,h17,eZt h18,eqF h19,h41,h42,h43,eqT h44,eqT h45,h47,h48,h49,eqT h50,eqT h51]
         refine ah (eJ g52) ?_
         obtain ⟨h53,b8⟩:=aE b8
         try simp(config:=cS)only[go_sem] at h53
         obtain ⟨h54,b8⟩:=aE b8
         try simp(config:=cS)only[go_sem] at h54
         obtain ⟨r12,g55,b8⟩:=ae b8
         simp(config:=cS)only[go_sem,eZt h2,eZt h4,eqT h5,eqT h6,eqT h9,h11,h12,h13,h15,h16,h17,eZt h18,eqF h19,h41,h42,h43,eqT h44,eqT h45,h47,h48,h49,eqT h50,eqT h51,eqT h53,eqT h54]
         refine ah (eJ g55) ?_
         obtain ⟨h56,b8⟩:=aE b8
         try simp(config:=cS)only[go_sem] at h56
         obtain ⟨h57,b8⟩:=aE b8
         obtain ⟨h58,b8⟩:=aE b8
         cases b8
         simp(config:=cS)only[go_sem,eZt h2,eZt h4,eqT h5,eqT h6,eqT h9,h11,h12,h13,h15,h16,h17,eZt h18,eqF h19,h41,h42,h43,eqT h44,eqT h45,h47,h48,h49,eqT h50,eqT h51,eqT h53,eqT h54,eqT h56,eqT h57,eqT h58]
         refine aA gb8 ?_
         simp(config:=cS)only[go_sem,eZt h2,eZt h4,eqT h5,eqT h6,eqT h9,h11,h12,h13,h15,h16,h17,eZt h18,eqF h19,h41,h42,h43,eqT h44,eqT h45,h47,h48,h49,eqT h50,eqT h51,eqT h53,eqT h54,eqT h56,eqT h57,eqT h58]
       ·cases b8
        simp(config:=cS)only[go_sem,eZt h2,eZt h4,eqT h5,eqT h6,eqT h9,h11,h12,h13,h15,h16,h17,eZf h18]
        refine aA gb8 ?_
        simp(config:=cS)only[go_sem,eZt h2,eZt h4,eqT h5,eqT h6,eqT h9,h11,h12,h13,h15,h16,h17,eZf h18]
      ·cases b8
       obtain rfl:=(al gb8).symm
       try dsimp only at h
       cases h
       simp(config:=cS)only[go_sem,eZt h2,eZt h4,eqT h5,eqT h6,eqF h9]
    ·cases h
     simp(config:=cS)only[go_sem,eZt h2,eZt h4,eqT h5,eqF h6]
   ·cases h
    simp(config:=cS)only[go_sem,eZt h2,eZt h4,eqF h5]
  ·cases h
   simp(config:=cS)only[go_sem,eZt h2,eZf h4]
 ·cases h
  simp(config:=cS)only[go_sem,eZf h2]
def iu (s:ByteArray)(i:Int):St:=⟨[(0,.lit (.string s)),(3,.lit (.int .i64 i))],[],2⟩
attribute [go_sem] iu
@[go_sem] def hi144_4:DT:=.i2 0 (.i2 1 (.i2 2 (.i2 3 (.i2 4 (.i2 5 (.i2 6 (.i2 7 (.i2 8 (.i2 9 (.i2 10 (.i2 11 (.i2 12 (.i2 13 (.i2 14 (.i2 15 (.i2 16 (.i2 17 (.i2 18 (.i2 19 (.i2 20 (.i2 21 .nil)))))))))))))))))))))
def sp:Hint where
 acts:=fun _=>[]
 draws:=fun
  | 4=>⟨hi144_4,[[],[],[0,1],[0,1,2],[0,1,2,3],.range 5,.range 5,.range 7,.range 8,.range 9,[],[],[10,11],[10,11,12],[0,1,2,3,4,10,11,12,13],[0,1,2,3,4,10,11,12,13,14],[0,1,2,3,4,10,11,12,13,14],[0,1,2,3,4,10,11,12,13,14,15,16],[0,1,2,3,4,10,11,12,13,14,15,16,17],[0,1,2,3,4,10,11,12,13,14,15,16,17,18],.range 15,.range 21],[0,1,2,3,4,5,6,7,8,9,10,11,12,13,14,16,17,18,19,20,15,21]⟩
  | _=>⟨.nil,[],[]⟩
theorem zX (i:Nat):sp.acts i=[]:=rfl
theorem zY (i:Nat):sp.views i=none:=rfl
attribute [go_sem] zX zY Tryd.ntmps144 Tryd.results144
@[go_sem] theorem By:(sp.draws 4).order=hi144_4:=rfl
theorem rL {s:ByteArray}{res:Bool}(h:ff s=some res):ar Tryd.prog 144 [.lit (.string s)] [] (.lit (.bool res)) []:=by
 refine ao (ra:=[]) (md:=mdT) hT (hi:=sp) Tryd.func144 rfl rfl (by decide +kernel) (by simp) ?_
 unfold ff at h
 obtain ⟨q02,l1,h⟩:=ae h
 simp(config:=cS)only[go_sem]
 refine aw (m1:=.mk) (m2:=.mk) [.nf [0,3] []] (iu s) l1 ?_ ?_
 ·simp(config:=cS)only[go_sem]
 ·intro nb2 i_1 bb2 b2 gb2
  unfold cY at b2
  try dsimp only at b2
  obtain ⟨h3,b2⟩|⟨h3,b2⟩:=af b2
  ·obtain ⟨c1001,g4,b2⟩:=ae b2
   obtain ⟨h5,h6,h7⟩:=rg g4
   obtain ⟨h8,b2⟩|⟨h8,b2⟩:=af b2
   ·obtain ⟨h9,b2⟩|⟨h9,b2⟩:=af b2
    ·obtain ⟨h10,b2⟩|⟨h10,b2⟩:=af b2
     ·cases b2
      simp(config:=cS)only[go_sem,eqT h3,h5,h6,h7,eqT h8,eqT h9,eqT h10]
      refine aA gb2 ?_
      simp(config:=cS)only[go_sem]
     ·obtain ⟨h11,b2⟩|⟨h11,b2⟩:=af b2
      ·obtain ⟨h12,b2⟩|⟨h12,b2⟩:=af b2
       ·cases b2
        obtain rfl:=(al gb2).symm
        try dsimp only at h
        cases h
        simp(config:=cS)only[go_sem,eqT h3,h5,h6,h7,eqT h8,eqT h9,eqF h10,eqT h11,eqT h12]
       ·cases b2
        simp(config:=cS)only[go_sem,eqT h3,h5,h6,h7,eqT h8,eqT h9,eqF h10,eqT h11,eqF h12]
        refine aA gb2 ?_
        simp(config:=cS)only[go_sem]
      ·cases b2
       obtain rfl:=(al gb2).symm
       try dsimp only at h
       cases h
       simp(config:=cS)only[go_sem,eqT h3,h5,h6,h7,eqT h8,eqT h9,eqF h10,eqF h11]
    ·obtain ⟨h15,b2⟩|⟨h15,b2⟩:=af b2
     ·cases b2
      simp(config:=cS)only[go_sem,eqT h3,h5,h6,h7,eqT h8,eqF h9,eqT h15]
      refine aA gb2 ?_
      simp(config:=cS)only[go_sem]
     ·cases b2
      obtain rfl:=(al gb2).symm
      try dsimp only at h
      cases h
      simp(config:=cS)only[go_sem,eqT h3,h5,h6,h7,eqT h8,eqF h9,eqF h15]
   ·obtain ⟨h17,b2⟩|⟨h17,b2⟩:=af b2
    ·obtain ⟨h18,b2⟩|⟨h18,b2⟩:=af b2
     ·obtain ⟨h19,b2⟩|⟨h19,b2⟩:=af b2
      ·cases b2
       obtain rfl:=(al gb2).symm
       try dsimp only at h
       cases h
       simp(config:=cS)only[go_sem,eqT h3,h5,h6,h7,eqF h8,eqT h17,eqT h18,eqT h19]
      ·cases b2
       simp(config:=cS)only[go_sem,eqT h3,h5,h6,h7,eqF h8,eqT h17,eqT h18,eqF h19]
       refine aA gb2 ?_
       simp(config:=cS)only[go_sem]
     ·cases b2
      obtain rfl:=(al gb2).symm
      try dsimp only at h
      cases h
      simp(config:=cS)only[go_sem,eqT h3,h5,h6,h7,eqF h8,eqT h17,eqF h18]
    ·cases b2
     obtain rfl:=(al gb2).symm
     try dsimp only at h
     cases h
     simp(config:=cS)only[go_sem,eqT h3,h5,h6,h7,eqF h8,eqF h17]
  ·cases b2
   obtain rfl:=(al gb2).symm
   try dsimp only at h
   obtain ⟨h24,h⟩|⟨h24,h⟩:=af h
   ·cases h
    simp(config:=cS)only[go_sem,eqF h3,eqT h24]
   ·cases h
    simp(config:=cS)only[go_sem,eqF h3,eqF h24]
attribute [go_sem] Tryd.ntmps104 Tryd.results104
theorem ji {l res:Int}(h:dr l=some res):ar Tryd.prog 104 [.lit (.int .i64 l)] [] (.lit (.int .i64 res)) []:=by
 refine ao (ra:=[]) (md:=mdT) hT (hi:=hi00) Tryd.func104 rfl rfl (by decide +kernel) (by simp) ?_
 unfold dr at h
 cases h
 simp(config:=cS)only[go_sem]
def ib (l:List Int)(a b:Int):St:=⟨[(0,.sl (ab eI l)),(5,.sl (ab eI l)),(6,.lit (.int .i64 a)),(7,.lit (.int .i64 b))],[],2⟩
attribute [go_sem] ib
attribute [go_sem] Tryd.ntmps103 Tryd.results103
theorem iI {l:List Int}{res:Bool}(h:cZ l=some res):ar Tryd.prog 103 [.sl (ab eI l)] [] (.lit (.bool res)) []:=by
 refine ao (ra:=[]) (md:=mdT) hT (hi:=hi00) Tryd.func103 rfl rfl (by decide +kernel) (by simp) ?_
 unfold cZ at h
 obtain ⟨q05,l1,h⟩:=ae h
 simp(config:=cS)only[go_sem]
 refine aw (m1:=.mk) (m2:=.mk) [.nf [0,5,6,7] []] (ib l ((l.length:Nat):Int)) l1 ?_ ?_
 ·simp(config:=cS)only[go_sem]
 ·intro nb2 v7_1 bb2 b2 gb2
  unfold cA at b2
  try dsimp only at b2
  obtain ⟨h3,b2⟩|⟨h3,b2⟩:=af b2
  ·obtain ⟨x01,g4,b2⟩:=ae b2
   obtain ⟨h5,h6,h7⟩:=an g4
   obtain ⟨h8,b2⟩|⟨h8,b2⟩:=af b2
   ·cases b2
    obtain rfl:=(al gb2).symm
    try dsimp only at h
    cases h
    simp(config:=cS)only[go_sem,eqT h3,h5,h6,h7,eqT h8]
   ·obtain ⟨h10,b2⟩|⟨h10,b2⟩:=af b2
    ·cases b2
     obtain rfl:=(al gb2).symm
     try dsimp only at h
     cases h
     simp(config:=cS)only[go_sem,eqT h3,h5,h6,h7,eqF h8,eqT h10]
    ·obtain ⟨h12,b2⟩|⟨h12,b2⟩:=af b2
     ·cases b2
      obtain rfl:=(al gb2).symm
      try dsimp only at h
      cases h
      simp(config:=cS)only[go_sem,eqT h3,h5,h6,h7,eqF h8,eqF h10,eqT h12]
     ·obtain ⟨h14,b2⟩|⟨h14,b2⟩:=af b2
      ·obtain ⟨x02,g15,b2⟩:=ae b2
       obtain ⟨h16,h17,h18⟩:=an g15
       obtain ⟨r03,g19,b2⟩:=ae b2
       simp(config:=cS)only[go_sem,eqT h3,h5,h6,h7,eqF h8,eqF h10,eqF h12,eqT h14,h16,h17,h18]
       refine ah (ji g19) ?_
       obtain ⟨r04,g20,b2⟩:=ae b2
       simp(config:=cS)only[go_sem]
       refine ah (ji g20) ?_
       obtain ⟨h21,b2⟩|⟨h21,b2⟩:=af b2
       ·cases b2
        obtain rfl:=(al gb2).symm
        try dsimp only at h
        cases h
        simp(config:=cS)only[go_sem,eqT h21]
       ·cases b2
        simp(config:=cS)only[go_sem,eqF h21]
        refine aA gb2 ?_
        simp(config:=cS)only[go_sem]
      ·cases b2
       simp(config:=cS)only[go_sem,eqT h3,h5,h6,h7,eqF h8,eqF h10,eqF h12,eqF h14]
       refine aA gb2 ?_
       simp(config:=cS)only[go_sem]
  ·cases b2
   obtain rfl:=(al gb2).symm
   try dsimp only at h
   cases h
   simp(config:=cS)only[go_sem,eqF h3]
attribute [go_sem] Tryd.ntmps120 Tryd.results120
theorem rM {n:GNode}{res:Bool}(h:fg n=some res):ar Tryd.prog 120 [.agg (GNode.encS n)] [] (.lit (.bool res)) []:=by
 refine ao (ra:=[]) (md:=mdT) hT (hi:=hi00) Tryd.func120 rfl rfl (by decide +kernel) (by simp) ?_
 unfold fg at h
 obtain ⟨r01,g1,h⟩:=ae h
 simp(config:=cS)only[go_sem]
 refine ah (rL g1) ?_
 obtain ⟨h2,h⟩|⟨h2,h⟩:=af h
 ·obtain ⟨r02,g3,h⟩:=ae h
  simp(config:=cS)only[go_sem,eZt h2]
  refine ah (iI g3) ?_
  obtain ⟨h4,h⟩|⟨h4,h⟩:=af h
  ·obtain ⟨h5,h⟩|⟨h5,h⟩:=af h
   ·cases h
    simp(config:=cS)only[go_sem,eZt h2,eZt h4,eqT h5]
   ·cases h
    simp(config:=cS)only[go_sem,eZt h2,eZt h4,eqF h5]
  ·cases h
   simp(config:=cS)only[go_sem,eZt h2,eZf h4]
 ·cases h
  simp(config:=cS)only[go_sem,eZf h2]
def gI (a:List GNode)(b c:Int)(d:List GNode)(e:Int)(f:List GTie)(g:Int)(h:ByteArray)(i:List Int)(j k:Int):St:=⟨[(1,.ptr 64 1 0 0),(4,.ptr 256 1 0 0),(35,.sl (ab GNode.encS a)),(36,.lit (.int .i64 b)),(37,.lit (.int .i64 c)),(48,.sl (ab GNode.encS d)),(49,.lit (.int .i64 e)),(50,.lit (.int .i64 k))],[(64,1,.var [.sl (ab GNode.encS a),.sl (ab GTie.enc f),.lit (.int .i64 g)]),(256,1,.var [.lit (.string h),.sl (ab eI i),.lit (.int .i64 j)])],2⟩
attribute [go_sem] gI
def gJ (a:List GNode)(b:Int)(c:List GTie)(d e:Int):St:=⟨[(1,.ptr 64 1 0 0),(35,.sl (ab GNode.encS a)),(36,.lit (.int .i64 b)),(37,.lit (.int .i64 e))],[(64,1,.var [.sl (ab GNode.encS a),.sl (ab GTie.enc c),.lit (.int .i64 d)])],2⟩
attribute [go_sem] gJ
attribute [go_sem] Tryd.ntmps91 Tryd.results91
theorem pH {s:GShow}{res:Bool}(h:dY s=some res):ar Tryd.prog 91 [.agg (GShow.encS s)] [] (.lit (.bool res)) []:=by
 refine ao (ra:=[]) (md:=mdT) hT (hi:=hi00) Tryd.func91 rfl rfl (by decide +kernel) (by simp) ?_
 unfold dY at h
 obtain ⟨h1,h⟩|⟨h1,h⟩:=af h
 ·cases h
  simp(config:=cS)only[go_sem,eqT h1]
 ·obtain ⟨h2,h⟩|⟨h2,h⟩:=af h
  ·cases h
   simp(config:=cS)only[go_sem,eqF h1,eqT h2]
  ·obtain ⟨x01,g3,h⟩:=ae h
   obtain ⟨h5,h6⟩:=sJ (k:=0) g3
   obtain ⟨h7,h⟩|⟨h7,h⟩:=af h
   ·cases h
    simp(config:=cS)only[go_sem,eqF h1,eqF h2,h5,h6,eqT h7]
   ·obtain ⟨h8,h⟩|⟨h8,h⟩:=af h
    ·obtain ⟨q06,l9,h⟩:=ae h
     simp(config:=cS)only[go_sem,eqF h1,eqF h2,h5,h6,eqF h7,eqT h8]
     refine aw (m1:=.mk) (m2:=.mk) [.nf [1,35,36,37] [64]] (gJ s.nodes ((s.nodes.length:Nat):Int) s.ties s.horizon) l9 ?_ ?_
     ·simp(config:=cS)only[go_sem]
     ·intro nb10 v37_1 bb10 b10 gb10
      unfold cg at b10
      try dsimp only at b10
      obtain ⟨h11,b10⟩|⟨h11,b10⟩:=af b10
      ·obtain ⟨x02,g12,b10⟩:=ae b10
       obtain ⟨h13,h14,h15⟩:=an g12
       obtain ⟨r03,g16,b10⟩:=ae b10
       simp(config:=cS)only[go_sem,eqT h11,h13,h14,h15]
       refine ah (rM g16) ?_
       obtain ⟨h17,b10⟩|⟨h17,b10⟩:=af b10
       ·obtain ⟨h18,b10⟩:=aE b10
        obtain ⟨h19,b10⟩:=aE b10
        obtain ⟨q05,l20,b10⟩:=ae b10
        simp(config:=cS)only[go_sem,eZt h17,eqT h18,eqT h19]
        refine aw (m1:=.mk) (m2:=.mk) [.nf [1,4,35,36,37,48,49,50] [64,256]] (gI s.nodes ((s.nodes.length:Nat):Int) v37_1 (s.nodes.take v37_1.toNat) (((s.nodes.take v37_1.toNat).length:Nat):Int) s.ties s.horizon x02.name x02.label x02.watch) l20 ?_ ?_
        ·simp(config:=cS)only[go_sem]
        ·intro nb21 v50_2 bb21 b21 gb21
         unfold cf at b21
         try dsimp only at b21
         obtain ⟨h22,b21⟩|⟨h22,b21⟩:=af b21
         ·obtain ⟨x04,g23,b21⟩:=ae b21
          obtain ⟨h24,h25,h26⟩:=an g23
          obtain ⟨h27,b21⟩|⟨h27,b21⟩:=af b21
          ·cases b21
           obtain rfl:=(al gb21).symm
           try dsimp only at b10
           cases b10
           obtain rfl:=(al gb10).symm
           try dsimp only at h
           cases h
           simp(config:=cS)only[go_sem,eqT h22,h24,h25,h26,eqT h27]
          ·obtain ⟨h30,b21⟩|⟨h30,b21⟩:=af b21
           ·cases b21
            simp(config:=cS)only[go_sem,eqT h22,h24,h25,h26,eqF h27,eqT h30]
            refine aA gb21 ?_
            simp(config:=cS)only[go_sem]
           ·obtain ⟨h31,b21⟩|⟨h31,b21⟩:=af b21
            ·cases b21
             obtain rfl:=(al gb21).symm
             try dsimp only at b10
             cases b10
             obtain rfl:=(al gb10).symm
             try dsimp only at h
             cases h
             simp(config:=cS)only[go_sem,eqT h22,h24,h25,h26,eqF h27,eqF h30,eqT h31]
            ·cases b21
             simp(config:=cS)only[go_sem,eqT h22,h24,h25,h26,eqF h27,eqF h30,eqF h31]
             refine aA gb21 ?_
             simp(config:=cS)only[go_sem]
         ·cases b21
          obtain rfl:=(al gb21).symm
          try dsimp only at b10
          cases b10
          simp(config:=cS)only[go_sem,eqF h22]
          refine aA gb10 ?_
          simp(config:=cS)only[go_sem]
       ·cases b10
        obtain rfl:=(al gb10).symm
        try dsimp only at h
        cases h
        simp(config:=cS)only[go_sem,eZf h17]
      ·cases b10
       obtain rfl:=(al gb10).symm
       try dsimp only at h
       cases h
       simp(config:=cS)only[go_sem,eqF h11]
    ·cases h
     simp(config:=cS)only[go_sem,eqF h1,eqF h2,h5,h6,eqF h7,eqF h8]
attribute [go_sem] Tryd.ntmps121 Tryd.results121
theorem li {n node:Int}{res:Bool}(h:dQ n node=some res):ar Tryd.prog 121 [.lit (.int .i64 n),.lit (.int .i64 node)] [] (.lit (.bool res)) []:=by
 refine ao (ra:=[]) (md:=mdT) hT (hi:=hi00) Tryd.func121 rfl rfl (by decide +kernel) (by simp) ?_
 unfold dQ at h
 obtain ⟨h1,h⟩|⟨h1,h⟩:=af h
 ·cases h
  simp(config:=cS)only[go_sem,eqT h1]
 ·cases h
  simp(config:=cS)only[go_sem,eqF h1]
attribute [go_sem] Tryd.ntmps122 Tryd.results122
theorem lj {n:Int}{res:Bool}(h:dR n=some res):ar Tryd.prog 122 [.lit (.int .i64 n)] [] (.lit (.bool res)) []:=by
 refine ao (ra:=[]) (md:=mdT) hT (hi:=hi00) Tryd.func122 rfl rfl (by decide +kernel) (by simp) ?_
 unfold dR at h
 obtain ⟨h1,h⟩|⟨h1,h⟩:=af h
 ·cases h
  simp(config:=cS)only[go_sem,eqT h1]
 ·cases h
  simp(config:=cS)only[go_sem,eqF h1]
def fI (c d:List Int)(a b:Int):St:=⟨[(0,.sl (ab eI c)),(1,.sl (ab eI d)),(12,.lit (.int .i64 a)),(13,.lit (.int .i64 b))],[],2⟩
attribute [go_sem] fI
@[go_sem] def hi123_6:DT:=.i2 0 (.i2 1 (.i2 2 (.i2 3 (.i2 4 (.i2 5 (.i2 6 (.i2 7 (.i2 8 .nil))))))))
def sq:Hint where
 acts:=fun _=>[]
 draws:=fun
  | 6=>⟨hi123_6,[[],[],[0,1],[0,1,2],[],[],[4,5],[4,5,6],.range 8],.range 9⟩
  | _=>⟨.nil,[],[]⟩
theorem zZ (i:Nat):sq.acts i=[]:=rfl
theorem Aa (i:Nat):sq.views i=none:=rfl
attribute [go_sem] zZ Aa Tryd.ntmps123 Tryd.results123
@[go_sem] theorem Bz:(sq.draws 6).order=hi123_6:=rfl
theorem lN {v0 v1:List Int}{res:Bool}(h:dj v0 v1=some res):ar Tryd.prog 123 [.sl (ab eI v0),.sl (ab eI v1)] [] (.lit (.bool res)) []:=by
 refine ao (ra:=[]) (md:=mdT) hT (hi:=sq) Tryd.func123 rfl rfl (by decide +kernel) (by simp) ?_
 unfold dj at h
 obtain ⟨h1,h⟩|⟨h1,h⟩:=af h
 ·obtain ⟨q03,l2,h⟩:=ae h
  simp(config:=cS)only[go_sem,eqT h1]
  refine aw (m1:=.mk) (m2:=.mk) [.nf [0,1,12,13] []] (fI v0 v1 ((v0.length:Nat):Int)) l2 ?_ ?_
  ·simp(config:=cS)only[go_sem]
  ·intro nb3 v13_1 bb3 b3 gb3
   unfold br at b3
   try dsimp only at b3
   obtain ⟨h4,b3⟩|⟨h4,b3⟩:=af b3
   ·obtain ⟨x01,g5,b3⟩:=ae b3
    obtain ⟨h6,h7,h8⟩:=an g5
    obtain ⟨x02,g9,b3⟩:=ae b3
    obtain ⟨h10,h11,h12⟩:=an g9
    obtain ⟨h13,b3⟩|⟨h13,b3⟩:=af b3
    ·cases b3
     simp(config:=cS)only[go_sem,eqT h4,h6,h7,h8,h10,h11,h12,eqT h13]
     refine aA gb3 ?_
     simp(config:=cS)only[go_sem]
    ·cases b3
     obtain rfl:=(al gb3).symm
     try dsimp only at h
     cases h
     simp(config:=cS)only[go_sem,eqT h4,h6,h7,h8,h10,h11,h12,eqF h13]
   ·cases b3
    obtain rfl:=(al gb3).symm
    try dsimp only at h
    cases h
    simp(config:=cS)only[go_sem,eqF h4]
 ·cases h
  simp(config:=cS)only[go_sem,eqF h1]
def eo (c:List GTie)(a:Nat)(b:List AV)(d e:Int):St:=⟨[(0,.sl (ab GTie.enc c)),(1,.fn a b),(7,.lit (.int .i64 d)),(8,.lit (.int .i64 e))],[],2⟩
attribute [go_sem] eo
attribute [go_sem] Tryd.ntmps145 Tryd.results145
theorem kd {v0:List GTie}{v1:GTie→Option Bool}{f_v1:Nat}{k_v1:List AV}(hp_v1:∀ y0 r,v1 y0=some r→ar Tryd.prog f_v1 ([.agg (GTie.enc y0)]++k_v1) [] (.lit (.bool r)) [])(hc_v1:KC k_v1)(hm_v1:∀ a,mdT f_v1 a=⟨[],false⟩)(hk_v1:spf f_v1=false){res:Int}(h:bQ v0 v1=some res):ar Tryd.prog 145 [.sl (ab GTie.enc v0),.fn f_v1 k_v1] [] (.lit (.int .i64 res)) []:=by
 refine ao (ra:=[]) (md:=mdT) hT (hi:=hi00) Tryd.func145 rfl rfl (by decide +kernel) (by simp) ?_
 unfold bQ at h
 obtain ⟨q03,l1,h⟩:=ae h
 simp(config:=cS)only[go_sem,hc_v1.1,hc_v1.2,hm_v1,hk_v1]
 refine aw (m1:=.mk) (m2:=.mk) [.nf [0,1,7,8] []] (eo v0 f_v1 k_v1 ((v0.length:Nat):Int)) l1 ?_ ?_
 ·simp(config:=cS)only[go_sem,hc_v1.1,hc_v1.2,hm_v1,hk_v1]
 ·intro nb2 v8_1 bb2 b2 gb2
  unfold aY at b2
  try dsimp only at b2
  obtain ⟨h3,b2⟩|⟨h3,b2⟩:=af b2
  ·obtain ⟨x01,g4,b2⟩:=ae b2
   obtain ⟨h5,h6,h7⟩:=an g4
   obtain ⟨r02,g8,b2⟩:=ae b2
   simp(config:=cS)only[go_sem,hc_v1.1,hc_v1.2,hm_v1,hk_v1,eqT h3,h5,h6,h7]
   refine ah (hp_v1 _ _ g8) ?_
   obtain ⟨h9,b2⟩|⟨h9,b2⟩:=af b2
   ·cases b2
    obtain rfl:=(al gb2).symm
    try dsimp only at h
    cases h
    simp(config:=cS)only[go_sem,hc_v1.1,hc_v1.2,hm_v1,hk_v1,eqT h3,h5,h6,h7,eZt h9]
   ·cases b2
    simp(config:=cS)only[go_sem,hc_v1.1,hc_v1.2,hm_v1,hk_v1,eqT h3,h5,h6,h7,eZf h9]
    refine aA gb2 ?_
    simp(config:=cS)only[go_sem,hc_v1.1,hc_v1.2,hm_v1,hk_v1,eqT h3,h5,h6,h7,eZf h9]
  ·cases b2
   obtain rfl:=(al gb2).symm
   try dsimp only at h
   cases h
   simp(config:=cS)only[go_sem,hc_v1.1,hc_v1.2,hm_v1,hk_v1,eqF h3]
attribute [go_sem] Tryd.ntmps124 Tryd.results124
theorem jv {v0:List GTie}{v1:GTie→Option Bool}{f_v1:Nat}{k_v1:List AV}(hp_v1:∀ y0 r,v1 y0=some r→ar Tryd.prog f_v1 ([.agg (GTie.enc y0)]++k_v1) [] (.lit (.bool r)) [])(hc_v1:KC k_v1)(hm_v1:∀ a,mdT f_v1 a=⟨[],false⟩)(hk_v1:spf f_v1=false){res:Bool}(h:aZ v0 v1=some res):ar Tryd.prog 124 [.sl (ab GTie.enc v0),.fn f_v1 k_v1] [] (.lit (.bool res)) []:=by
 refine ao (ra:=[]) (md:=mdT) hT (hi:=hi00) Tryd.func124 rfl rfl (by decide +kernel) (by simp) ?_
 unfold aZ at h
 obtain ⟨r01,g1,h⟩:=ae h
 simp(config:=cS)only[go_sem,hc_v1.1,hc_v1.2,hm_v1,hk_v1]
 refine ah (kd hp_v1 hc_v1 hm_v1 hk_v1 g1) ?_
 cases h
 simp(config:=cS)only[go_sem]
attribute [go_sem] Tryd.ntmps125 Tryd.results125
theorem mK {u t:GTie}{res:Bool}(h:dv u t=some res):ar Tryd.prog 125 [.agg (GTie.enc u),.loc [.lit (.int .i64 t.from_),.lit (.int .i64 t.to),.lit (.int .i64 t.low),.lit (.int .i64 t.high),.lit (.bool t.free)]] [] (.lit (.bool res)) []:=by
 refine ao (ra:=[]) (md:=mdT) hT (hi:=hi00) Tryd.func125 rfl rfl (by decide +kernel) (by simp) ?_
 unfold dv at h
 obtain ⟨h1,h⟩|⟨h1,h⟩:=af h
 ·cases h
  simp(config:=cS)only[go_sem,eZt h1]
 ·cases h
  simp(config:=cS)only[go_sem,eZf h1]
def ic (a:List GTie)(d:Int)(b:List GNode)(c e:Int):St:=⟨[(1,.ptr 64 1 0 0),(6,.sl (ab GTie.enc a)),(7,.lit (.int .i64 d)),(8,.lit (.int .i64 e))],[(64,1,.var [.sl (ab GNode.encS b),.sl (ab GTie.enc a),.lit (.int .i64 c)])],2⟩
attribute [go_sem] ic
@[go_sem] def hi92_7:DT:=.i2 0 (.i2 1 (.i2 2 (.i2 3 (.i2 4 (.i2 5 (.i2 6 (.i2 7 (.i2 8 (.i2 9 (.i2 10 (.i2 11 (.i2 12 (.i2 13 (.i2 14 (.i2 15 (.i2 16 (.i2 17 (.i2 18 (.i2 19 (.i2 20 (.i2 21 (.i2 22 (.i2 23 (.i2 24 (.i2 25 (.i2 26 (.i2 27 (.i2 28 (.i2 29 (.i2 30 (.i2 31 (.i2 32 (.i2 33 (.i2 34 (.i2 35 .nil)))))))))))))))))))))))))))))))))))
def hi92:Hint where
 acts:=fun _=>[]
 draws:=fun
  | 7=>⟨hi92_7,[[],[0],[0,1],[0,1,2],[0,1,2,3],.range 5,.range 6,.range 7,.range 8,.range 9,.range 10,.range 9,[0,1,2,3,4,5,6,7,8,11],.range 13,.range 14,.range 15,.range 16,.range 17,.range 18,.range 19,.range 20,.range 19,[0,1,2,3,4,5,6,7,8,9,10,11,12,13,14,15,16,17,18,21],.range 23,.range 24,.range 25,.range 19,[0,1,2,3,4,5,6,7,8,9,10,11,12,13,14,15,16,17,18,26],.range 19,[0,1,2,3,4,5,6,7,8,9,10,11,12,13,14,15,16,17,18,28],[0,1,2,3,4,5,6,7,8,9,10,11,12,13,14,15,16,17,18,26,27,28,29],[0,1,2,3,4,5,6,7,8,9,10,11,12,13,14,15,16,17,18,26,27,28,29,30],[0,1,2,3,4,5,6,7,8,9,10,11,12,13,14,15,16,17,18,26,27,28,29,30,31],.range 33,.range 34,.range 35],.range 36⟩
  | _=>⟨.nil,[],[]⟩
theorem AO (i:Nat):hi92.acts i=[]:=rfl
theorem AP (i:Nat):hi92.views i=none:=rfl
attribute [go_sem] AO AP Tryd.ntmps92 Tryd.results92
@[go_sem] theorem BC:(hi92.draws 7).order=hi92_7:=rfl
theorem qA {s:GShow}{res:Bool}(h:ey s=some res):ar Tryd.prog 92 [.agg (GShow.encS s)] [] (.lit (.bool res)) []:=by
 refine ao (ra:=[]) (md:=mdT) hT (hi:=hi92) Tryd.func92 rfl rfl (by decide +kernel) (by simp) ?_
 unfold ey at h
 obtain ⟨q10,l1,h⟩:=ae h
 simp(config:=cS)only[go_sem]
 refine aw (m1:=.mk) (m2:=.mk) [.nf [1,6,7,8] [64]] (ic s.ties ((s.ties.length:Nat):Int) s.nodes s.horizon) l1 ?_ ?_
 ·simp(config:=cS)only[go_sem]
 ·intro nb2 v8_1 bb2 b2 gb2
  unfold cB at b2
  try dsimp only at b2
  obtain ⟨h3,b2⟩|⟨h3,b2⟩:=af b2
  ·obtain ⟨x01,g4,b2⟩:=ae b2
   obtain ⟨h5,h6,h7⟩:=an g4
   obtain ⟨r02,g8,b2⟩:=ae b2
   simp(config:=cS)only[go_sem,eqT h3,h5,h6,h7]
   refine ah (li g8) ?_
   obtain ⟨h9,b2⟩|⟨h9,b2⟩:=af b2
   ·obtain ⟨r03,g10,b2⟩:=ae b2
    simp(config:=cS)only[go_sem,eqT h3,h5,h6,h7,eZt h9]
    refine ah (li g10) ?_
    obtain ⟨h11,b2⟩|⟨h11,b2⟩:=af b2
    ·obtain ⟨h12,b2⟩|⟨h12,b2⟩:=af b2
     ·cases b2
      obtain rfl:=(al gb2).symm
      try dsimp only at h
      cases h
      simp(config:=cS)only[go_sem,eqT h3,h5,h6,h7,eZt h9,eZt h11,eqT h12]
     ·obtain ⟨r04,g14,b2⟩:=ae b2
      simp(config:=cS)only[go_sem,eqT h3,h5,h6,h7,eZt h9,eZt h11,eqF h12]
      refine ah (lj g14) ?_
      obtain ⟨h15,b2⟩|⟨h15,b2⟩:=af b2
      ·obtain ⟨r05,g16,b2⟩:=ae b2
       simp(config:=cS)only[go_sem,eqT h3,h5,h6,h7,eZt h9,eZt h11,eqF h12,eZt h15]
       refine ah (lj g16) ?_
       obtain ⟨h17,b2⟩|⟨h17,b2⟩:=af b2
       ·obtain ⟨h18,b2⟩|⟨h18,b2⟩:=af b2
        ·cases b2
         obtain rfl:=(al gb2).symm
         try dsimp only at h
         cases h
         simp(config:=cS)only[go_sem,eqT h3,h5,h6,h7,eZt h9,eZt h11,eqF h12,eZt h15,eZt h17,eqT h18]
        ·obtain ⟨h20,b2⟩|⟨h20,b2⟩:=af b2
         ·obtain ⟨h21,b2⟩|⟨h21,b2⟩:=af b2
          ·cases b2
           obtain rfl:=(al gb2).symm
           try dsimp only at h
           cases h
           simp(config:=cS)only[go_sem,eqT h3,h5,h6,h7,eZt h9,eZt h11,eqF h12,eZt h15,eZt h17,eqF h18,eZt h20,eqT h21]
          ·obtain ⟨h23,b2⟩|⟨h23,b2⟩:=af b2
           ·cases b2
            obtain rfl:=(al gb2).symm
            try dsimp only at h
            cases h
            simp(config:=cS)only[go_sem,eqT h3,h5,h6,h7,eZt h9,eZt h11,eqF h12,eZt h15,eZt h17,eqF h18,eZt h20,eqF h21,eqT h23]
           ·obtain ⟨x06,g25,b2⟩:=ae b2
            obtain ⟨h26,h27,h28⟩:=an g25
            obtain ⟨h29,b2⟩|⟨h29,b2⟩:=af b2
            ·obtain ⟨x07,g30,b2⟩:=ae b2
             obtain ⟨h31,h32,h33⟩:=an g30
             obtain ⟨r08,g34,b2⟩:=ae b2
             simp(config:=cS)only[go_sem,eqT h3,h5,h6,h7,eZt h9,eZt h11,eqF h12,eZt h15,eZt h17,eqF h18,eZt h20,eqF h21,eqF h23,h26,h27,h28,eqT h29,h31,h32,h33]
             refine ah (lN g34) ?_
             obtain ⟨h35,b2⟩|⟨h35,b2⟩:=af b2
             ·obtain ⟨h36,b2⟩:=aE b2
              obtain ⟨h37,b2⟩:=aE b2
              obtain ⟨r09,g38,b2⟩:=ae b2
              simp(config:=cS)only[go_sem,eqT h3,h5,h6,h7,eZt h9,eZt h11,eqF h12,eZt h15,eZt h17,eqF h18,eZt h20,eqF h21,eqF h23,h26,h27,h28,eqT h29,h31,h32,h33,eZt h35,eqT h36,eqT h37]
              refine ah (jv (by exact fun _ _ hr=>mK hr) (by refine ⟨fun _=>?_,fun _=>?_⟩ <;> simp only [go_sem]) (fun _=>rfl) rfl g38) ?_
              obtain ⟨h39,b2⟩|⟨h39,b2⟩:=af b2
              ·cases b2
               obtain rfl:=(al gb2).symm
               try dsimp only at h
               cases h
               simp(config:=cS)only[go_sem,eqT h3,h5,h6,h7,eZt h9,eZt h11,eqF h12,eZt h15,eZt h17,eqF h18,eZt h20,eqF h21,eqF h23,h26,h27,h28,eqT h29,h31,h32,h33,eZt h35,eqT h36,eqT h37,eZt h39]
              ·cases b2
               simp(config:=cS)only[go_sem,eqT h3,h5,h6,h7,eZt h9,eZt h11,eqF h12,eZt h15,eZt h17,eqF h18,eZt h20,eqF h21,eqF h23,h26,h27,h28,eqT h29,h31,h32,h33,eZt h35,eqT h36,eqT h37,eZf h39]
               refine aA gb2 ?_
               simp(config:=cS)only[go_sem,eqT h3,h5,h6,h7,eZt h9,eZt h11,eqF h12,eZt h15,eZt h17,eqF h18,eZt h20,eqF h21,eqF h23,h26,h27,h28,eqT h29,h31,h32,h33,eZt h35,eqT h36,eqT h37,eZf h39]
             ·cases b2
              obtain rfl:=(al gb2).symm
              try dsimp only at h
              cases h
              simp(config:=cS)only[go_sem,eqT h3,h5,h6,h7,eZt h9,eZt h11,eqF h12,eZt h15,eZt h17,eqF h18,eZt h20,eqF h21,eqF h23,h26,h27,h28,eqT h29,h31,h32,h33,eZf h35]
            ·cases b2
             obtain rfl:=(al gb2).symm
             try dsimp only at h
             cases h
             simp(config:=cS)only[go_sem,eqT h3,h5,h6,h7,eZt h9,eZt h11,eqF h12,eZt h15,eZt h17,eqF h18,eZt h20,eqF h21,eqF h23,h26,h27,h28,eqF h29]
         ·cases b2
          simp(config:=cS)only[go_sem,eqT h3,h5,h6,h7,eZt h9,eZt h11,eqF h12,eZt h15,eZt h17,eqF h18,eZf h20]
          refine aA gb2 ?_
          simp(config:=cS)only[go_sem,eqT h3,h5,h6,h7,eZt h9,eZt h11,eqF h12,eZt h15,eZt h17,eqF h18,eZf h20]
       ·cases b2
        obtain rfl:=(al gb2).symm
        try dsimp only at h
        cases h
        simp(config:=cS)only[go_sem,eqT h3,h5,h6,h7,eZt h9,eZt h11,eqF h12,eZt h15,eZf h17]
      ·cases b2
       obtain rfl:=(al gb2).symm
       try dsimp only at h
       cases h
       simp(config:=cS)only[go_sem,eqT h3,h5,h6,h7,eZt h9,eZt h11,eqF h12,eZf h15]
    ·cases b2
     obtain rfl:=(al gb2).symm
     try dsimp only at h
     cases h
     simp(config:=cS)only[go_sem,eqT h3,h5,h6,h7,eZt h9,eZf h11]
   ·cases b2
    obtain rfl:=(al gb2).symm
    try dsimp only at h
    cases h
    simp(config:=cS)only[go_sem,eqT h3,h5,h6,h7,eZf h9]
  ·cases b2
   obtain rfl:=(al gb2).symm
   try dsimp only at h
   cases h
   simp(config:=cS)only[go_sem,eqF h3]
def ep (c:List Int)(a:Nat)(b:List AV)(d e:Int):St:=⟨[(0,.sl (ab eI c)),(1,.fn a b),(7,.lit (.int .i64 d)),(8,.lit (.int .i64 e))],[],2⟩
attribute [go_sem] ep
attribute [go_sem] Tryd.ntmps126 Tryd.results126
theorem ke {v0:List Int}{v1:Int→Option Bool}{f_v1:Nat}{k_v1:List AV}(hp_v1:∀ y0 r,v1 y0=some r→ar Tryd.prog f_v1 ([.lit (.int .i64 y0)]++k_v1) [] (.lit (.bool r)) [])(hc_v1:KC k_v1)(hm_v1:∀ a,mdT f_v1 a=⟨[],false⟩)(hk_v1:spf f_v1=false){res:Int}(h:bR v0 v1=some res):ar Tryd.prog 126 [.sl (ab eI v0),.fn f_v1 k_v1] [] (.lit (.int .i64 res)) []:=by
 refine ao (ra:=[]) (md:=mdT) hT (hi:=hi00) Tryd.func126 rfl rfl (by decide +kernel) (by simp) ?_
 unfold bR at h
 obtain ⟨q03,l1,h⟩:=ae h
 simp(config:=cS)only[go_sem,hc_v1.1,hc_v1.2,hm_v1,hk_v1]
 refine aw (m1:=.mk) (m2:=.mk) [.nf [0,1,7,8] []] (ep v0 f_v1 k_v1 ((v0.length:Nat):Int)) l1 ?_ ?_
 ·simp(config:=cS)only[go_sem,hc_v1.1,hc_v1.2,hm_v1,hk_v1]
 ·intro nb2 v8_1 bb2 b2 gb2
  unfold ba at b2
  try dsimp only at b2
  obtain ⟨h3,b2⟩|⟨h3,b2⟩:=af b2
  ·obtain ⟨x01,g4,b2⟩:=ae b2
   obtain ⟨h5,h6,h7⟩:=an g4
   obtain ⟨r02,g8,b2⟩:=ae b2
   simp(config:=cS)only[go_sem,hc_v1.1,hc_v1.2,hm_v1,hk_v1,eqT h3,h5,h6,h7]
   refine ah (hp_v1 _ _ g8) ?_
   obtain ⟨h9,b2⟩|⟨h9,b2⟩:=af b2
   ·cases b2
    obtain rfl:=(al gb2).symm
    try dsimp only at h
    cases h
    simp(config:=cS)only[go_sem,hc_v1.1,hc_v1.2,hm_v1,hk_v1,eqT h3,h5,h6,h7,eZt h9]
   ·cases b2
    simp(config:=cS)only[go_sem,hc_v1.1,hc_v1.2,hm_v1,hk_v1,eqT h3,h5,h6,h7,eZf h9]
    refine aA gb2 ?_
    simp(config:=cS)only[go_sem,hc_v1.1,hc_v1.2,hm_v1,hk_v1,eqT h3,h5,h6,h7,eZf h9]
  ·cases b2
   obtain rfl:=(al gb2).symm
   try dsimp only at h
   cases h
   simp(config:=cS)only[go_sem,hc_v1.1,hc_v1.2,hm_v1,hk_v1,eqF h3]
attribute [go_sem] Tryd.ntmps93 Tryd.results93
theorem fz {v0:List Int}{v1:Int→Option Bool}{f_v1:Nat}{k_v1:List AV}(hp_v1:∀ y0 r,v1 y0=some r→ar Tryd.prog f_v1 ([.lit (.int .i64 y0)]++k_v1) [] (.lit (.bool r)) [])(hc_v1:KC k_v1)(hm_v1:∀ a,mdT f_v1 a=⟨[],false⟩)(hk_v1:spf f_v1=false){res:Bool}(h:aO v0 v1=some res):ar Tryd.prog 93 [.sl (ab eI v0),.fn f_v1 k_v1] [] (.lit (.bool res)) []:=by
 refine ao (ra:=[]) (md:=mdT) hT (hi:=hi00) Tryd.func93 rfl rfl (by decide +kernel) (by simp) ?_
 unfold aO at h
 obtain ⟨r01,g1,h⟩:=ae h
 simp(config:=cS)only[go_sem,hc_v1.1,hc_v1.2,hm_v1,hk_v1]
 refine ah (ke hp_v1 hc_v1 hm_v1 hk_v1 g1) ?_
 cases h
 simp(config:=cS)only[go_sem]
def ed (c:List GNode)(a:Nat)(b:List AV)(d e:Int):St:=⟨[(0,.sl (ab GNode.encS c)),(1,.fn a b),(7,.lit (.int .i64 d)),(8,.lit (.int .i64 e))],[],2⟩
attribute [go_sem] ed
attribute [go_sem] Tryd.ntmps146 Tryd.results146
theorem jN {v0:List GNode}{v1:GNode→Option Bool}{f_v1:Nat}{k_v1:List AV}(hp_v1:∀ y0 r,v1 y0=some r→ar Tryd.prog f_v1 ([.agg (GNode.encS y0)]++k_v1) [] (.lit (.bool r)) [])(hc_v1:KC k_v1)(hm_v1:∀ a,mdT f_v1 a=⟨[],false⟩)(hk_v1:spf f_v1=false){res:Int}(h:bI v0 v1=some res):ar Tryd.prog 146 [.sl (ab GNode.encS v0),.fn f_v1 k_v1] [] (.lit (.int .i64 res)) []:=by
 refine ao (ra:=[]) (md:=mdT) hT (hi:=hi00) Tryd.func146 rfl rfl (by decide +kernel) (by simp) ?_
 unfold bI at h
 obtain ⟨q03,l1,h⟩:=ae h
 simp(config:=cS)only[go_sem,hc_v1.1,hc_v1.2,hm_v1,hk_v1]
 refine aw (m1:=.mk) (m2:=.mk) [.nf [0,1,7,8] []] (ed v0 f_v1 k_v1 ((v0.length:Nat):Int)) l1 ?_ ?_
 ·simp(config:=cS)only[go_sem,hc_v1.1,hc_v1.2,hm_v1,hk_v1]
 ·intro nb2 v8_1 bb2 b2 gb2
  unfold aU at b2
  try dsimp only at b2
  obtain ⟨h3,b2⟩|⟨h3,b2⟩:=af b2
  ·obtain ⟨x01,g4,b2⟩:=ae b2
   obtain ⟨h5,h6,h7⟩:=an g4
   obtain ⟨r02,g8,b2⟩:=ae b2
   simp(config:=cS)only[go_sem,hc_v1.1,hc_v1.2,hm_v1,hk_v1,eqT h3,h5,h6,h7]
   refine ah (hp_v1 _ _ g8) ?_
   obtain ⟨h9,b2⟩|⟨h9,b2⟩:=af b2
   ·cases b2
    obtain rfl:=(al gb2).symm
    try dsimp only at h
    cases h
    simp(config:=cS)only[go_sem,hc_v1.1,hc_v1.2,hm_v1,hk_v1,eqT h3,h5,h6,h7,eZt h9]
   ·cases b2
    simp(config:=cS)only[go_sem,hc_v1.1,hc_v1.2,hm_v1,hk_v1,eqT h3,h5,h6,h7,eZf h9]
    refine aA gb2 ?_
    simp(config:=cS)only[go_sem,hc_v1.1,hc_v1.2,hm_v1,hk_v1,eqT h3,h5,h6,h7,eZf h9]
  ·cases b2
   obtain rfl:=(al gb2).symm
   try dsimp only at h
   cases h
   simp(config:=cS)only[go_sem,hc_v1.1,hc_v1.2,hm_v1,hk_v1,eqF h3]
attribute [go_sem] Tryd.ntmps147 Tryd.results147
theorem mL {n:GNode}{p:Int}{res:Bool}(h:eh n p=some res):ar Tryd.prog 147 [.agg (GNode.encS n),.loc [.lit (.int .i64 p)]] [] (.lit (.bool res)) []:=by
 refine ao (ra:=[]) (md:=mdT) hT (hi:=hi00) Tryd.func147 rfl rfl (by decide +kernel) (by simp) ?_
 unfold eh at h
 obtain ⟨h1,h⟩|⟨h1,h⟩:=af h
 ·cases h
  simp(config:=cS)only[go_sem,eqT h1]
 ·cases h
  simp(config:=cS)only[go_sem,eqF h1]
attribute [go_sem] Tryd.ntmps127 Tryd.results127
theorem qB {s:GShow}{p res:Int}(h:ez s p=some res):ar Tryd.prog 127 [.agg (GShow.encS s),.lit (.int .i64 p)] [] (.lit (.int .i64 res)) []:=by
 refine ao (ra:=[]) (md:=mdT) hT (hi:=hi00) Tryd.func127 rfl rfl (by decide +kernel) (by simp) ?_
 unfold ez at h
 obtain ⟨r01,g1,h⟩:=ae h
 simp(config:=cS)only[go_sem]
 refine ah (jN (by exact fun _ _ hr=>mL hr) (by refine ⟨fun _=>?_,fun _=>?_⟩ <;> simp only [go_sem]) (fun _=>rfl) rfl g1) ?_
 cases h
 simp(config:=cS)only[go_sem]
def fJ (a:List Int)(b c d:Int):St:=⟨[(0,.sl (ab eI a)),(1,.lit (.int .i64 b)),(7,.lit (.int .i64 c)),(8,.lit (.int .i64 d))],[],2⟩
attribute [go_sem] fJ
attribute [go_sem] Tryd.ntmps148 Tryd.results148
theorem lO {v0:List Int}{v1 res:Int}(h:dl v0 v1=some res):ar Tryd.prog 148 [.sl (ab eI v0),.lit (.int .i64 v1)] [] (.lit (.int .i64 res)) []:=by
 refine ao (ra:=[]) (md:=mdT) hT (hi:=hi00) Tryd.func148 rfl rfl (by decide +kernel) (by simp) ?_
 unfold dl at h
 obtain ⟨q02,l1,h⟩:=ae h
 simp(config:=cS)only[go_sem]
 refine aw (m1:=.mk) (m2:=.mk) [.nf [0,1,7,8] []] (fJ v0 v1 ((v0.length:Nat):Int)) l1 ?_ ?_
 ·simp(config:=cS)only[go_sem]
 ·intro nb2 v8_1 bb2 b2 gb2
  unfold bu at b2
  try dsimp only at b2
  obtain ⟨h3,b2⟩|⟨h3,b2⟩:=af b2
  ·obtain ⟨x01,g4,b2⟩:=ae b2
   obtain ⟨h5,h6,h7⟩:=an g4
   obtain ⟨h8,b2⟩|⟨h8,b2⟩:=af b2
   ·cases b2
    obtain rfl:=(al gb2).symm
    try dsimp only at h
    cases h
    simp(config:=cS)only[go_sem,eqT h3,h5,h6,h7,eqT h8]
   ·cases b2
    simp(config:=cS)only[go_sem,eqT h3,h5,h6,h7,eqF h8]
    refine aA gb2 ?_
    simp(config:=cS)only[go_sem]
  ·cases b2
   obtain rfl:=(al gb2).symm
   try dsimp only at h
   cases h
   simp(config:=cS)only[go_sem,eqF h3]
attribute [go_sem] Tryd.ntmps128 Tryd.results128
theorem er {v0:List Int}{v1:Int}{res:Bool}(h:bd v0 v1=some res):ar Tryd.prog 128 [.sl (ab eI v0),.lit (.int .i64 v1)] [] (.lit (.bool res)) []:=by
 refine ao (ra:=[]) (md:=mdT) hT (hi:=hi00) Tryd.func128 rfl rfl (by decide +kernel) (by simp) ?_
 unfold bd at h
 obtain ⟨r01,g1,h⟩:=ae h
 simp(config:=cS)only[go_sem]
 refine ah (lO g1) ?_
 cases h
 simp(config:=cS)only[go_sem]
attribute [go_sem] Tryd.ntmps149 Tryd.results149
theorem kf {v0:Int}{a:List Int}{res:Bool}(h:dc v0 a=some res):ar Tryd.prog 149 [.lit (.int .i64 v0),.loc [.sl (ab eI a)]] [] (.lit (.bool res)) []:=by
 refine ao (ra:=[]) (md:=mdT) hT (hi:=hi00) Tryd.func149 rfl rfl (by decide +kernel) (by simp) ?_
 unfold dc at h
 obtain ⟨r01,g1,h⟩:=ae h
 simp(config:=cS)only[go_sem]
 refine ah (er g1) ?_
 cases h
 simp(config:=cS)only[go_sem]
attribute [go_sem] Tryd.ntmps129 Tryd.results129
theorem lr {a b:List Int}{res:Bool}(h:cJ a b=some res):ar Tryd.prog 129 [.sl (ab eI a),.sl (ab eI b)] [] (.lit (.bool res)) []:=by
 refine ao (ra:=[]) (md:=mdT) hT (hi:=hi00) Tryd.func129 rfl rfl (by decide +kernel) (by simp) ?_
 unfold cJ at h
 obtain ⟨r01,g1,h⟩:=ae h
 simp(config:=cS)only[go_sem]
 refine ah (iI g1) ?_
 obtain ⟨h2,h⟩|⟨h2,h⟩:=af h
 ·obtain ⟨r02,g3,h⟩:=ae h
  simp(config:=cS)only[go_sem,eZt h2]
  refine ah (iI g3) ?_
  obtain ⟨h4,h⟩|⟨h4,h⟩:=af h
  ·obtain ⟨r03,g5,h⟩:=ae h
   simp(config:=cS)only[go_sem,eZt h2,eZt h4]
   refine ah (fz (by exact fun _ _ hr=>kf hr) (by refine ⟨fun _=>?_,fun _=>?_⟩ <;> simp only [go_sem]) (fun _=>rfl) rfl g5) ?_
   cases h
   simp(config:=cS)only[go_sem,eZt h2,eZt h4]
  ·cases h
   simp(config:=cS)only[go_sem,eZt h2,eZf h4]
 ·cases h
  simp(config:=cS)only[go_sem,eZf h2]
@[go_sem] def hi95_1:DT:=.i1 0 (.i2 1 (.i0 2 [0] (.i2 3 (.i2 4 .nil))))
def hi95:Hint where
 acts:=fun _=>[]
 draws:=fun
  | 1=>⟨hi95_1,[[],[],[1],[0,1,2],[0,1,2,3]],.range 5⟩
  | _=>⟨.nil,[],[]⟩
theorem AQ (i:Nat):hi95.acts i=[]:=rfl
theorem AR (i:Nat):hi95.views i=none:=rfl
attribute [go_sem] AQ AR Tryd.ntmps95 Tryd.results95
@[go_sem] theorem BD:(hi95.draws 1).order=hi95_1:=rfl
theorem nV {s:GShow}{label:List Int}{v2:Int}{res:Bool}(h:dI s label v2=some res):ar Tryd.prog 95 [.agg (GShow.encS s),.sl (ab eI label),.lit (.int .i64 v2)] [] (.lit (.bool res)) []:=by
 refine ao (ra:=[]) (md:=mdT) hT (hi:=hi95) Tryd.func95 rfl rfl (by decide +kernel) (by simp) ?_
 unfold dI at h
 obtain ⟨r01,g1,h⟩:=ae h
 simp(config:=cS)only[go_sem]
 refine ah (ji g1) ?_
 obtain ⟨r02,g2,h⟩:=ae h
 simp(config:=cS)only[go_sem]
 refine ah (qB g2) ?_
 obtain ⟨h3,h⟩|⟨h3,h⟩:=af h
 ·cases h
  simp(config:=cS)only[go_sem,eqT h3]
 ·obtain ⟨x03,g4,h⟩:=ae h
  obtain ⟨h5,h6,h7⟩:=an g4
  obtain ⟨r04,g8,h⟩:=ae h
  simp(config:=cS)only[go_sem,eqF h3,h5,h6,h7]
  refine ah (er g8) ?_
  obtain ⟨h9,h⟩|⟨h9,h⟩:=af h
  ·cases h
   simp(config:=cS)only[go_sem,eqF h3,h5,h6,h7,eZt h9]
  ·obtain ⟨r05,g10,h⟩:=ae h
   simp(config:=cS)only[go_sem,eqF h3,h5,h6,h7,eZf h9]
   refine ah (er g10) ?_
   obtain ⟨h11,h⟩|⟨h11,h⟩:=af h
   ·cases h
    simp(config:=cS)only[go_sem,eqF h3,h5,h6,h7,eZf h9,eZt h11]
   ·obtain ⟨r06,g12,h⟩:=ae h
    simp(config:=cS)only[go_sem,eqF h3,h5,h6,h7,eZf h9,eZf h11]
    refine ah (lr g12) ?_
    cases h
    simp(config:=cS)only[go_sem,eqF h3,h5,h6,h7,eZf h9,eZf h11]
attribute [go_sem] Tryd.ntmps94 Tryd.results94
theorem nW {v0:Int}{s:GShow}{n:GNode}{res:Bool}(h:dJ v0 s n=some res):ar Tryd.prog 94 [.lit (.int .i64 v0),.loc [.sl (ab GNode.encS s.nodes),.sl (ab GTie.enc s.ties),.lit (.int .i64 s.horizon)],.loc [.lit (.string n.name),.sl (ab eI n.label),.lit (.int .i64 n.watch)]] [] (.lit (.bool res)) []:=by
 refine ao (ra:=[]) (md:=mdT) hT (hi:=hi00) Tryd.func94 rfl rfl (by decide +kernel) (by simp) ?_
 unfold dJ at h
 obtain ⟨r01,g1,h⟩:=ae h
 simp(config:=cS)only[go_sem]
 refine ah (nV g1) ?_
 cases h
 simp(config:=cS)only[go_sem]
def iv (a:List GNode)(b:Int)(c:List GTie)(d e:Int):St:=⟨[(1,.ptr 64 1 0 0),(24,.sl (ab GNode.encS a)),(25,.lit (.int .i64 b)),(26,.lit (.int .i64 e))],[(64,1,.var [.sl (ab GNode.encS a),.sl (ab GTie.enc c),.lit (.int .i64 d)])],2⟩
attribute [go_sem] iv
attribute [go_sem] Tryd.ntmps63 Tryd.results63
theorem lk {s:GShow}{res:Bool}(h:dS s=some res):ar Tryd.prog 63 [.agg (GShow.encS s)] [] (.lit (.bool res)) []:=by
 refine ao (ra:=[]) (md:=mdT) hT (hi:=hi00) Tryd.func63 rfl rfl (by decide +kernel) (by simp) ?_
 unfold dS at h
 obtain ⟨r01,g1,h⟩:=ae h
 simp(config:=cS)only[go_sem]
 refine ah (pH g1) ?_
 obtain ⟨h2,h⟩|⟨h2,h⟩:=af h
 ·obtain ⟨r02,g3,h⟩:=ae h
  simp(config:=cS)only[go_sem,eZt h2]
  refine ah (qA g3) ?_
  obtain ⟨h4,h⟩|⟨h4,h⟩:=af h
  ·obtain ⟨h5,h⟩|⟨h5,h⟩:=af h
   ·cases h
    simp(config:=cS)only[go_sem,eZt h2,eZt h4,eqT h5]
   ·obtain ⟨h6,h⟩|⟨h6,h⟩:=af h
    ·cases h
     simp(config:=cS)only[go_sem,eZt h2,eZt h4,eqF h5,eqT h6]
    ·obtain ⟨q05,l7,h⟩:=ae h
     simp(config:=cS)only[go_sem,eZt h2,eZt h4,eqF h5,eqF h6]
     refine aw (m1:=.mk) (m2:=.mk) [.nf [1,24,25,26] [64]] (iv s.nodes ((s.nodes.length:Nat):Int) s.ties s.horizon) l7 ?_ ?_
     ·simp(config:=cS)only[go_sem,eZt h2,eZt h4,eqF h5,eqF h6]
     ·intro nb8 v26_1 bb8 b8 gb8
      unfold da at b8
      try dsimp only at b8
      obtain ⟨h9,b8⟩|⟨h9,b8⟩:=af b8
      ·obtain ⟨x03,g10,b8⟩:=ae b8
       obtain ⟨h11,h12,h13⟩:=an g10
       obtain ⟨r04,g14,b8⟩:=ae b8
       simp(config:=cS)only[go_sem,eZt h2,eZt h4,eqF h5,eqF h6,eqT h9,h11,h12,h13]
       refine ah (fz (by exact fun _ _ hr=>nW hr) (by refine ⟨fun _=>?_,fun _=>?_⟩ <;> simp only [go_sem]) (fun _=>rfl) rfl g14) ?_
       obtain ⟨h15,b8⟩|⟨h15,b8⟩:=af b8
       ·cases b8
        obtain rfl:=(al gb8).symm
        try dsimp only at h
        cases h
        simp(config:=cS)only[go_sem,eZt h2,eZt h4,eqF h5,eqF h6,eqT h9,h11,h12,h13,eZt h15]
       ·cases b8
        simp(config:=cS)only[go_sem,eZt h2,eZt h4,eqF h5,eqF h6,eqT h9,h11,h12,h13,eZf h15]
        refine aA gb8 ?_
        simp(config:=cS)only[go_sem,eZt h2,eZt h4,eqF h5,eqF h6,eqT h9,h11,h12,h13,eZf h15]
      ·cases b8
       obtain rfl:=(al gb8).symm
       try dsimp only at h
       cases h
       simp(config:=cS)only[go_sem,eZt h2,eZt h4,eqF h5,eqF h6,eqF h9]
  ·cases h
   simp(config:=cS)only[go_sem,eZt h2,eZf h4]
 ·cases h
  simp(config:=cS)only[go_sem,eZf h2]
def eT (a:List GTie)(c:Int)(d:List GNode)(e:Int)(f:List GNode)(g:List GTie)(h:Int):(Int × (List ByteArray))→St
 | (i,b)=>⟨[(2,.ptr 128 1 0 0),(3,.ptr 192 1 0 0),(5,.ref 383 1 0 b.length),(36,.sl (ab GTie.enc a)),(37,.lit (.int .i64 c)),(38,.lit (.int .i64 i))],[(128,1,.var [.sl (ab GNode.encS d),.sl (ab GTie.enc a),.lit (.int .i64 e)]),(192,1,.var [.sl (ab GNode.encS f),.sl (ab GTie.enc g),.lit (.int .i64 h)]),(383,1,.row true (ab eS b))],2⟩
attribute [go_sem] eT
@[go_sem] def hi24_9:DT:=.i2 0 (.i1 1 (.i1 2 (.i1 3 (.i1 4 (.i1 5 (.i1 6 (.i1 7 (.i1 8 (.i1 9 (.i1 10 (.i1 11 (.i1 12 (.i1 13 (.i1 14 (.i2 15 (.i2 16 (.i1 18 (.i1 19 (.i0 17 [1,2,3,4,5,6,7,8,9,10,11,12,13,14,18,19] (.i0 20 [1,2,3,4,5,6,7,8,9,10,11,12,13,14] (.i2 21 (.i2 22 (.i2 23 (.i2 24 (.i2 25 .nil)))))))))))))))))))))))))
def hi24:Hint where
 acts:=fun _=>[]
 draws:=fun
  | 9=>⟨hi24_9,[[],[],[1],[],[3],[1,2,3,4],[1,2,3,4,5],[1,2,3,4,5,6],[],[8],[],[10],[8,9,10,11],[8,9,10,11,12],[8,9,10,11,12,13],[],[15],[15,16],[],[18],[15,16,17,18,19],[1,2,3,4,5,6,7,8,9,10,11,12,13,14,15,16,17,18,19,20],[1,2,3,4,5,6,7,8,9,10,11,12,13,14,15,16,17,18,19,20,21],[1,2,3,4,5,6,7,8,9,10,11,12,13,14,15,16,17,18,19,20,21,22],.range 24,.range 25],.range 26⟩
  | _=>⟨.nil,[],[]⟩
theorem AS (i:Nat):hi24.acts i=[]:=rfl
theorem AU (i:Nat):hi24.views i=none:=rfl
attribute [go_sem] AS AU Tryd.ntmps24 Tryd.results24
@[go_sem] theorem BE:(hi24.draws 9).order=hi24_9:=rfl
theorem ie {s t:GShow}{res:List ByteArray}(h:bF s t=some res):ar Tryd.prog 24 [.agg (GShow.encS s),.agg (GShow.encS t)] [] (.ref 20000 1 0 res.length) [(20000,1,.row true (ab eS res))]:=by
 refine ao (ra:=[.home 4]) (md:=mdT) hT (hi:=hi24) Tryd.func24 rfl rfl (by decide +kernel) (by simp) ?_
 unfold bF at h
 obtain ⟨r01,g1,h⟩:=ae h
 simp(config:=cS)only[go_sem]
 refine ah (lk g1) ?_
 obtain ⟨h2,h⟩|⟨h2,h⟩:=af h
 ·obtain ⟨r02,g3,h⟩:=ae h
  simp(config:=cS)only[go_sem,eZt h2]
  refine ah (lk g3) ?_
  obtain ⟨h4,h⟩|⟨h4,h⟩:=af h
  ·obtain ⟨h5,h⟩|⟨h5,h⟩:=af h
   ·obtain ⟨h6,h⟩|⟨h6,h⟩:=af h
    ·obtain ⟨q15,l7,h⟩:=ae h
     simp(config:=cS)only[go_sem,eZt h2,eZt h4,eqT h5,eqT h6]
     refine aw (m1:=.mk) (m2:=.mk) [.home 5,.nf [2,3,5,36,37,38] [128,192,383]] (eT s.ties ((s.ties.length:Nat):Int) s.nodes s.horizon t.nodes t.ties t.horizon) l7 ?_ ?_
     ·simp(config:=cS)only[go_sem,eZt h2,eZt h4,eqT h5,eqT h6]
     ·intro nb8 sb8 bb8 b8 gb8
      obtain ⟨v38_1,out_1⟩:=sb8
      unfold bJ at b8
      try dsimp only at b8
      obtain ⟨h9,b8⟩|⟨h9,b8⟩:=af b8
      ·obtain ⟨x03,g10,b8⟩:=ae b8
       obtain ⟨h11,h12,h13⟩:=an g10
       obtain ⟨x04,g14,b8⟩:=ae b8
       obtain ⟨h15,h16,h17⟩:=an g14
       obtain ⟨h18,b8⟩|⟨h18,b8⟩:=af b8
       ·obtain ⟨h19,b8⟩|⟨h19,b8⟩:=af b8
        ·obtain ⟨h20,b8⟩|⟨h20,b8⟩:=af b8
         ·cases b8
          simp(config:=cS)only[go_sem,eZt h2,eZt h4,eqT h5,eqT h6,eqT h9,h11,h12,h13,h15,h16,h17,eZt h18,eqT h19,eqT h20]
          refine aA gb8 ?_
          simp(config:=cS)only[go_sem,eZt h2,eZt h4,eqT h5,eqT h6,eqT h9,h11,h12,h13,h15,h16,h17,eZt h18,eqT h19,eqT h20]
         ·obtain ⟨x05,g21,b8⟩:=ae b8
          obtain ⟨h22,h23,h24⟩:=an g21
          obtain ⟨x06,g25,b8⟩:=ae b8
          obtain ⟨h26,h27,h28⟩:=an g25
          obtain ⟨r07,g29,b8⟩:=ae b8
          simp(config:=cS)only[go_sem,eZt h2,eZt h4,eqT h5,eqT h6,eqT h9,h11,h12,h13,h15,h16,h17,eZt h18,eqT h19,eqF h20,h22,h23,h24,h26,h27,h28]
          refine ah (eL g29) ?_
          obtain ⟨r08,g30,b8⟩:=ae b8
          simp(config:=cS)only[go_sem,eZt h2,eZt h4,eqT h5,eqT h6,eqT h9,h11,h12,h13,h15,h16,h17,eZt h18,eqT h19,eqF h20,h22,h23,h24,h26,h27,h28]
          refine ah (eL g30) ?_
          obtain ⟨r09,g31,b8⟩:=ae b8
          simp(config:=cS)only[go_sem,eZt h2,eZt h4,eqT h5,eqT h6,eqT h9,h11,h12,h13,h15,h16,h17,eZt h18,eqT h19,eqF h20,h22,h23,h24,h26,h27,h28]
          refine ah (nL g31) ?_
          obtain ⟨h32,b8⟩:=aE b8
          obtain ⟨h33,b8⟩:=aE b8
          cases b8
          simp(config:=cS)only[go_sem,eZt h2,eZt h4,eqT h5,eqT h6,eqT h9,h11,h12,h13,h15,h16,h17,eZt h18,eqT h19,eqF h20,h22,h23,h24,h26,h27,h28,eqT h32,eqT h33]
          refine aA gb8 ?_
          simp(config:=cS)only[go_sem,eZt h2,eZt h4,eqT h5,eqT h6,eqT h9,h11,h12,h13,h15,h16,h17,eZt h18,eqT h19,eqF h20,h22,h23,h24,h26,h27,h28,eqT h32,eqT h33]
        ·obtain ⟨x10,g34,b8⟩:=ae b8
         obtain ⟨h35,h36,h37⟩:=an g34
         obtain ⟨x11,g38,b8⟩:=ae b8
         obtain ⟨h39,h40,h41⟩:=an g38
         obtain ⟨r12,g42,b8⟩:=ae b8
         simp(config:=cS)only[go_sem,eZt h2,eZt h4,eqT h5,eqT h6,eqT h9,h11,h12,h13,h15,h16,h17,eZt h18,eqF h19,h35,h36,h37,h39,h40,h41]
         refine ah (eL g42) ?_
         obtain ⟨r13,g43,b8⟩:=ae b8
         simp(config:=cS)only[go_sem,eZt h2,eZt h4,eqT h5,eqT h6,eqT h9,h11,h12,h13,h15,h16,h17,eZt h18,eqF h19,h35,h36,h37,h39,h40,h41]
         refine ah (eL g43) ?_
         obtain ⟨r14,g44,b8⟩:=ae b8
         simp(config:=cS)only[go_sem,eZt h2,eZt h4,eqT h5,eqT h6,eqT h9,h11,h12,h13,h15,h16,h17,eZt h18,eqF h19,h35,h36,h37,h39,h40,h41]
         refine ah (nL g44) ?_
         obtain ⟨h45,b8⟩:=aE b8
         obtain ⟨h46,b8⟩:=aE b8
         cases b8
         simp(config:=cS)only[go_sem,eZt h2,eZt h4,eqT h5,eqT h6,eqT h9,h11,h12,h13,h15,h16,h17,eZt h18,eqF h19,h35,h36,h37,h39,h40,h41,eqT h45,eqT h46]
         refine aA gb8 ?_
         simp(config:=cS)only[go_sem,eZt h2,eZt h4,eqT h5,eqT h6,eqT h9,h11,h12,h13,h15,h16,h17,eZt h18,eqF h19,h35,h36,h37,h39,h40,h41,eqT h45,eqT h46]
       ·cases b8
        simp(config:=cS)only[go_sem,eZt h2,eZt h4,eqT h5,eqT h6,eqT h9,h11,h12,h13,h15,h16,h17,eZf h18]
        refine aA gb8 ?_
        simp(config:=cS)only[go_sem,eZt h2,eZt h4,eqT h5,eqT h6,eqT h9,h11,h12,h13,h15,h16,h17,eZf h18]
      ·cases b8
       obtain rfl:=(al gb8).symm
       try dsimp only at h
       cases h
       simp(config:=cS)only[go_sem,eZt h2,eZt h4,eqT h5,eqT h6,eqF h9]
    ·cases h
     simp(config:=cS)only[go_sem,eZt h2,eZt h4,eqT h5,eqF h6]
   ·cases h
    simp(config:=cS)only[go_sem,eZt h2,eZt h4,eqF h5]
  ·cases h
   simp(config:=cS)only[go_sem,eZt h2,eZf h4]
 ·cases h
  simp(config:=cS)only[go_sem,eZf h2]
def gg (a b:List ByteArray)(i:Int):St:=⟨[(0,.sl (ab eS a)),(1,.sl (ab eS b)),(5,.lit (.int .i64 i))],[],2⟩
attribute [go_sem] gg
@[go_sem] def hi25_6:DT:=.i2 0 (.i2 1 (.i2 2 (.i2 3 (.i2 4 (.i2 5 (.i2 6 (.i2 7 (.i2 8 .nil))))))))
def hi25:Hint where
 acts:=fun _=>[]
 draws:=fun
  | 6=>⟨hi25_6,[[],[],[0,1],[0,1,2],[],[],[4,5],[4,5,6],.range 8],.range 9⟩
  | _=>⟨.nil,[],[]⟩
theorem AW (i:Nat):hi25.acts i=[]:=rfl
theorem AX (i:Nat):hi25.views i=none:=rfl
attribute [go_sem] AW AX Tryd.ntmps25 Tryd.results25
@[go_sem] theorem BF:(hi25.draws 6).order=hi25_6:=rfl
theorem gw {a b:List ByteArray}{res:Bool}(h:bW a b=some res):ar Tryd.prog 25 [.sl (ab eS a),.sl (ab eS b)] [] (.lit (.bool res)) []:=by
 refine ao (ra:=[]) (md:=mdT) hT (hi:=hi25) Tryd.func25 rfl rfl (by decide +kernel) (by simp) ?_
 unfold bW at h
 obtain ⟨h1,h⟩|⟨h1,h⟩:=af h
 ·obtain ⟨q03,l2,h⟩:=ae h
  simp(config:=cS)only[go_sem,eqT h1]
  refine aw (m1:=.mk) (m2:=.mk) [.nf [0,1,5] []] (gg a b) l2 ?_ ?_
  ·simp(config:=cS)only[go_sem]
  ·intro nb3 i_1 bb3 b3 gb3
   unfold cK at b3
   try dsimp only at b3
   obtain ⟨h4,b3⟩|⟨h4,b3⟩:=af b3
   ·obtain ⟨x01,g5,b3⟩:=ae b3
    obtain ⟨h6,h7,h8⟩:=an g5
    obtain ⟨x02,g9,b3⟩:=ae b3
    obtain ⟨h10,h11,h12⟩:=an g9
    obtain ⟨h13,b3⟩|⟨h13,b3⟩:=af b3
    ·cases b3
     simp(config:=cS)only[go_sem,eqT h4,h6,h7,h8,h10,h11,h12,eqT h13]
     refine aA gb3 ?_
     simp(config:=cS)only[go_sem]
    ·cases b3
     obtain rfl:=(al gb3).symm
     try dsimp only at h
     cases h
     simp(config:=cS)only[go_sem,eqT h4,h6,h7,h8,h10,h11,h12,eqF h13]
   ·cases b3
    obtain rfl:=(al gb3).symm
    try dsimp only at h
    cases h
    simp(config:=cS)only[go_sem,eqF h4]
 ·cases h
  simp(config:=cS)only[go_sem,eqF h1]
attribute [go_sem] Tryd.ntmps96 Tryd.results96
theorem rN {a b:GNode}{res:Bool}(h:fh a b=some res):ar Tryd.prog 96 [.agg (GNode.encS a),.agg (GNode.encS b)] [] (.lit (.bool res)) []:=by
 refine ao (ra:=[]) (md:=mdT) hT (hi:=hi00) Tryd.func96 rfl rfl (by decide +kernel) (by simp) ?_
 unfold fh at h
 obtain ⟨h1,h⟩|⟨h1,h⟩:=af h
 ·obtain ⟨r01,g2,h⟩:=ae h
  simp(config:=cS)only[go_sem,eqT h1]
  refine ah (rR g2) ?_
  obtain ⟨h3,h⟩|⟨h3,h⟩:=af h
  ·obtain ⟨h4,h⟩|⟨h4,h⟩:=af h
   ·cases h
    simp(config:=cS)only[go_sem,eZt h3,eqT h4]
   ·cases h
    simp(config:=cS)only[go_sem,eZt h3,eqF h4]
  ·cases h
   simp(config:=cS)only[go_sem,eZf h3]
 ·cases h
  simp(config:=cS)only[go_sem,eqF h1]
def ig (a b:List GNode)(i:Int):St:=⟨[(0,.sl (ab GNode.encS a)),(1,.sl (ab GNode.encS b)),(5,.lit (.int .i64 i))],[],2⟩
attribute [go_sem] ig
@[go_sem] def hi64_6:DT:=.i2 0 (.i2 1 (.i2 2 (.i2 3 (.i2 4 (.i2 5 (.i2 6 (.i2 7 (.i2 8 (.i2 9 .nil)))))))))
def hi64:Hint where
 acts:=fun _=>[]
 draws:=fun
  | 6=>⟨hi64_6,[[],[],[0,1],[0,1,2],[],[],[4,5],[4,5,6],.range 8,.range 9],.range 10⟩
  | _=>⟨.nil,[],[]⟩
theorem AY (i:Nat):hi64.acts i=[]:=rfl
theorem AZ (i:Nat):hi64.views i=none:=rfl
attribute [go_sem] AY AZ Tryd.ntmps64 Tryd.results64
@[go_sem] theorem BG:(hi64.draws 6).order=hi64_6:=rfl
theorem qC {a b:List GNode}{res:Bool}(h:eA a b=some res):ar Tryd.prog 64 [.sl (ab GNode.encS a),.sl (ab GNode.encS b)] [] (.lit (.bool res)) []:=by
 refine ao (ra:=[]) (md:=mdT) hT (hi:=hi64) Tryd.func64 rfl rfl (by decide +kernel) (by simp) ?_
 unfold eA at h
 obtain ⟨h1,h⟩|⟨h1,h⟩:=af h
 ·obtain ⟨q04,l2,h⟩:=ae h
  simp(config:=cS)only[go_sem,eqT h1]
  refine aw (m1:=.mk) (m2:=.mk) [.nf [0,1,5] []] (ig a b) l2 ?_ ?_
  ·simp(config:=cS)only[go_sem]
  ·intro nb3 i_1 bb3 b3 gb3
   unfold dw at b3
   try dsimp only at b3
   obtain ⟨h4,b3⟩|⟨h4,b3⟩:=af b3
   ·obtain ⟨x01,g5,b3⟩:=ae b3
    obtain ⟨h6,h7,h8⟩:=an g5
    obtain ⟨x02,g9,b3⟩:=ae b3
    obtain ⟨h10,h11,h12⟩:=an g9
    obtain ⟨r03,g13,b3⟩:=ae b3
    simp(config:=cS)only[go_sem,eqT h4,h6,h7,h8,h10,h11,h12]
    refine ah (rN g13) ?_
    obtain ⟨h14,b3⟩|⟨h14,b3⟩:=af b3
    ·cases b3
     simp(config:=cS)only[go_sem,eZt h14]
     refine aA gb3 ?_
     simp(config:=cS)only[go_sem]
    ·cases b3
     obtain rfl:=(al gb3).symm
     try dsimp only at h
     cases h
     simp(config:=cS)only[go_sem,eZf h14]
   ·cases b3
    obtain rfl:=(al gb3).symm
    try dsimp only at h
    cases h
    simp(config:=cS)only[go_sem,eqF h4]
 ·cases h
  simp(config:=cS)only[go_sem,eqF h1]
attribute [go_sem] Tryd.ntmps97 Tryd.results97
theorem sZ {a b:GTie}{res:Bool}(h:ik a b=some res):ar Tryd.prog 97 [.agg (GTie.enc a),.agg (GTie.enc b)] [] (.lit (.bool res)) []:=by
 refine ao (ra:=[]) (md:=mdT) hT (hi:=hi00) Tryd.func97 rfl rfl (by decide +kernel) (by simp) ?_
 unfold ik at h
 obtain ⟨h1,h⟩|⟨h1,h⟩:=af h
 ·obtain ⟨h2,h⟩|⟨h2,h⟩:=af h
  ·obtain ⟨h3,h⟩|⟨h3,h⟩:=af h
   ·obtain ⟨h4,h⟩|⟨h4,h⟩:=af h
    ·obtain ⟨h5,h⟩|⟨h5,h⟩:=af h
     ·cases h
      simp(config:=cS)only[go_sem,eqT h1,eqT h2,eqT h3,eqT h4,eqT h5]
     ·cases h
      simp(config:=cS)only[go_sem,eqT h1,eqT h2,eqT h3,eqT h4,eqF h5]
    ·cases h
     simp(config:=cS)only[go_sem,eqT h1,eqT h2,eqT h3,eqF h4]
   ·cases h
    simp(config:=cS)only[go_sem,eqT h1,eqT h2,eqF h3]
  ·cases h
   simp(config:=cS)only[go_sem,eqT h1,eqF h2]
 ·cases h
  simp(config:=cS)only[go_sem,eqF h1]
def iw (a b:List GTie)(i:Int):St:=⟨[(0,.sl (ab GTie.enc a)),(1,.sl (ab GTie.enc b)),(5,.lit (.int .i64 i))],[],2⟩
attribute [go_sem] iw
@[go_sem] def hi65_6:DT:=.i2 0 (.i2 1 (.i2 2 (.i2 3 (.i2 4 (.i2 5 (.i2 6 (.i2 7 (.i2 8 (.i2 9 .nil)))))))))
def hi65:Hint where
 acts:=fun _=>[]
 draws:=fun
  | 6=>⟨hi65_6,[[],[],[0,1],[0,1,2],[],[],[4,5],[4,5,6],.range 8,.range 9],.range 10⟩
  | _=>⟨.nil,[],[]⟩
theorem Ba (i:Nat):hi65.acts i=[]:=rfl
theorem Bb (i:Nat):hi65.views i=none:=rfl
attribute [go_sem] Ba Bb Tryd.ntmps65 Tryd.results65
@[go_sem] theorem BH:(hi65.draws 6).order=hi65_6:=rfl
theorem rO {a b:List GTie}{res:Bool}(h:fi a b=some res):ar Tryd.prog 65 [.sl (ab GTie.enc a),.sl (ab GTie.enc b)] [] (.lit (.bool res)) []:=by
 refine ao (ra:=[]) (md:=mdT) hT (hi:=hi65) Tryd.func65 rfl rfl (by decide +kernel) (by simp) ?_
 unfold fi at h
 obtain ⟨h1,h⟩|⟨h1,h⟩:=af h
 ·obtain ⟨q04,l2,h⟩:=ae h
  simp(config:=cS)only[go_sem,eqT h1]
  refine aw (m1:=.mk) (m2:=.mk) [.nf [0,1,5] []] (iw a b) l2 ?_ ?_
  ·simp(config:=cS)only[go_sem]
  ·intro nb3 i_1 bb3 b3 gb3
   unfold dK at b3
   try dsimp only at b3
   obtain ⟨h4,b3⟩|⟨h4,b3⟩:=af b3
   ·obtain ⟨x01,g5,b3⟩:=ae b3
    obtain ⟨h6,h7,h8⟩:=an g5
    obtain ⟨x02,g9,b3⟩:=ae b3
    obtain ⟨h10,h11,h12⟩:=an g9
    obtain ⟨r03,g13,b3⟩:=ae b3
    simp(config:=cS)only[go_sem,eqT h4,h6,h7,h8,h10,h11,h12]
    refine ah (sZ g13) ?_
    obtain ⟨h14,b3⟩|⟨h14,b3⟩:=af b3
    ·cases b3
     simp(config:=cS)only[go_sem,eZt h14]
     refine aA gb3 ?_
     simp(config:=cS)only[go_sem]
    ·cases b3
     obtain rfl:=(al gb3).symm
     try dsimp only at h
     cases h
     simp(config:=cS)only[go_sem,eZf h14]
   ·cases b3
    obtain rfl:=(al gb3).symm
    try dsimp only at h
    cases h
    simp(config:=cS)only[go_sem,eqF h4]
 ·cases h
  simp(config:=cS)only[go_sem,eqF h1]
attribute [go_sem] Tryd.ntmps26 Tryd.results26
theorem ll {a b:GShow}{res:Bool}(h:dT a b=some res):ar Tryd.prog 26 [.agg (GShow.encS a),.agg (GShow.encS b)] [] (.lit (.bool res)) []:=by
 refine ao (ra:=[]) (md:=mdT) hT (hi:=hi00) Tryd.func26 rfl rfl (by decide +kernel) (by simp) ?_
 unfold dT at h
 obtain ⟨r01,g1,h⟩:=ae h
 simp(config:=cS)only[go_sem]
 refine ah (qC g1) ?_
 obtain ⟨h2,h⟩|⟨h2,h⟩:=af h
 ·obtain ⟨r02,g3,h⟩:=ae h
  simp(config:=cS)only[go_sem,eZt h2]
  refine ah (rO g3) ?_
  obtain ⟨h4,h⟩|⟨h4,h⟩:=af h
  ·obtain ⟨h5,h⟩|⟨h5,h⟩:=af h
   ·cases h
    simp(config:=cS)only[go_sem,eZt h4,eqT h5]
   ·cases h
    simp(config:=cS)only[go_sem,eZt h4,eqF h5]
  ·cases h
   simp(config:=cS)only[go_sem,eZf h4]
 ·cases h
  simp(config:=cS)only[go_sem,eZf h2]
def gK  : (Int × ByteArray)→St
 | (k,a)=>⟨[(0,.lit (.int .i64 k)),(3,.lit (.string a))],[],2⟩
attribute [go_sem] gK
attribute [go_sem] Tryd.ntmps68 Tryd.results68
theorem ii {k:Int}{res:ByteArray}(h:bo k=some res):ar Tryd.prog 68 [.lit (.int .i64 k)] [] (.lit (.string res)) []:=by
 refine ao (ra:=[]) (md:=mdT) hT (hi:=hi00) Tryd.func68 rfl rfl (by decide +kernel) (by simp) ?_
 unfold bo at h
 obtain ⟨h1,h⟩|⟨h1,h⟩:=af h
 ·cases h
  simp(config:=cS)only[go_sem,eqT h1]
 ·obtain ⟨q01,l2,h⟩:=ae h
  simp(config:=cS)only[go_sem,eqF h1]
  refine aw (m1:=.mk) (m2:=.mk) [.nf [0,3] []] (gK) l2 ?_ ?_
  ·simp(config:=cS)only[go_sem]
  ·intro nb3 sb3 bb3 b3 gb3
   obtain ⟨k_1,out_1⟩:=sb3
   unfold ch at b3
   try dsimp only at b3
   obtain ⟨h4,b3⟩|⟨h4,b3⟩:=af b3
   ·obtain ⟨h5,b3⟩:=aE b3
    cases b3
    simp(config:=cS)only[go_sem,eqT h4,eqT h5]
    refine aA gb3 ?_
    simp(config:=cS)only[go_sem]
   ·cases b3
    obtain rfl:=(al gb3).symm
    try dsimp only at h
    obtain ⟨h7,h⟩:=aE h
    cases h
    simp(config:=cS)only[go_sem,eqF h4,eqT h7]
def gL (b:Bool)  : (Int × Int × (List Int))→St
 | (k,i,a)=>⟨[(0,.ref 10000 0 0 a.length),(1,.lit (.int .i64 k)),(5,.lit (.int .i64 i))],[(10000,0,.row b (ab eI a))],2⟩
attribute [go_sem] gL
attribute [go_sem] Tryd.ntmps53 Tryd.results53
theorem pI {a:List Int}{k:Int}{zb0:Bool}{res:Int × (List Int)}(h:dW a k=some res):ar Tryd.prog 53 [.ref 10000 0 0 a.length,.lit (.int .i64 k)] [(10000,0,.row zb0 (ab eI a))] (.lit (.int .i64 res.1)) [(10000,0,.row zb0 (ab eI res.2))]:=by
 refine ao (ra:=[]) (md:=mdT) hT (hi:=hi00) Tryd.func53 rfl rfl (by decide +kernel) (by simp) ?_
 unfold dW at h
 obtain ⟨q02,l1,h⟩:=ae h
 simp(config:=cS)only[go_sem]
 refine aw (m1:=.mk) (m2:=.mk) [.nf [0,1,5] [10000]] (gL zb0) l1 ?_ ?_
 ·simp(config:=cS)only[go_sem]
 ·intro nb2 sb2 bb2 b2 gb2
  obtain ⟨k_1,i_1,a_1⟩:=sb2
  unfold di at b2
  try dsimp only at b2
  obtain ⟨h3,b2⟩|⟨h3,b2⟩:=af b2
  ·obtain ⟨x01,g4,b2⟩:=ae b2
   obtain ⟨h5,h6,h7⟩:=an g4
   cases b2
   simp(config:=cS)only[go_sem,eqT h3,h5,h6,h7]
   refine aA gb2 ?_
   simp(config:=cS)only[go_sem]
  ·cases b2
   obtain rfl:=(al gb2).symm
   try dsimp only at h
   cases h
   simp(config:=cS)only[go_sem,eqF h3]
def gh (b:Bool)  : (Int × Int × (List GNode))→St
 | (k,i,a)=>⟨[(0,.ref 10000 0 0 a.length),(1,.lit (.int .i64 k)),(5,.lit (.int .i64 i))],[(10000,0,.row b (ab GNode.encO a))],2⟩
attribute [go_sem] gh
def hi66:Hint where
 acts:=fun _=>[]
 views:=fun
  | 6=>some (4,1)
  | _=>none
 draws:=fun
  | _=>⟨.nil,[],[]⟩
theorem Bc (i:Nat):hi66.acts i=[]:=rfl
@[go_sem] theorem BI:hi66.views 0=none:=rfl
@[go_sem] theorem BJ:hi66.views 1=none:=rfl
@[go_sem] theorem BK:hi66.views 2=none:=rfl
@[go_sem] theorem BL:hi66.views 4=none:=rfl
@[go_sem] theorem BM:hi66.views 5=none:=rfl
@[go_sem] theorem BN:hi66.views 6=some (4,1):=rfl
@[go_sem] theorem BO:hi66.views 7=none:=rfl
@[go_sem] theorem BP:hi66.views 8=none:=rfl
@[go_sem] theorem BQ:hi66.views 3=none:=rfl
@[go_sem] theorem BR:hi66.views 9=none:=rfl
attribute [go_sem] Bc Tryd.ntmps66 Tryd.results66
theorem nX {a:List GNode}{k:Int}{zb0:Bool}{res:Int × (List GNode)}(h:dL a k=some res):ar Tryd.prog 66 [.ref 10000 0 0 a.length,.lit (.int .i64 k)] [(10000,0,.row zb0 (ab GNode.encO a))] (.lit (.int .i64 res.1)) [(10000,0,.row zb0 (ab GNode.encO res.2))]:=by
 refine ao (ra:=[]) (md:=mdT) hT (hi:=hi66) Tryd.func66 rfl rfl (by decide +kernel) (by simp) ?_
 unfold dL at h
 obtain ⟨q06,l1,h⟩:=ae h
 simp(config:=cS)only[go_sem]
 refine aw (m1:=.mk) (m2:=.mk) [.nf [0,1,5] [10000]] (gh zb0) l1 ?_ ?_
 ·simp(config:=cS)only[go_sem]
 ·intro nb2 sb2 bb2 b2 gb2
  obtain ⟨k_1,i_1,a_1⟩:=sb2
  unfold cL at b2
  try dsimp only at b2
  obtain ⟨h3,b2⟩|⟨h3,b2⟩:=af b2
  ·obtain ⟨r01,g4,b2⟩:=ae b2
   simp(config:=cS)only[go_sem,eqT h3]
   refine ah (ii g4) ?_
   obtain ⟨x02,g5,b2⟩:=ae b2
   obtain ⟨h6,h7,h8⟩:=an g5
   obtain ⟨x03,g9,b2⟩:=ae b2
   obtain ⟨h10,h11,h12⟩:=an g9
   obtain ⟨r04,g13,b2⟩:=ae b2
   obtain ⟨h14,b2⟩:=aE b2
   simp(config:=cS)only[go_sem,eqT h3,h6,h7,h8,h10,h11,h12]
   refine xq h14 (by simp only [go_sem]) (pI g13) ?_
   obtain ⟨x05,g15,b2⟩:=ae b2
   obtain ⟨h16,h17,h18⟩:=an g15
   cases b2
   simp(config:=cS)only[go_sem,eqT h3,h6,h7,h8,h10,h11,h12,h16,h17,h18]
   refine aA gb2 ?_
   simp(config:=cS)only[go_sem,eqT h3,h6,h7,h8,h10,h11,h12,h16,h17,h18]
  ·cases b2
   obtain rfl:=(al gb2).symm
   try dsimp only at h
   cases h
   simp(config:=cS)only[go_sem,eqF h3]
def gM (b:Bool)  : (Int × Int × (List GTie))→St
 | (k,i,a)=>⟨[(0,.ref 10000 0 0 a.length),(1,.lit (.int .i64 k)),(5,.lit (.int .i64 i))],[(10000,0,.row b (ab GTie.enc a))],2⟩
attribute [go_sem] gM
attribute [go_sem] Tryd.ntmps67 Tryd.results67
theorem pJ {a:List GTie}{k:Int}{zb0:Bool}{res:Int × (List GTie)}(h:dZ a k=some res):ar Tryd.prog 67 [.ref 10000 0 0 a.length,.lit (.int .i64 k)] [(10000,0,.row zb0 (ab GTie.enc a))] (.lit (.int .i64 res.1)) [(10000,0,.row zb0 (ab GTie.enc res.2))]:=by
 refine ao (ra:=[]) (md:=mdT) hT (hi:=hi00) Tryd.func67 rfl rfl (by decide +kernel) (by simp) ?_
 unfold dZ at h
 obtain ⟨q06,l1,h⟩:=ae h
 simp(config:=cS)only[go_sem]
 refine aw (m1:=.mk) (m2:=.mk) [.nf [0,1,5] [10000]] (gM zb0) l1 ?_ ?_
 ·simp(config:=cS)only[go_sem]
 ·intro nb2 sb2 bb2 b2 gb2
  obtain ⟨k_1,i_1,a_1⟩:=sb2
  unfold dm at b2
  try dsimp only at b2
  obtain ⟨h3,b2⟩|⟨h3,b2⟩:=af b2
  ·obtain ⟨x01,g4,b2⟩:=ae b2
   obtain ⟨h5,h6,h7⟩:=an g4
   obtain ⟨x02,g8,b2⟩:=ae b2
   obtain ⟨h9,h10,h11⟩:=an g8
   obtain ⟨x03,g12,b2⟩:=ae b2
   obtain ⟨h13,h14,h15⟩:=an g12
   obtain ⟨x04,g16,b2⟩:=ae b2
   obtain ⟨h17,h18,h19⟩:=an g16
   obtain ⟨x05,g20,b2⟩:=ae b2
   obtain ⟨h21,h22,h23⟩:=an g20
   cases b2
   simp(config:=cS)only[go_sem,eqT h3,h5,h6,h7,h9,h10,h11,h13,h14,h15,h17,h18,h19,h21,h22,h23]
   refine aA gb2 ?_
   simp(config:=cS)only[go_sem]
  ·cases b2
   obtain rfl:=(al gb2).symm
   try dsimp only at h
   cases h
   simp(config:=cS)only[go_sem,eqF h3]
attribute [go_sem] Tryd.ntmps27 Tryd.results27
theorem jZ {a:GShow}{k:Int}{zb0 zb1:Bool}{res:Int × (List GNode) × (List GTie)}(h:dq a k=some res):ar Tryd.prog 27 [.agg [.ref 10000 0 0 a.nodes.length,.ref 10001 0 0 a.ties.length,.lit (.int .i64 a.horizon)],.lit (.int .i64 k)] [(10000,0,.row zb0 (ab GNode.encO a.nodes)),(10001,0,.row zb1 (ab GTie.enc a.ties))] (.lit (.int .i64 res.1)) [(10000,0,.row zb0 (ab GNode.encO res.2.1)),(10001,0,.row zb1 (ab GTie.enc res.2.2))]:=by
 refine ao (ra:=[]) (md:=mdT) hT (hi:=hi00) Tryd.func27 rfl rfl (by decide +kernel) (by simp) ?_
 unfold dq at h
 obtain ⟨r01,g1,h⟩:=ae h
 simp(config:=cS)only[go_sem]
 refine ah (nX g1) ?_
 obtain ⟨r02,g2,h⟩:=ae h
 simp(config:=cS)only[go_sem]
 refine ah (pJ g2) ?_
 cases h
 simp(config:=cS)only[go_sem]
def fK (b:Bool)  : (Int × Int × (List ByteArray))→St
 | (k,i,a)=>⟨[(0,.ref 10000 0 0 a.length),(1,.lit (.int .i64 k)),(5,.lit (.int .i64 i))],[(10000,0,.row b (ab eS a))],2⟩
attribute [go_sem] fK
attribute [go_sem] Tryd.ntmps28 Tryd.results28
theorem lP {a:List ByteArray}{k:Int}{zb0:Bool}{res:Int × (List ByteArray)}(h:dn a k=some res):ar Tryd.prog 28 [.ref 10000 0 0 a.length,.lit (.int .i64 k)] [(10000,0,.row zb0 (ab eS a))] (.lit (.int .i64 res.1)) [(10000,0,.row zb0 (ab eS res.2))]:=by
 refine ao (ra:=[]) (md:=mdT) hT (hi:=hi00) Tryd.func28 rfl rfl (by decide +kernel) (by simp) ?_
 unfold dn at h
 obtain ⟨q03,l1,h⟩:=ae h
 simp(config:=cS)only[go_sem]
 refine aw (m1:=.mk) (m2:=.mk) [.nf [0,1,5] [10000]] (fK zb0) l1 ?_ ?_
 ·simp(config:=cS)only[go_sem]
 ·intro nb2 sb2 bb2 b2 gb2
  obtain ⟨k_1,i_1,a_1⟩:=sb2
  unfold cj at b2
  try dsimp only at b2
  obtain ⟨h3,b2⟩|⟨h3,b2⟩:=af b2
  ·obtain ⟨r01,g4,b2⟩:=ae b2
   simp(config:=cS)only[go_sem,eqT h3]
   refine ah (ii g4) ?_
   obtain ⟨x02,g5,b2⟩:=ae b2
   obtain ⟨h6,h7,h8⟩:=an g5
   cases b2
   simp(config:=cS)only[go_sem,h6,h7,h8]
   refine aA gb2 ?_
   simp(config:=cS)only[go_sem]
  ·cases b2
   obtain rfl:=(al gb2).symm
   try dsimp only at h
   cases h
   simp(config:=cS)only[go_sem,eqF h3]
def fL (a:List ByteArray):(Int × Int)→St
 | (k,i)=>⟨[(0,.sl (ab eS a)),(1,.lit (.int .i64 k)),(5,.lit (.int .i64 i))],[],2⟩
attribute [go_sem] fL
@[go_sem] def hi29_4:DT:=.i2 0 (.i2 1 (.i1 2 (.i1 3 (.i2 4 (.i0 5 [2,3] (.i2 6 .nil))))))
def hi29:Hint where
 acts:=fun _=>[]
 draws:=fun
  | 4=>⟨hi29_4,[[],[],[0,1],[0,1,2],[],[4],.range 6],.range 7⟩
  | _=>⟨.nil,[],[]⟩
theorem Bd (i:Nat):hi29.acts i=[]:=rfl
theorem Be (i:Nat):hi29.views i=none:=rfl
attribute [go_sem] Bd Be Tryd.ntmps29 Tryd.results29
@[go_sem] theorem BS:(hi29.draws 4).order=hi29_4:=rfl
theorem iZ {a:List ByteArray}{k res:Int}(h:cm a k=some res):ar Tryd.prog 29 [.sl (ab eS a),.lit (.int .i64 k)] [] (.lit (.int .i64 res)) []:=by
 refine ao (ra:=[]) (md:=mdT) hT (hi:=hi29) Tryd.func29 rfl rfl (by decide +kernel) (by simp) ?_
 unfold cm at h
 obtain ⟨q03,l1,h⟩:=ae h
 simp(config:=cS)only[go_sem]
 refine aw (m1:=.mk) (m2:=.mk) [.nf [0,1,5] []] (fL a) l1 ?_ ?_
 ·simp(config:=cS)only[go_sem]
 ·intro nb2 sb2 bb2 b2 gb2
  obtain ⟨k_1,i_1⟩:=sb2
  unfold ck at b2
  try dsimp only at b2
  obtain ⟨h3,b2⟩|⟨h3,b2⟩:=af b2
  ·obtain ⟨x01,g4,b2⟩:=ae b2
   obtain ⟨h5,h6,h7⟩:=an g4
   obtain ⟨r02,g8,b2⟩:=ae b2
   simp(config:=cS)only[go_sem,eqT h3,h5,h6,h7]
   refine ah (ii g8) ?_
   obtain ⟨h9,b2⟩|⟨h9,b2⟩:=af b2
   ·cases b2
    simp(config:=cS)only[go_sem,eqT h3,h5,h6,h7,eqT h9]
    refine aA gb2 ?_
    simp(config:=cS)only[go_sem,eqT h3,h5,h6,h7,eqT h9]
   ·cases b2
    obtain rfl:=(al gb2).symm
    try dsimp only at h
    cases h
    simp(config:=cS)only[go_sem,eqT h3,h5,h6,h7,eqF h9]
  ·cases b2
   obtain rfl:=(al gb2).symm
   try dsimp only at h
   cases h
   simp(config:=cS)only[go_sem,eqF h3]
@[go_sem] def hi6_31:DT:=.i2 0 (.i1 2 (.i0 1 [2] (.i2 3 (.i2 4 (.i2 5 .nil)))))
@[go_sem] def hi6_16:DT:=.i1 0 (.i2 1 (.i0 2 [0] (.i2 3 (.i2 4 .nil))))
@[go_sem] def hi6_14:DT:=.i1 0 (.i2 1 (.i0 2 [0] (.i2 3 (.i2 4 .nil))))
@[go_sem] def hi6_8:DT:=.i2 0 (.i1 2 (.i0 1 [2] (.i2 3 (.i2 4 (.i2 5 .nil)))))
def hi6:Hint where
 acts:=fun _=>[]
 draws:=fun
  | 8=>⟨hi6_8,[[],[0],[],[0,1,2],[0,1,2,3],.range 5],.range 6⟩
  | 14=>⟨hi6_14,[[],[],[1],[0,1,2],[0,1,2,3]],.range 5⟩
  | 16=>⟨hi6_16,[[],[],[1],[0,1,2],[0,1,2,3]],.range 5⟩
  | 31=>⟨hi6_31,[[],[0],[],[0,1,2],[0,1,2,3],.range 5],.range 6⟩
  | _=>⟨.nil,[],[]⟩
theorem hi6a (i:Nat):hi6.acts i=[]:=rfl
theorem hi6v (i:Nat):hi6.views i=none:=rfl
attribute [go_sem] hi6a hi6v Tryd.ntmps6 Tryd.results6
@[go_sem] theorem Ci:(hi6.draws 8).order=hi6_8:=rfl
@[go_sem] theorem BT:(hi6.draws 14).order=hi6_14:=rfl
@[go_sem] theorem BU:(hi6.draws 16).order=hi6_16:=rfl
@[go_sem] theorem BV:(hi6.draws 31).order=hi6_31:=rfl
theorem ja {aS aT:GShow}{res:Bool}(h:bN aS aT=some res):ar Tryd.prog 6 [.agg (GShow.encS aS),.agg (GShow.encS aT)] [] (.lit (.bool res)) []:=by
 refine ao (ra:=[]) (md:=mdT) hT (hi:=hi6) Tryd.func6 rfl rfl (by decide +kernel) (by simp) ?_
 unfold bN at h
 obtain ⟨r01,g1,h⟩:=ae h
 simp(config:=cS)only[go_sem]
 refine ah (lf g1) ?_
 obtain ⟨h2,h⟩|⟨h2,h⟩:=af h
 ·cases h
  simp(config:=cS)only[go_sem,eqT h2]
 ·obtain ⟨r02,g3,h⟩:=ae h
  simp(config:=cS)only[go_sem,eqF h2]
  refine ah (lf g3) ?_
  obtain ⟨h4,h⟩|⟨h4,h⟩:=af h
  ·cases h
   simp(config:=cS)only[go_sem,eqF h2,eqT h4]
  ·obtain ⟨r03,g5,h⟩:=ae h
   simp(config:=cS)only[go_sem,eqF h2,eqF h4]
   refine ah (cE g5) ?_
   obtain ⟨r04,g6,h⟩:=ae h
   simp(config:=cS)only[go_sem,eqF h2,eqF h4]
   refine ah (cE g6) ?_
   obtain ⟨r05,g7,h⟩:=ae h
   simp(config:=cS)only[go_sem,eqF h2,eqF h4]
   refine ah (kO g7) ?_
   obtain ⟨r06,g8,h⟩:=ae h
   simp(config:=cS)only[go_sem,eqF h2,eqF h4]
   refine ah (cE g8) ?_
   obtain ⟨r07,g9,h⟩:=ae h
   simp(config:=cS)only[go_sem,eqF h2,eqF h4]
   refine ah (cE g9) ?_
   obtain ⟨r08,g10,h⟩:=ae h
   simp(config:=cS)only[go_sem,eqF h2,eqF h4]
   refine ah (ie g10) ?_
   obtain ⟨r09,g11,h⟩:=ae h
   simp(config:=cS)only[go_sem,eqF h2,eqF h4]
   refine ah (gw g11) ?_
   obtain ⟨h12,h⟩|⟨h12,h⟩:=af h
   ·obtain ⟨r10,g13,h⟩:=ae h
    simp(config:=cS)only[go_sem,eqF h2,eqF h4,eZt h12]
    refine ah (cE g13) ?_
    obtain ⟨r11,g14,h⟩:=ae h
    simp(config:=cS)only[go_sem,eqF h2,eqF h4,eZt h12]
    refine ah (ll g14) ?_
    obtain ⟨h15,h⟩|⟨h15,h⟩:=af h
    ·obtain ⟨r12,g16,h⟩:=ae h
     simp(config:=cS)only[go_sem,eqF h2,eqF h4,eZt h12,eZt h15]
     refine ah (cE g16) ?_
     obtain ⟨r13,g17,h⟩:=ae h
     simp(config:=cS)only[go_sem,eqF h2,eqF h4,eZt h12,eZt h15]
     refine ah (ll g17) ?_
     obtain ⟨h18,h⟩|⟨h18,h⟩:=af h
     ·obtain ⟨r14,g19,h⟩:=ae h
      simp(config:=cS)only[go_sem,eqF h2,eqF h4,eZt h12,eZt h15,eZt h18]
      refine ah (jZ g19) ?_
      obtain ⟨r15,g20,h⟩:=ae h
      simp(config:=cS)only[go_sem,eqF h2,eqF h4,eZt h12,eZt h15,eZt h18]
      refine ah (jZ g20) ?_
      obtain ⟨h21,h⟩|⟨h21,h⟩:=af h
      ·cases h
       simp(config:=cS)only[go_sem,eqF h2,eqF h4,eZt h12,eZt h15,eZt h18,eqT h21]
      ·obtain ⟨r16,g22,h⟩:=ae h
       simp(config:=cS)only[go_sem,eqF h2,eqF h4,eZt h12,eZt h15,eZt h18,eqF h21]
       refine ah (gw g22) ?_
       obtain ⟨h23,h⟩|⟨h23,h⟩:=af h
       ·obtain ⟨r17,g24,h⟩:=ae h
        simp(config:=cS)only[go_sem,eqF h2,eqF h4,eZt h12,eZt h15,eZt h18,eqF h21,eZt h23]
        refine ah (lP g24) ?_
        obtain ⟨h25,h⟩:=aE h
        obtain ⟨r18,g26,h⟩:=ae h
        simp(config:=cS)only[go_sem,eqF h2,eqF h4,eZt h12,eZt h15,eZt h18,eqF h21,eZt h23,eqT h25]
        refine ah (iZ g26) ?_
        obtain ⟨h27,h⟩|⟨h27,h⟩:=af h
        ·cases h
         simp(config:=cS)only[go_sem,eqF h2,eqF h4,eZt h12,eZt h15,eZt h18,eqF h21,eZt h23,eqT h25,eqT h27]
        ·obtain ⟨h28,h⟩|⟨h28,h⟩:=af h
         ·obtain ⟨r19,g29,h⟩:=ae h
          simp(config:=cS)only[go_sem,eqF h2,eqF h4,eZt h12,eZt h15,eZt h18,eqF h21,eZt h23,eqT h25,eqF h27,eqT h28]
          refine ah (cE g29) ?_
          obtain ⟨r20,g30,h⟩:=ae h
          simp(config:=cS)only[go_sem,eqF h2,eqF h4,eZt h12,eZt h15,eZt h18,eqF h21,eZt h23,eqT h25,eqF h27,eqT h28]
          refine ah (cE g30) ?_
          obtain ⟨r21,g31,h⟩:=ae h
          simp(config:=cS)only[go_sem,eqF h2,eqF h4,eZt h12,eZt h15,eZt h18,eqF h21,eZt h23,eqT h25,eqF h27,eqT h28]
          refine ah (ie g31) ?_
          obtain ⟨r22,g32,h⟩:=ae h
          simp(config:=cS)only[go_sem,eqF h2,eqF h4,eZt h12,eZt h15,eZt h18,eqF h21,eZt h23,eqT h25,eqF h27,eqT h28]
          refine ah (gw g32) ?_
          obtain ⟨h33,h⟩|⟨h33,h⟩:=af h
          ·obtain ⟨r23,g34,h⟩:=ae h
           simp(config:=cS)only[go_sem,eqF h2,eqF h4,eZt h12,eZt h15,eZt h18,eqF h21,eZt h23,eqT h25,eqF h27,eqT h28,eZt h33]
           refine ah (iZ g34) ?_
           obtain ⟨h35,h⟩|⟨h35,h⟩:=af h
           ·cases h
            simp(config:=cS)only[go_sem,eqF h2,eqF h4,eZt h12,eZt h15,eZt h18,eqF h21,eZt h23,eqT h25,eqF h27,eqT h28,eZt h33,eqT h35]
           ·obtain ⟨h36,h⟩|⟨h36,h⟩:=af h
            ·cases h
             simp(config:=cS)only[go_sem,eqF h2,eqF h4,eZt h12,eZt h15,eZt h18,eqF h21,eZt h23,eqT h25,eqF h27,eqT h28,eZt h33,eqF h35,eqT h36]
            ·cases h
             simp(config:=cS)only[go_sem,eqF h2,eqF h4,eZt h12,eZt h15,eZt h18,eqF h21,eZt h23,eqT h25,eqF h27,eqT h28,eZt h33,eqF h35,eqF h36]
          ·cases h
           simp(config:=cS)only[go_sem,eqF h2,eqF h4,eZt h12,eZt h15,eZt h18,eqF h21,eZt h23,eqT h25,eqF h27,eqT h28,eZf h33]
         ·cases h
          simp(config:=cS)only[go_sem,eqF h2,eqF h4,eZt h12,eZt h15,eZt h18,eqF h21,eZt h23,eqT h25,eqF h27,eqF h28]
       ·cases h
        simp(config:=cS)only[go_sem,eqF h2,eqF h4,eZt h12,eZt h15,eZt h18,eqF h21,eZf h23]
     ·cases h
      simp(config:=cS)only[go_sem,eqF h2,eqF h4,eZt h12,eZt h15,eZf h18]
    ·cases h
     simp(config:=cS)only[go_sem,eqF h2,eqF h4,eZt h12,eZf h15]
   ·cases h
    simp(config:=cS)only[go_sem,eqF h2,eqF h4,eZf h12]
end Go.Proofs.Qd
