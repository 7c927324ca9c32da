/- Functions. -/
import Derived.Test.YtghfphjfkdbpjaaGreatDM
import Derived.Test.YtghfphjfkdbpjaaGreatD37
set_option linter.all false
set_option maxRecDepth 100000
set_option maxHeartbeats 4000000
namespace Go.Proofs.QD
open Go
attribute [go_sem] Tryz.ntmps95 Tryz.results95
theorem jR {a:List Int}{left res:Int}(h:fS a left=some res):am Tryz.prog 95 [.sl (ae eI a),.lit (.int .i64 left)] [] (.lit (.int .i64 res)) []:=by
 refine ai (ra:=[]) (md:=mdT) hT (hi:=hi00) Tryz.func95 rfl rfl (by decide +kernel) (by simp) ?_
 unfold fS at h
 obtain ⟨h1,h⟩|⟨h1,h⟩:=af h
 ·cases h
  simp(config:=cS)only[go_sem,eqT h1]
 ·cases h
  simp(config:=cS)only[go_sem,eqF h1]
attribute [go_sem] Tryz.ntmps174 Tryz.results174
theorem Dr {a:GNode}{left res:Int}(h:sY a left=some res):am Tryz.prog 174 [.agg (GNode.encS a),.lit (.int .i64 left)] [] (.lit (.int .i64 res)) []:=by
 refine ai (ra:=[]) (md:=mdT) hT (hi:=hi00) Tryz.func174 rfl rfl (by decide +kernel) (by simp) ?_
 unfold sY at h
 obtain ⟨h1,h⟩|⟨h1,h⟩:=af h
 ·cases h
  simp(config:=cS)only[go_sem,eqT h1]
 ·obtain ⟨r01,g2,h⟩:=ab h
  simp(config:=cS)only[go_sem,eqF h1]
  refine ag (jR g2) ?_
  obtain ⟨h3,h⟩|⟨h3,h⟩:=af h
  ·cases h
   simp(config:=cS)only[go_sem,eqT h3]
  ·cases h
   simp(config:=cS)only[go_sem,eqF h3]
def qk (a:List GNode):(Int × Int)→St
 | (b,i)=>⟨[(0,.sl (ae GNode.encS a)),(1,.lit (.int .i64 b)),(5,.lit (.int .i64 i))],[],2⟩
attribute [go_sem] qk
attribute [go_sem] Tryz.ntmps93 Tryz.results93
theorem Cd {a:List GNode}{left res:Int}(h:rP a left=some res):am Tryz.prog 93 [.sl (ae GNode.encS a),.lit (.int .i64 left)] [] (.lit (.int .i64 res)) []:=by
 refine ai (ra:=[]) (md:=mdT) hT (hi:=hi00) Tryz.func93 rfl rfl (by decide +kernel) (by simp) ?_
 unfold rP at h
 obtain ⟨h1,h⟩|⟨h1,h⟩:=af h
 ·cases h
  simp(config:=cS)only[go_sem,eqT h1]
 ·obtain ⟨q03,l2,h⟩:=ab h
  simp(config:=cS)only[go_sem,eqF h1]
  refine al (m1:=.mk) (m2:=.mk) [.nf [0,1,5] []] (qk a) l2 ?_ ?_
  ·simp(config:=cS)only[go_sem]
  ·intro nb3 sb3 bb3 b3 gb3
   obtain ⟨left_1,i_1⟩:=sb3
   unfold tp at b3
   try dsimp only at b3
   obtain ⟨h4,b3⟩|⟨h4,b3⟩:=af b3
   ·obtain ⟨x01,g5,b3⟩:=ab b3
    obtain ⟨h6,h7,h8⟩:=aj g5
    obtain ⟨r02,g9,b3⟩:=ab b3
    simp(config:=cS)only[go_sem,eqT h4,h6,h7,h8]
    refine ag (Dr g9) ?_
    obtain ⟨h10,b3⟩|⟨h10,b3⟩:=af b3
    ·cases b3
     obtain rfl:=(ak gb3).symm
     try dsimp only at h
     cases h
     simp(config:=cS)only[go_sem,eqT h10]
    ·cases b3
     simp(config:=cS)only[go_sem,eqF h10]
     refine aq gb3 ?_
     simp(config:=cS)only[go_sem]
   ·cases b3
    obtain rfl:=(ak gb3).symm
    try dsimp only at h
    cases h
    simp(config:=cS)only[go_sem,eqF h4]
attribute [go_sem] Tryz.ntmps94 Tryz.results94
theorem Ds {a:List GTie}{left res:Int}(h:sZ a left=some res):am Tryz.prog 94 [.sl (ae GTie.enc a),.lit (.int .i64 left)] [] (.lit (.int .i64 res)) []:=by
 refine ai (ra:=[]) (md:=mdT) hT (hi:=hi00) Tryz.func94 rfl rfl (by decide +kernel) (by simp) ?_
 unfold sZ at h
 obtain ⟨h1,h⟩|⟨h1,h⟩:=af h
 ·cases h
  simp(config:=cS)only[go_sem,eqT h1]
 ·cases h
  simp(config:=cS)only[go_sem,eqF h1]
attribute [go_sem] Tryz.ntmps31 Tryz.results31
theorem Dt {a:GShow}{left res:Int}(h:ta a left=some res):am Tryz.prog 31 [.agg (GShow.encS a),.lit (.int .i64 left)] [] (.lit (.int .i64 res)) []:=by
 refine ai (ra:=[]) (md:=mdT) hT (hi:=hi00) Tryz.func31 rfl rfl (by decide +kernel) (by simp) ?_
 unfold ta at h
 obtain ⟨r01,g1,h⟩:=ab h
 simp(config:=cS)only[go_sem]
 refine ag (Cd g1) ?_
 obtain ⟨h2,h⟩|⟨h2,h⟩:=af h
 ·cases h
  simp(config:=cS)only[go_sem,eqT h2]
 ·obtain ⟨r02,g3,h⟩:=ab h
  simp(config:=cS)only[go_sem,eqF h2]
  refine ag (Ds g3) ?_
  obtain ⟨h4,h⟩|⟨h4,h⟩:=af h
  ·cases h
   simp(config:=cS)only[go_sem,eqT h4]
  ·cases h
   simp(config:=cS)only[go_sem,eqF h4]
attribute [go_sem] Tryz.ntmps106 Tryz.results106
theorem Ce {a:GState}{left res:Int}(h:rS a left=some res):am Tryz.prog 106 [.agg (GState.encS a),.lit (.int .i64 left)] [] (.lit (.int .i64 res)) []:=by
 refine ai (ra:=[]) (md:=mdT) hT (hi:=hi00) Tryz.func106 rfl rfl (by decide +kernel) (by simp) ?_
 unfold rS at h
 obtain ⟨r01,g1,h⟩:=ab h
 simp(config:=cS)only[go_sem]
 refine ag (jR g1) ?_
 obtain ⟨h2,h⟩|⟨h2,h⟩:=af h
 ·cases h
  simp(config:=cS)only[go_sem,eqT h2]
 ·obtain ⟨r02,g3,h⟩:=ab h
  simp(config:=cS)only[go_sem,eqF h2]
  refine ag (jR g3) ?_
  obtain ⟨h4,h⟩|⟨h4,h⟩:=af h
  ·cases h
   simp(config:=cS)only[go_sem,eqT h4]
  ·cases h
   simp(config:=cS)only[go_sem,eqF h4]
attribute [go_sem] Tryz.ntmps185 Tryz.results185
theorem Cf {a:GEntry}{left res:Int}(h:rU a left=some res):am Tryz.prog 185 [.agg (GEntry.encS a),.lit (.int .i64 left)] [] (.lit (.int .i64 res)) []:=by
 refine ai (ra:=[]) (md:=mdT) hT (hi:=hi00) Tryz.func185 rfl rfl (by decide +kernel) (by simp) ?_
 unfold rU at h
 obtain ⟨r01,g1,h⟩:=ab h
 simp(config:=cS)only[go_sem]
 refine ag (jR g1) ?_
 obtain ⟨h2,h⟩|⟨h2,h⟩:=af h
 ·cases h
  simp(config:=cS)only[go_sem,eqT h2]
 ·obtain ⟨r02,g3,h⟩:=ab h
  simp(config:=cS)only[go_sem,eqF h2]
  refine ag (jR g3) ?_
  obtain ⟨h4,h⟩|⟨h4,h⟩:=af h
  ·cases h
   simp(config:=cS)only[go_sem,eqT h4]
  ·obtain ⟨r03,g5,h⟩:=ab h
   simp(config:=cS)only[go_sem,eqF h4]
   refine ag (jR g5) ?_
   obtain ⟨h6,h⟩|⟨h6,h⟩:=af h
   ·cases h
    simp(config:=cS)only[go_sem,eqT h6]
   ·cases h
    simp(config:=cS)only[go_sem,eqF h6]
def pv (a:List GEntry):(Int × Int)→St
 | (b,i)=>⟨[(0,.sl (ae GEntry.encS a)),(1,.lit (.int .i64 b)),(5,.lit (.int .i64 i))],[],2⟩
attribute [go_sem] pv
attribute [go_sem] Tryz.ntmps107 Tryz.results107
theorem AL {a:List GEntry}{left res:Int}(h:qL a left=some res):am Tryz.prog 107 [.sl (ae GEntry.encS a),.lit (.int .i64 left)] [] (.lit (.int .i64 res)) []:=by
 refine ai (ra:=[]) (md:=mdT) hT (hi:=hi00) Tryz.func107 rfl rfl (by decide +kernel) (by simp) ?_
 unfold qL at h
 obtain ⟨h1,h⟩|⟨h1,h⟩:=af h
 ·cases h
  simp(config:=cS)only[go_sem,eqT h1]
 ·obtain ⟨q03,l2,h⟩:=ab h
  simp(config:=cS)only[go_sem,eqF h1]
  refine al (m1:=.mk) (m2:=.mk) [.nf [0,1,5] []] (pv a) l2 ?_ ?_
  ·simp(config:=cS)only[go_sem]
  ·intro nb3 sb3 bb3 b3 gb3
   obtain ⟨left_1,i_1⟩:=sb3
   unfold sK at b3
   try dsimp only at b3
   obtain ⟨h4,b3⟩|⟨h4,b3⟩:=af b3
   ·obtain ⟨x01,g5,b3⟩:=ab b3
    obtain ⟨h6,h7,h8⟩:=aj g5
    obtain ⟨r02,g9,b3⟩:=ab b3
    simp(config:=cS)only[go_sem,eqT h4,h6,h7,h8]
    refine ag (Cf g9) ?_
    obtain ⟨h10,b3⟩|⟨h10,b3⟩:=af b3
    ·cases b3
     obtain rfl:=(ak gb3).symm
     try dsimp only at h
     cases h
     simp(config:=cS)only[go_sem,eqT h10]
    ·cases b3
     simp(config:=cS)only[go_sem,eqF h10]
     refine aq gb3 ?_
     simp(config:=cS)only[go_sem]
   ·cases b3
    obtain rfl:=(ak gb3).symm
    try dsimp only at h
    cases h
    simp(config:=cS)only[go_sem,eqF h4]
attribute [go_sem] Tryz.ntmps44 Tryz.results44
theorem MK {a:GDesk}{left res:Int}(h:wY a left=some res):am Tryz.prog 44 [.agg (GDesk.encS a),.lit (.int .i64 left)] [] (.lit (.int .i64 res)) []:=by
 refine ai (ra:=[]) (md:=mdT) hT (hi:=hi00) Tryz.func44 rfl rfl (by decide +kernel) (by simp) ?_
 unfold wY at h
 obtain ⟨r01,g1,h⟩:=ab h
 simp(config:=cS)only[go_sem]
 refine ag (Dt g1) ?_
 obtain ⟨h2,h⟩|⟨h2,h⟩:=af h
 ·cases h
  simp(config:=cS)only[go_sem,eqT h2]
 ·obtain ⟨r02,g3,h⟩:=ab h
  simp(config:=cS)only[go_sem,eqF h2]
  refine ag (Ce g3) ?_
  obtain ⟨h4,h⟩|⟨h4,h⟩:=af h
  ·cases h
   simp(config:=cS)only[go_sem,eqT h4]
  ·obtain ⟨r03,g5,h⟩:=ab h
   simp(config:=cS)only[go_sem,eqF h4]
   refine ag (AL g5) ?_
   obtain ⟨h6,h⟩|⟨h6,h⟩:=af h
   ·cases h
    simp(config:=cS)only[go_sem,eqT h6]
   ·cases h
    simp(config:=cS)only[go_sem,eqF h6]
def rg (a:List Int):(Int × (List Int))→St
 | (i,b)=>⟨[(0,.sl (ae eI a)),(3,.ref 448 1 0 b.length),(4,.lit (.int .i64 i))],[(448,1,.row true (ae eI b))],2⟩
attribute [go_sem] rg
attribute [go_sem] Tryz.ntmps47 Tryz.results47
theorem jS {a res:List Int}(h:fT a=some res):am Tryz.prog 47 [.sl (ae eI a)] [] (.ref 20000 1 0 res.length) [(20000,1,.row true (ae eI res))]:=by
 refine ai (ra:=[.home 2]) (md:=mdT) hT (hi:=hi00) Tryz.func47 rfl rfl (by decide +kernel) (by simp) ?_
 unfold fT at h
 obtain ⟨h1,h⟩:=ah h
 obtain ⟨h2,h⟩:=ah h
 obtain ⟨q03,l3,h⟩:=ab h
 simp(config:=cS)only[go_sem,eqT h1,eqT h2]
 refine al (m1:=.mk) (m2:=.mk) [.nf [0,3,4] [448]] (rg a) l3 ?_ ?_
 ·simp(config:=cS)only[go_sem]
 ·intro nb4 sb4 bb4 b4 gb4
  obtain ⟨i_1,out_1⟩:=sb4
  unfold uv at b4
  try dsimp only at b4
  obtain ⟨h5,b4⟩|⟨h5,b4⟩:=af b4
  ·obtain ⟨x01,g6,b4⟩:=ab b4
   obtain ⟨h7,h8,h9⟩:=aj g6
   obtain ⟨x02,g10,b4⟩:=ab b4
   obtain ⟨h11,h12,h13⟩:=aj g10
   cases b4
   simp(config:=cS)only[go_sem,eqT h5,h7,h8,h9,h11,h12,h13]
   refine aq gb4 ?_
   simp(config:=cS)only[go_sem]
  ·cases b4
   obtain rfl:=(ak gb4).symm
   try dsimp only at h
   cases h
   simp(config:=cS)only[go_sem,eqF h5]
attribute [go_sem] Tryz.ntmps180 Tryz.results180
theorem Du {a res:GNode}(h:tb a=some res):am Tryz.prog 180 [.agg (GNode.encS a)] [] (.agg [.lit (.string res.name),.ref 20000 1 0 res.label.length,.lit (.int .i64 res.watch)]) [(20000,1,.row true (ae eI res.label))]:=by
 refine ai (ra:=[.homeCell 128 1]) (md:=mdT) hT (hi:=hi00) Tryz.func180 rfl rfl (by decide +kernel) (by simp) ?_
 unfold tb at h
 obtain ⟨r01,g1,h⟩:=ab h
 simp(config:=cS)only[go_sem]
 refine ag (jS g1) ?_
 cases h
 simp(config:=cS)only[go_sem]
def ql (a:List GNode):(Int × (List GNode))→St
 | (i,b)=>⟨[(0,.sl (ae GNode.encS a)),(3,.ref 448 1 0 b.length),(4,.lit (.int .i64 i))],[(448,1,.row true (ae GNode.encO b))],2⟩
attribute [go_sem] ql
attribute [go_sem] Tryz.ntmps99 Tryz.results99
theorem Cg {a res:List GNode}(h:rQ a=some res):am Tryz.prog 99 [.sl (ae GNode.encS a)] [] (.ref 20000 1 0 res.length) [(20000,1,.row true (ae GNode.encO res))]:=by
 refine ai (ra:=[.home 2]) (md:=mdT) hT (hi:=hi00) Tryz.func99 rfl rfl (by decide +kernel) (by simp) ?_
 unfold rQ at h
 obtain ⟨h1,h⟩:=ah h
 obtain ⟨h2,h⟩:=ah h
 obtain ⟨q04,l3,h⟩:=ab h
 simp(config:=cS)only[go_sem,eqT h1,eqT h2]
 refine al (m1:=.mk) (m2:=.mk) [.nf [0,3,4] [448]] (ql a) l3 ?_ ?_
 ·simp(config:=cS)only[go_sem]
 ·intro nb4 sb4 bb4 b4 gb4
  obtain ⟨i_1,out_1⟩:=sb4
  unfold tq at b4
  try dsimp only at b4
  obtain ⟨h5,b4⟩|⟨h5,b4⟩:=af b4
  ·obtain ⟨x01,g6,b4⟩:=ab b4
   obtain ⟨h7,h8,h9⟩:=aj g6
   obtain ⟨r02,g10,b4⟩:=ab b4
   simp(config:=cS)only[go_sem,eqT h5,h7,h8,h9]
   refine ag (Du g10) ?_
   obtain ⟨x03,g11,b4⟩:=ab b4
   obtain ⟨h12,h13,h14⟩:=aj g11
   cases b4
   simp(config:=cS)only[go_sem,h12,h13,h14]
   refine aq gb4 ?_
   simp(config:=cS)only[go_sem]
  ·cases b4
   obtain rfl:=(ak gb4).symm
   try dsimp only at h
   cases h
   simp(config:=cS)only[go_sem,eqF h5]
attribute [go_sem] Tryz.ntmps181 Tryz.results181
theorem Fq {a res:GTie}(h:uw a=some res):am Tryz.prog 181 [.agg (GTie.enc a)] [] (.agg (GTie.enc res)) []:=by
 refine ai (ra:=[]) (md:=mdT) hT (hi:=hi00) Tryz.func181 rfl rfl (by decide +kernel) (by simp) ?_
 unfold uw at h
 cases h
 simp(config:=cS)only[go_sem]
def rh (a:List GTie):(Int × (List GTie))→St
 | (i,b)=>⟨[(0,.sl (ae GTie.enc a)),(3,.ref 448 1 0 b.length),(4,.lit (.int .i64 i))],[(448,1,.row true (ae GTie.enc b))],2⟩
attribute [go_sem] rh
attribute [go_sem] Tryz.ntmps100 Tryz.results100
theorem Dv {a res:List GTie}(h:tc a=some res):am Tryz.prog 100 [.sl (ae GTie.enc a)] [] (.ref 20000 1 0 res.length) [(20000,1,.row true (ae GTie.enc res))]:=by
 refine ai (ra:=[.home 2]) (md:=mdT) hT (hi:=hi00) Tryz.func100 rfl rfl (by decide +kernel) (by simp) ?_
 unfold tc at h
 obtain ⟨h1,h⟩:=ah h
 obtain ⟨h2,h⟩:=ah h
 obtain ⟨q04,l3,h⟩:=ab h
 simp(config:=cS)only[go_sem,eqT h1,eqT h2]
 refine al (m1:=.mk) (m2:=.mk) [.nf [0,3,4] [448]] (rh a) l3 ?_ ?_
 ·simp(config:=cS)only[go_sem]
 ·intro nb4 sb4 bb4 b4 gb4
  obtain ⟨i_1,out_1⟩:=sb4
  unfold ux at b4
  try dsimp only at b4
  obtain ⟨h5,b4⟩|⟨h5,b4⟩:=af b4
  ·obtain ⟨x01,g6,b4⟩:=ab b4
   obtain ⟨h7,h8,h9⟩:=aj g6
   obtain ⟨r02,g10,b4⟩:=ab b4
   simp(config:=cS)only[go_sem,eqT h5,h7,h8,h9]
   refine ag (Fq g10) ?_
   obtain ⟨x03,g11,b4⟩:=ab b4
   obtain ⟨h12,h13,h14⟩:=aj g11
   cases b4
   simp(config:=cS)only[go_sem,h12,h13,h14]
   refine aq gb4 ?_
   simp(config:=cS)only[go_sem]
  ·cases b4
   obtain rfl:=(ak gb4).symm
   try dsimp only at h
   cases h
   simp(config:=cS)only[go_sem,eqF h5]
attribute [go_sem] Tryz.ntmps34 Tryz.results34
theorem Dw {a res:GShow}(h:td a=some res):am Tryz.prog 34 [.agg (GShow.encS a)] [] (.agg [.ref 20000 1 0 res.nodes.length,.ref 20001 1 0 res.ties.length,.lit (.int .i64 res.horizon)]) [(20000,1,.row true (ae GNode.encO res.nodes)),(20001,1,.row true (ae GTie.enc res.ties))]:=by
 refine ai (ra:=[.homeCell 128 0,.homeCell 128 1]) (md:=mdT) hT (hi:=hi00) Tryz.func34 rfl rfl (by decide +kernel) (by simp) ?_
 unfold td at h
 obtain ⟨r01,g1,h⟩:=ab h
 simp(config:=cS)only[go_sem]
 refine ag (Cg g1) ?_
 obtain ⟨r02,g2,h⟩:=ab h
 simp(config:=cS)only[go_sem]
 refine ag (Dv g2) ?_
 cases h
 simp(config:=cS)only[go_sem]
attribute [go_sem] Tryz.ntmps112 Tryz.results112
theorem Ch {a res:GState}(h:rV a=some res):am Tryz.prog 112 [.agg (GState.encS a)] [] (.agg [.lit (.int .i64 res.now),.ref 20000 1 0 res.times.length,.ref 20001 1 0 res.values.length]) [(20000,1,.row true (ae eI res.times)),(20001,1,.row true (ae eI res.values))]:=by
 refine ai (ra:=[.homeCell 128 1,.homeCell 128 2]) (md:=mdT) hT (hi:=hi00) Tryz.func112 rfl rfl (by decide +kernel) (by simp) ?_
 unfold rV at h
 obtain ⟨r01,g1,h⟩:=ab h
 simp(config:=cS)only[go_sem]
 refine ag (jS g1) ?_
 obtain ⟨r02,g2,h⟩:=ab h
 simp(config:=cS)only[go_sem]
 refine ag (jS g2) ?_
 cases h
 simp(config:=cS)only[go_sem]
attribute [go_sem] Tryz.ntmps194 Tryz.results194
theorem Ci {a res:GEntry}(h:rW a=some res):am Tryz.prog 194 [.agg (GEntry.encS a)] [] (.agg [.lit (.int .i64 res.now),.ref 20000 1 0 res.ties.length,.ref 20001 1 0 res.nodes.length,.ref 20002 1 0 res.values.length]) [(20000,1,.row true (ae eI res.ties)),(20001,1,.row true (ae eI res.nodes)),(20002,1,.row true (ae eI res.values))]:=by
 refine ai (ra:=[.homeCell 128 1,.homeCell 128 2,.homeCell 128 3]) (md:=mdT) hT (hi:=hi00) Tryz.func194 rfl rfl (by decide +kernel) (by simp) ?_
 unfold rW at h
 obtain ⟨r01,g1,h⟩:=ab h
 simp(config:=cS)only[go_sem]
 refine ag (jS g1) ?_
 obtain ⟨r02,g2,h⟩:=ab h
 simp(config:=cS)only[go_sem]
 refine ag (jS g2) ?_
 obtain ⟨r03,g3,h⟩:=ab h
 simp(config:=cS)only[go_sem]
 refine ag (jS g3) ?_
 cases h
 simp(config:=cS)only[go_sem]
def pw (a:List GEntry):(Int × (List GEntry))→St
 | (i,b)=>⟨[(0,.sl (ae GEntry.encS a)),(3,.ref 448 1 0 b.length),(4,.lit (.int .i64 i))],[(448,1,.row true (ae GEntry.encO b))],2⟩
attribute [go_sem] pw
attribute [go_sem] Tryz.ntmps113 Tryz.results113
theorem AM {a res:List GEntry}(h:qM a=some res):am Tryz.prog 113 [.sl (ae GEntry.encS a)] [] (.ref 20000 1 0 res.length) [(20000,1,.row true (ae GEntry.encO res))]:=by
 refine ai (ra:=[.home 2]) (md:=mdT) hT (hi:=hi00) Tryz.func113 rfl rfl (by decide +kernel) (by simp) ?_
 unfold qM at h
 obtain ⟨h1,h⟩:=ah h
 obtain ⟨h2,h⟩:=ah h
 obtain ⟨q04,l3,h⟩:=ab h
 simp(config:=cS)only[go_sem,eqT h1,eqT h2]
 refine al (m1:=.mk) (m2:=.mk) [.nf [0,3,4] [448]] (pw a) l3 ?_ ?_
 ·simp(config:=cS)only[go_sem]
 ·intro nb4 sb4 bb4 b4 gb4
  obtain ⟨i_1,out_1⟩:=sb4
  unfold sL at b4
  try dsimp only at b4
  obtain ⟨h5,b4⟩|⟨h5,b4⟩:=af b4
  ·obtain ⟨x01,g6,b4⟩:=ab b4
   obtain ⟨h7,h8,h9⟩:=aj g6
   obtain ⟨r02,g10,b4⟩:=ab b4
   simp(config:=cS)only[go_sem,eqT h5,h7,h8,h9]
   refine ag (Ci g10) ?_
   obtain ⟨x03,g11,b4⟩:=ab b4
   obtain ⟨h12,h13,h14⟩:=aj g11
   cases b4
   simp(config:=cS)only[go_sem,h12,h13,h14]
   refine aq gb4 ?_
   simp(config:=cS)only[go_sem]
  ·cases b4
   obtain rfl:=(ak gb4).symm
   try dsimp only at h
   cases h
   simp(config:=cS)only[go_sem,eqF h5]
attribute [go_sem] Tryz.ntmps46 Tryz.results46
theorem ML {a res:GDesk}(h:wZ a=some res):am Tryz.prog 46 [.agg (GDesk.encS a)] [] (.agg [.ref 20000 1 0 res.show_.nodes.length,.ref 20001 1 0 res.show_.ties.length,.lit (.int .i64 res.show_.horizon),.lit (.int .i64 res.state.now),.ref 20002 1 0 res.state.times.length,.ref 20003 1 0 res.state.values.length,.lit (.bool res.lazy),.ref 20004 1 0 res.log.length]) [(20000,1,.row true (ae GNode.encO res.show_.nodes)),(20001,1,.row true (ae GTie.enc res.show_.ties)),(20002,1,.row true (ae eI res.state.times)),(20003,1,.row true (ae eI res.state.values)),(20004,1,.row true (ae GEntry.encO res.log))]:=by
 refine ai (ra:=[.homeCell 128 0,.homeCell 128 1,.homeCell 128 4,.homeCell 128 5,.homeCell 128 7]) (md:=mdT) hT (hi:=hi00) Tryz.func46 rfl rfl (by decide +kernel) (by simp) ?_
 unfold wZ at h
 obtain ⟨r01,g1,h⟩:=ab h
 simp(config:=cS)only[go_sem]
 refine ag (Dw g1) ?_
 obtain ⟨r02,g2,h⟩:=ab h
 simp(config:=cS)only[go_sem]
 refine ag (Ch g2) ?_
 obtain ⟨r03,g3,h⟩:=ab h
 simp(config:=cS)only[go_sem]
 refine ag (AM g3) ?_
 cases h
 simp(config:=cS)only[go_sem]
attribute [go_sem] Tryz.ntmps134 Tryz.results134
theorem cn {n lo hi:Int}{res:Bool}(h:bv n lo hi=some res):am Tryz.prog 134 [.lit (.int .i64 n),.lit (.int .i64 lo),.lit (.int .i64 hi)] [] (.lit (.bool res)) []:=by
 refine ai (ra:=[]) (md:=mdT) hT (hi:=hi00) Tryz.func134 rfl rfl (by decide +kernel) (by simp) ?_
 unfold bv at h
 obtain ⟨h1,h⟩|⟨h1,h⟩:=af h
 ·cases h
  simp(config:=cS)only[go_sem,eqT h1]
 ·cases h
  simp(config:=cS)only[go_sem,eqF h1]
def ri (s:ByteArray)(i:Int):St:=⟨[(0,.lit (.string s)),(3,.lit (.int .i64 i))],[],2⟩
attribute [go_sem] ri
attribute [go_sem] Tryz.ntmps266 Tryz.results266
theorem Dx {s:ByteArray}{res:Bool}(h:mc s=some res):am Tryz.prog 266 [.lit (.string s)] [] (.lit (.bool res)) []:=by
 refine ai (ra:=[]) (md:=mdT) hT (hi:=hi00) Tryz.func266 rfl rfl (by decide +kernel) (by simp) ?_
 unfold mc at h
 obtain ⟨q03,l1,h⟩:=ab h
 simp(config:=cS)only[go_sem]
 refine al (m1:=.mk) (m2:=.mk) [.nf [0,3] []] (ri s) l1 ?_ ?_
 ·simp(config:=cS)only[go_sem]
 ·intro nb2 i_1 bb2 b2 gb2
  unfold gD at b2
  try dsimp only at b2
  obtain ⟨h3,b2⟩|⟨h3,b2⟩:=af b2
  ·obtain ⟨c1001,g4,b2⟩:=ab b2
   obtain ⟨h5,h6,h7⟩:=jb g4
   obtain ⟨h8,b2⟩|⟨h8,b2⟩:=af b2
   ·obtain ⟨h9,b2⟩|⟨h9,b2⟩:=af b2
    ·cases b2
     simp(config:=cS)only[go_sem,eqT h3,h5,h6,h7,eqT h8,eqT h9]
     refine aq gb2 ?_
     simp(config:=cS)only[go_sem]
    ·obtain ⟨h10,b2⟩|⟨h10,b2⟩:=af b2
     ·cases b2
      obtain rfl:=(ak gb2).symm
      try dsimp only at h
      cases h
      simp(config:=cS)only[go_sem,eqT h3,h5,h6,h7,eqT h8,eqF h9,eqT h10]
     ·obtain ⟨h12,b2⟩|⟨h12,b2⟩:=af b2
      ·cases b2
       obtain rfl:=(ak gb2).symm
       try dsimp only at h
       cases h
       simp(config:=cS)only[go_sem,eqT h3,h5,h6,h7,eqT h8,eqF h9,eqF h10,eqT h12]
      ·obtain ⟨h14,b2⟩|⟨h14,b2⟩:=af b2
       ·cases b2
        obtain rfl:=(ak gb2).symm
        try dsimp only at h
        cases h
        simp(config:=cS)only[go_sem,eqT h3,h5,h6,h7,eqT h8,eqF h9,eqF h10,eqF h12,eqT h14]
       ·cases b2
        simp(config:=cS)only[go_sem,eqT h3,h5,h6,h7,eqT h8,eqF h9,eqF h10,eqF h12,eqF h14]
        refine aq gb2 ?_
        simp(config:=cS)only[go_sem]
   ·obtain ⟨h16,b2⟩|⟨h16,b2⟩:=af b2
    ·cases b2
     obtain rfl:=(ak gb2).symm
     try dsimp only at h
     cases h
     simp(config:=cS)only[go_sem,eqT h3,h5,h6,h7,eqF h8,eqT h16]
    ·obtain ⟨h18,b2⟩|⟨h18,b2⟩:=af b2
     ·cases b2
      obtain rfl:=(ak gb2).symm
      try dsimp only at h
      cases h
      simp(config:=cS)only[go_sem,eqT h3,h5,h6,h7,eqF h8,eqF h16,eqT h18]
     ·obtain ⟨h20,b2⟩|⟨h20,b2⟩:=af b2
      ·cases b2
       obtain rfl:=(ak gb2).symm
       try dsimp only at h
       cases h
       simp(config:=cS)only[go_sem,eqT h3,h5,h6,h7,eqF h8,eqF h16,eqF h18,eqT h20]
      ·cases b2
       simp(config:=cS)only[go_sem,eqT h3,h5,h6,h7,eqF h8,eqF h16,eqF h18,eqF h20]
       refine aq gb2 ?_
       simp(config:=cS)only[go_sem]
  ·cases b2
   obtain rfl:=(ak gb2).symm
   try dsimp only at h
   obtain ⟨r02,g23,h⟩:=ab h
   simp(config:=cS)only[go_sem,eqF h3]
   refine ag (cn g23) ?_
   cases h
   simp(config:=cS)only[go_sem]
attribute [go_sem] Tryz.ntmps245 Tryz.results245
theorem nj {n res:Int}(h:dw n=some res):am Tryz.prog 245 [.lit (.int .i64 n)] [] (.lit (.int .i64 res)) []:=by
 refine ai (ra:=[]) (md:=mdT) hT (hi:=hi00) Tryz.func245 rfl rfl (by decide +kernel) (by simp) ?_
 unfold dw at h
 obtain ⟨h1,h⟩|⟨h1,h⟩:=af h
 ·cases h
  simp(config:=cS)only[go_sem,eqT h1]
 ·cases h
  simp(config:=cS)only[go_sem,eqF h1]
def qm (l:List Int)(a b:Int):St:=⟨[(0,.sl (ae eI l)),(5,.sl (ae eI l)),(6,.lit (.int .i64 a)),(7,.lit (.int .i64 b))],[],2⟩
attribute [go_sem] qm
attribute [go_sem] Tryz.ntmps264 Tryz.results264
theorem nk {l:List Int}{res:Bool}(h:ey l=some res):am Tryz.prog 264 [.sl (ae eI l)] [] (.lit (.bool res)) []:=by
 refine ai (ra:=[]) (md:=mdT) hT (hi:=hi00) Tryz.func264 rfl rfl (by decide +kernel) (by simp) ?_
 unfold ey at h
 obtain ⟨q06,l1,h⟩:=ab h
 simp(config:=cS)only[go_sem]
 refine al (m1:=.mk) (m2:=.mk) [.nf [0,5,6,7] []] (qm l ((l.length:Nat):Int)) l1 ?_ ?_
 ·simp(config:=cS)only[go_sem]
 ·intro nb2 v7_1 bb2 b2 gb2
  unfold fz at b2
  try dsimp only at b2
  obtain ⟨h3,b2⟩|⟨h3,b2⟩:=af b2
  ·obtain ⟨x01,g4,b2⟩:=ab b2
   obtain ⟨h5,h6,h7⟩:=aj g4
   obtain ⟨h8,b2⟩|⟨h8,b2⟩:=af b2
   ·cases b2
    obtain rfl:=(ak gb2).symm
    try dsimp only at h
    cases h
    simp(config:=cS)only[go_sem,eqT h3,h5,h6,h7,eqT h8]
   ·obtain ⟨r02,g10,b2⟩:=ab b2
    simp(config:=cS)only[go_sem,eqT h3,h5,h6,h7,eqF h8]
    refine ag (cn g10) ?_
    obtain ⟨h11,b2⟩|⟨h11,b2⟩:=af b2
    ·obtain ⟨h12,b2⟩|⟨h12,b2⟩:=af b2
     ·obtain ⟨x03,g13,b2⟩:=ab b2
      obtain ⟨h14,h15,h16⟩:=aj g13
      obtain ⟨r04,g17,b2⟩:=ab b2
      simp(config:=cS)only[go_sem,eqT h3,h5,h6,h7,eqF h8,eZt h11,eqT h12,h14,h15,h16]
      refine ag (nj g17) ?_
      obtain ⟨r05,g18,b2⟩:=ab b2
      simp(config:=cS)only[go_sem,eqT h3,h5,h6,h7,eqF h8,eZt h11,eqT h12,h14,h15,h16]
      refine ag (nj g18) ?_
      obtain ⟨h19,b2⟩|⟨h19,b2⟩:=af b2
      ·cases b2
       obtain rfl:=(ak gb2).symm
       try dsimp only at h
       cases h
       simp(config:=cS)only[go_sem,eqT h3,h5,h6,h7,eqF h8,eZt h11,eqT h12,h14,h15,h16,eqT h19]
      ·cases b2
       simp(config:=cS)only[go_sem,eqT h3,h5,h6,h7,eqF h8,eZt h11,eqT h12,h14,h15,h16,eqF h19]
       refine aq gb2 ?_
       simp(config:=cS)only[go_sem,eqT h3,h5,h6,h7,eqF h8,eZt h11,eqT h12,h14,h15,h16,eqF h19]
     ·cases b2
      simp(config:=cS)only[go_sem,eqT h3,h5,h6,h7,eqF h8,eZt h11,eqF h12]
      refine aq gb2 ?_
      simp(config:=cS)only[go_sem,eqT h3,h5,h6,h7,eqF h8,eZt h11,eqF h12]
    ·cases b2
     obtain rfl:=(ak gb2).symm
     try dsimp only at h
     cases h
     simp(config:=cS)only[go_sem,eqT h3,h5,h6,h7,eqF h8,eZf h11]
  ·cases b2
   obtain rfl:=(ak gb2).symm
   try dsimp only at h
   cases h
   simp(config:=cS)only[go_sem,eqF h3]
attribute [go_sem] Tryz.ntmps243 Tryz.results243
theorem Dy {n:GNode}{res:Bool}(h:me n=some res):am Tryz.prog 243 [.agg (GNode.encS n)] [] (.lit (.bool res)) []:=by
 refine ai (ra:=[]) (md:=mdT) hT (hi:=hi00) Tryz.func243 rfl rfl (by decide +kernel) (by simp) ?_
 unfold me at h
 obtain ⟨r01,g1,h⟩:=ab h
 simp(config:=cS)only[go_sem]
 refine ag (Dx g1) ?_
 obtain ⟨h2,h⟩|⟨h2,h⟩:=af h
 ·obtain ⟨r02,g3,h⟩:=ab h
  simp(config:=cS)only[go_sem,eZt h2]
  refine ag (nk g3) ?_
  obtain ⟨h4,h⟩|⟨h4,h⟩:=af h
  ·obtain ⟨r03,g5,h⟩:=ab h
   simp(config:=cS)only[go_sem,eZt h2,eZt h4]
   refine ag (cn g5) ?_
   cases h
   simp(config:=cS)only[go_sem,eZt h2,eZt h4]
  ·cases h
   simp(config:=cS)only[go_sem,eZt h2,eZf h4]
 ·cases h
  simp(config:=cS)only[go_sem,eZf h2]
def nX (a:ByteArray)(c:List GNode)(d b:Int):St:=⟨[(1,.lit (.string a)),(8,.sl (ae GNode.encS c)),(9,.lit (.int .i64 d)),(10,.lit (.int .i64 b))],[],2⟩
attribute [go_sem] nX
attribute [go_sem] Tryz.ntmps244 Tryz.results244
theorem zy {s:GShow}{name:ByteArray}{res:Int}(h:jA s name=some res):am Tryz.prog 244 [.agg (GShow.encS s),.lit (.string name)] [] (.lit (.int .i64 res)) []:=by
 refine ai (ra:=[]) (md:=mdT) hT (hi:=hi00) Tryz.func244 rfl rfl (by decide +kernel) (by simp) ?_
 unfold jA at h
 obtain ⟨q02,l1,h⟩:=ab h
 simp(config:=cS)only[go_sem]
 refine al (m1:=.mk) (m2:=.mk) [.nf [1,8,9,10] []] (nX name s.nodes ((s.nodes.length:Nat):Int)) l1 ?_ ?_
 ·simp(config:=cS)only[go_sem]
 ·intro nb2 v10_1 bb2 b2 gb2
  unfold dO at b2
  try dsimp only at b2
  obtain ⟨h3,b2⟩|⟨h3,b2⟩:=af b2
  ·obtain ⟨x01,g4,b2⟩:=ab b2
   obtain ⟨h5,h6,h7⟩:=aj g4
   obtain ⟨h8,b2⟩|⟨h8,b2⟩:=af b2
   ·cases b2
    obtain rfl:=(ak gb2).symm
    try dsimp only at h
    cases h
    simp(config:=cS)only[go_sem,eqT h3,h5,h6,h7,eqT h8]
   ·cases b2
    simp(config:=cS)only[go_sem,eqT h3,h5,h6,h7,eqF h8]
    refine aq gb2 ?_
    simp(config:=cS)only[go_sem]
  ·cases b2
   obtain rfl:=(ak gb2).symm
   try dsimp only at h
   cases h
   simp(config:=cS)only[go_sem,eqF h3]
def nD (p:Int)(b:List GNode)(c a:Int):St:=⟨[(1,.lit (.int .i64 p)),(8,.sl (ae GNode.encS b)),(9,.lit (.int .i64 c)),(10,.lit (.int .i64 a))],[],2⟩
attribute [go_sem] nD
attribute [go_sem] Tryz.ntmps136 Tryz.results136
theorem kW {s:GShow}{p res:Int}(h:ch s p=some res):am Tryz.prog 136 [.agg (GShow.encS s),.lit (.int .i64 p)] [] (.lit (.int .i64 res)) []:=by
 refine ai (ra:=[]) (md:=mdT) hT (hi:=hi00) Tryz.func136 rfl rfl (by decide +kernel) (by simp) ?_
 unfold ch at h
 obtain ⟨q02,l1,h⟩:=ab h
 simp(config:=cS)only[go_sem]
 refine al (m1:=.mk) (m2:=.mk) [.nf [1,8,9,10] []] (nD p s.nodes ((s.nodes.length:Nat):Int)) l1 ?_ ?_
 ·simp(config:=cS)only[go_sem]
 ·intro nb2 v10_1 bb2 b2 gb2
  unfold dx at b2
  try dsimp only at b2
  obtain ⟨h3,b2⟩|⟨h3,b2⟩:=af b2
  ·obtain ⟨x01,g4,b2⟩:=ab b2
   obtain ⟨h5,h6,h7⟩:=aj g4
   obtain ⟨h8,b2⟩|⟨h8,b2⟩:=af b2
   ·cases b2
    obtain rfl:=(ak gb2).symm
    try dsimp only at h
    cases h
    simp(config:=cS)only[go_sem,eqT h3,h5,h6,h7,eqT h8]
   ·cases b2
    simp(config:=cS)only[go_sem,eqT h3,h5,h6,h7,eqF h8]
    refine aq gb2 ?_
    simp(config:=cS)only[go_sem]
  ·cases b2
   obtain rfl:=(ak gb2).symm
   try dsimp only at h
   cases h
   simp(config:=cS)only[go_sem,eqF h3]
def rj (n:Int)(a:List Int)(b c:Int):St:=⟨[(1,.lit (.int .i64 n)),(7,.sl (ae eI a)),(8,.lit (.int .i64 b)),(9,.lit (.int .i64 c))],[],2⟩
attribute [go_sem] rj
attribute [go_sem] Tryz.ntmps198 Tryz.results198
theorem jT {l:List Int}{n:Int}{res:Bool}(h:ck l n=some res):am Tryz.prog 198 [.sl (ae eI l),.lit (.int .i64 n)] [] (.lit (.bool res)) []:=by
 refine ai (ra:=[]) (md:=mdT) hT (hi:=hi00) Tryz.func198 rfl rfl (by decide +kernel) (by simp) ?_
 unfold ck at h
 obtain ⟨q02,l1,h⟩:=ab h
 simp(config:=cS)only[go_sem]
 refine al (m1:=.mk) (m2:=.mk) [.nf [1,7,8,9] []] (rj n l ((l.length:Nat):Int)) l1 ?_ ?_
 ·simp(config:=cS)only[go_sem]
 ·intro nb2 v9_1 bb2 b2 gb2
  unfold gE at b2
  try dsimp only at b2
  obtain ⟨h3,b2⟩|⟨h3,b2⟩:=af b2
  ·obtain ⟨x01,g4,b2⟩:=ab b2
   obtain ⟨h5,h6,h7⟩:=aj g4
   obtain ⟨h8,b2⟩|⟨h8,b2⟩:=af b2
   ·cases b2
    obtain rfl:=(ak gb2).symm
    try dsimp only at h
    cases h
    simp(config:=cS)only[go_sem,eqT h3,h5,h6,h7,eqT h8]
   ·cases b2
    simp(config:=cS)only[go_sem,eqT h3,h5,h6,h7,eqF h8]
    refine aq gb2 ?_
    simp(config:=cS)only[go_sem]
  ·cases b2
   obtain rfl:=(ak gb2).symm
   try dsimp only at h
   cases h
   simp(config:=cS)only[go_sem,eqF h3]
def mw (a b:List Int)(c d:Int):St:=⟨[(0,.sl (ae eI a)),(15,.sl (ae eI b)),(16,.lit (.int .i64 c)),(17,.lit (.int .i64 d))],[],2⟩
attribute [go_sem] mw
attribute [go_sem] Tryz.ntmps246 Tryz.results246
theorem xi {a b:List Int}{res:Bool}(h:dP a b=some res):am Tryz.prog 246 [.sl (ae eI a),.sl (ae eI b)] [] (.lit (.bool res)) []:=by
 refine ai (ra:=[]) (md:=mdT) hT (hi:=hi00) Tryz.func246 rfl rfl (by decide +kernel) (by simp) ?_
 unfold dP at h
 obtain ⟨r01,g1,h⟩:=ab h
 simp(config:=cS)only[go_sem]
 refine ag (nk g1) ?_
 obtain ⟨h2,h⟩|⟨h2,h⟩:=af h
 ·obtain ⟨r02,g3,h⟩:=ab h
  simp(config:=cS)only[go_sem,eZt h2]
  refine ag (nk g3) ?_
  obtain ⟨h4,h⟩|⟨h4,h⟩:=af h
  ·obtain ⟨q05,l5,h⟩:=ab h
   simp(config:=cS)only[go_sem,eZt h2,eZt h4]
   refine al (m1:=.mk) (m2:=.mk) [.nf [0,15,16,17] []] (mw a b ((b.length:Nat):Int)) l5 ?_ ?_
   ·simp(config:=cS)only[go_sem,eZt h2,eZt h4]
   ·intro nb6 v17_1 bb6 b6 gb6
    unfold cI at b6
    try dsimp only at b6
    obtain ⟨h7,b6⟩|⟨h7,b6⟩:=af b6
    ·obtain ⟨x03,g8,b6⟩:=ab b6
     obtain ⟨h9,h10,h11⟩:=aj g8
     obtain ⟨r04,g12,b6⟩:=ab b6
     simp(config:=cS)only[go_sem,eZt h2,eZt h4,eqT h7,h9,h10,h11]
     refine ag (jT g12) ?_
     obtain ⟨h13,b6⟩|⟨h13,b6⟩:=af b6
     ·cases b6
      simp(config:=cS)only[go_sem,eZt h2,eZt h4,eqT h7,h9,h10,h11,eZt h13]
      refine aq gb6 ?_
      simp(config:=cS)only[go_sem,eZt h2,eZt h4,eqT h7,h9,h10,h11,eZt h13]
     ·cases b6
      obtain rfl:=(ak gb6).symm
      try dsimp only at h
      cases h
      simp(config:=cS)only[go_sem,eZt h2,eZt h4,eqT h7,h9,h10,h11,eZf h13]
    ·cases b6
     obtain rfl:=(ak gb6).symm
     try dsimp only at h
     cases h
     simp(config:=cS)only[go_sem,eZt h2,eZt h4,eqF h7]
  ·cases h
   simp(config:=cS)only[go_sem,eZt h2,eZf h4]
 ·cases h
  simp(config:=cS)only[go_sem,eZf h2]
def px (a:List GNode)(b:Int)(c:List GTie)(d e:Int):St:=⟨[(1,.ptr 64 1 0 0),(33,.sl (ae GNode.encS a)),(34,.lit (.int .i64 b)),(35,.lit (.int .i64 e))],[(64,1,.var [.sl (ae GNode.encS a),.sl (ae GTie.enc c),.lit (.int .i64 d)])],2⟩
attribute [go_sem] px
def pz (a:List GNode)(c d:Int)(b:List Int)(e:Int)(f:List GTie)(g:Int)(h:ByteArray)(i j:Int):St:=⟨[(1,.ptr 64 1 0 0),(6,.ptr 384 1 0 0),(66,.sl (ae GNode.encS a)),(67,.lit (.int .i64 c)),(68,.lit (.int .i64 d)),(73,.sl (ae eI b)),(74,.lit (.int .i64 e)),(75,.lit (.int .i64 j))],[(64,1,.var [.sl (ae GNode.encS a),.sl (ae GTie.enc f),.lit (.int .i64 g)]),(384,1,.var [.lit (.string h),.sl (ae eI b),.lit (.int .i64 i)])],2⟩
attribute [go_sem] pz
def pA (a:List GNode)(b:Int)(c:List GTie)(d e:Int):St:=⟨[(1,.ptr 64 1 0 0),(66,.sl (ae GNode.encS a)),(67,.lit (.int .i64 b)),(68,.lit (.int .i64 e))],[(64,1,.var [.sl (ae GNode.encS a),.sl (ae GTie.enc c),.lit (.int .i64 d)])],2⟩
attribute [go_sem] pA
@[go_sem] def hi213_16:DT:=.i2 0 (.i2 1 (.i2 2 (.i2 3 (.i2 4 (.i2 5 (.i2 6 (.i2 7 (.i2 8 (.i2 9 (.i2 10 (.i2 11 (.i2 12 (.i2 13 (.i2 14 (.i2 15 (.i2 16 (.i2 17 (.i2 18 (.i2 19 (.i2 20 (.i2 21 (.i2 22 (.i2 23 (.i2 24 (.i2 25 (.i2 26 (.i2 27 (.i2 28 (.i2 29 (.i2 30 (.i2 31 (.i2 32 (.i2 33 (.i2 34 .nil))))))))))))))))))))))))))))))))))
@[go_sem] def hi213_15:DT:=.i1 0 (.i2 1 (.i0 2 [0] (.i2 3 (.i2 4 .nil))))
def AN:Hint where
 acts:=fun _=>[]
 draws:=fun
  | 15=>⟨hi213_15,[[],[],[1],[0,1,2],[0,1,2,3]],.range 5⟩
  | 16=>⟨hi213_16,[[],[0],[0,1],[0,1,2],[0,1,2,3],[0,1,2],.range 6,.range 7,.range 8,[0,1,2],.range 10,.range 11,.range 12,.range 13,.range 14,.range 13,.range 16,.range 17,.range 18,.range 13,[0,1,2,3,4,5,6,7,8,9,10,11,12,19],.range 21,.range 22,.range 23,.range 24,.range 25,.range 24,[0,1,2,3,4,5,6,7,8,9,10,11,12,13,14,15,16,17,18,19,20,21,22,23,26],.range 24,[0,1,2,3,4,5,6,7,8,9,10,11,12,13,14,15,16,17,18,19,20,21,22,23,26,27,28],[0,1,2,3,4,5,6,7,8,9,10,11,12,13,14,15,16,17,18,19,20,21,22,23,26,27,28,29],[0,1,2,3,4,5,6,7,8,9,10,11,12,13,14,15,16,17,18,19,20,21,22,23,26,27,28,29,30],.range 32,.range 33,.range 34],.range 35⟩
  | _=>⟨.nil,[],[]⟩
theorem Nx (i:Nat):AN.acts i=[]:=rfl
theorem Ny (i:Nat):AN.views i=none:=rfl
attribute [go_sem] Nx Ny Tryz.ntmps213 Tryz.results213
@[go_sem] theorem Re:(AN.draws 15).order=hi213_15:=rfl
@[go_sem] theorem Rf:(AN.draws 16).order=hi213_16:=rfl
theorem AO {s:GShow}{res:Bool}(h:kj s=some res):am Tryz.prog 213 [.agg (GShow.encS s)] [] (.lit (.bool res)) []:=by
 refine ai (ra:=[]) (md:=mdT) hT (hi:=AN) Tryz.func213 rfl rfl (by decide +kernel) (by simp) ?_
 unfold kj at h
 obtain ⟨r01,g1,h⟩:=ab h
 simp(config:=cS)only[go_sem]
 refine ag (cn g1) ?_
 obtain ⟨h2,h⟩|⟨h2,h⟩:=af h
 ·obtain ⟨x02,g3,h⟩:=ab h
  obtain ⟨h5,h6⟩:=cK (k:=0) g3
  obtain ⟨h7,h⟩|⟨h7,h⟩:=af h
  ·cases h
   simp(config:=cS)only[go_sem,eZt h2,h5,h6,eqT h7]
  ·obtain ⟨h8,h⟩|⟨h8,h⟩:=af h
   ·obtain ⟨q17,l9,h⟩:=ab h
    simp(config:=cS)only[go_sem,eZt h2,h5,h6,eqF h7,eqT h8]
    refine al (m1:=.mk) (m2:=.mk) [.nf [1,33,34,35] [64]] (px s.nodes ((s.nodes.length:Nat):Int) s.ties s.horizon) l9 ?_ ?_
    ·simp(config:=cS)only[go_sem,eZt h2,h5,h6,eqF h7,eqT h8]
    ·intro nb10 v35_1 bb10 b10 gb10
     unfold ez at b10
     try dsimp only at b10
     obtain ⟨h11,b10⟩|⟨h11,b10⟩:=af b10
     ·obtain ⟨x03,g12,b10⟩:=ab b10
      obtain ⟨h13,h14,h15⟩:=aj g12
      obtain ⟨r04,g16,b10⟩:=ab b10
      simp(config:=cS)only[go_sem,eZt h2,h5,h6,eqF h7,eqT h8,eqT h11,h13,h14,h15]
      refine ag (Dy g16) ?_
      obtain ⟨h17,b10⟩|⟨h17,b10⟩:=af b10
      ·obtain ⟨r05,g18,b10⟩:=ab b10
       simp(config:=cS)only[go_sem,eZt h2,h5,h6,eqF h7,eqT h8,eqT h11,h13,h14,h15,eZt h17]
       refine ag (zy g18) ?_
       obtain ⟨h19,b10⟩|⟨h19,b10⟩:=af b10
       ·obtain ⟨h20,b10⟩|⟨h20,b10⟩:=af b10
        ·cases b10
         simp(config:=cS)only[go_sem,eZt h2,h5,h6,eqF h7,eqT h8,eqT h11,h13,h14,h15,eZt h17,eqT h19,eqT h20]
         refine aq gb10 ?_
         simp(config:=cS)only[go_sem,eZt h2,h5,h6,eqF h7,eqT h8,eqT h11,h13,h14,h15,eZt h17,eqT h19,eqT h20]
        ·obtain ⟨r06,g21,b10⟩:=ab b10
         simp(config:=cS)only[go_sem,eZt h2,h5,h6,eqF h7,eqT h8,eqT h11,h13,h14,h15,eZt h17,eqT h19,eqF h20]
         refine ag (kW g21) ?_
         obtain ⟨h22,b10⟩|⟨h22,b10⟩:=af b10
         ·cases b10
          simp(config:=cS)only[go_sem,eZt h2,h5,h6,eqF h7,eqT h8,eqT h11,h13,h14,h15,eZt h17,eqT h19,eqF h20,eqT h22]
          refine aq gb10 ?_
          simp(config:=cS)only[go_sem,eZt h2,h5,h6,eqF h7,eqT h8,eqT h11,h13,h14,h15,eZt h17,eqT h19,eqF h20,eqT h22]
         ·cases b10
          obtain rfl:=(ak gb10).symm
          try dsimp only at h
          cases h
          simp(config:=cS)only[go_sem,eZt h2,h5,h6,eqF h7,eqT h8,eqT h11,h13,h14,h15,eZt h17,eqT h19,eqF h20,eqF h22]
       ·cases b10
        obtain rfl:=(ak gb10).symm
        try dsimp only at h
        cases h
        simp(config:=cS)only[go_sem,eZt h2,h5,h6,eqF h7,eqT h8,eqT h11,h13,h14,h15,eZt h17,eqF h19]
      ·cases b10
       obtain rfl:=(ak gb10).symm
       try dsimp only at h
       cases h
       simp(config:=cS)only[go_sem,eZt h2,h5,h6,eqF h7,eqT h8,eqT h11,h13,h14,h15,eZf h17]
     ·cases b10
      obtain rfl:=(ak gb10).symm
      try dsimp only at h
      obtain ⟨q16,l27,h⟩:=ab h
      simp(config:=cS)only[go_sem,eZt h2,h5,h6,eqF h7,eqT h8,eqF h11]
      refine al (m1:=.mk) (m2:=.mk) [.nf [1,66,67,68] [64]] (pA s.nodes ((s.nodes.length:Nat):Int) s.ties s.horizon) l27 ?_ ?_
      ·simp(config:=cS)only[go_sem,eZt h2,h5,h6,eqF h7,eqT h8,eqF h11]
      ·intro nb28 v68_2 bb28 b28 gb28
       unfold eC at b28
       try dsimp only at b28
       obtain ⟨h29,b28⟩|⟨h29,b28⟩:=af b28
       ·obtain ⟨x07,g30,b28⟩:=ab b28
        obtain ⟨h31,h32,h33⟩:=aj g30
        obtain ⟨q15,l34,b28⟩:=ab b28
        simp(config:=cS)only[go_sem,eZt h2,h5,h6,eqF h7,eqT h8,eqF h11,eqT h29,h31,h32,h33]
        refine al (m1:=.mk) (m2:=.mk) [.nf [1,6,66,67,68,73,74,75] [64,384]] (pz s.nodes ((s.nodes.length:Nat):Int) v68_2 x07.label ((x07.label.length:Nat):Int) s.ties s.horizon x07.name x07.watch) l34 ?_ ?_
        ·simp(config:=cS)only[go_sem,eZt h2,h5,h6,eqF h7,eqT h8,eqF h11,eqT h29,h31,h32,h33]
        ·intro nb35 v75_3 bb35 b35 gb35
         unfold eA at b35
         try dsimp only at b35
         obtain ⟨h36,b35⟩|⟨h36,b35⟩:=af b35
         ·obtain ⟨x08,g37,b35⟩:=ab b35
          obtain ⟨h38,h39,h40⟩:=aj g37
          obtain ⟨r09,g41,b35⟩:=ab b35
          simp(config:=cS)only[go_sem,eZt h2,h5,h6,eqF h7,eqT h8,eqF h11,eqT h29,h31,h32,h33,eqT h36,h38,h39,h40]
          refine ag (nj g41) ?_
          obtain ⟨r10,g42,b35⟩:=ab b35
          simp(config:=cS)only[go_sem,eZt h2,h5,h6,eqF h7,eqT h8,eqF h11,eqT h29,h31,h32,h33,eqT h36,h38,h39,h40]
          refine ag (kW g42) ?_
          obtain ⟨h43,b35⟩|⟨h43,b35⟩:=af b35
          ·cases b35
           obtain rfl:=(ak gb35).symm
           try dsimp only at b28
           cases b28
           obtain rfl:=(ak gb28).symm
           try dsimp only at h
           cases h
           simp(config:=cS)only[go_sem,eZt h2,h5,h6,eqF h7,eqT h8,eqF h11,eqT h29,h31,h32,h33,eqT h36,h38,h39,h40,eqT h43]
          ·obtain ⟨x11,g46,b35⟩:=ab b35
           obtain ⟨h47,h48,h49⟩:=aj g46
           obtain ⟨r12,g50,b35⟩:=ab b35
           simp(config:=cS)only[go_sem,eZt h2,h5,h6,eqF h7,eqT h8,eqF h11,eqT h29,h31,h32,h33,eqT h36,h38,h39,h40,eqF h43,h47,h48,h49]
           refine ag (jT g50) ?_
           obtain ⟨h51,b35⟩|⟨h51,b35⟩:=af b35
           ·cases b35
            obtain rfl:=(ak gb35).symm
            try dsimp only at b28
            cases b28
            obtain rfl:=(ak gb28).symm
            try dsimp only at h
            cases h
            simp(config:=cS)only[go_sem,eZt h2,h5,h6,eqF h7,eqT h8,eqF h11,eqT h29,h31,h32,h33,eqT h36,h38,h39,h40,eqF h43,h47,h48,h49,eZt h51]
           ·obtain ⟨r13,g54,b35⟩:=ab b35
            simp(config:=cS)only[go_sem,eZt h2,h5,h6,eqF h7,eqT h8,eqF h11,eqT h29,h31,h32,h33,eqT h36,h38,h39,h40,eqF h43,h47,h48,h49,eZf h51]
            refine ag (jT g54) ?_
            obtain ⟨h55,b35⟩|⟨h55,b35⟩:=af b35
            ·cases b35
             obtain rfl:=(ak gb35).symm
             try dsimp only at b28
             cases b28
             obtain rfl:=(ak gb28).symm
             try dsimp only at h
             cases h
             simp(config:=cS)only[go_sem,eZt h2,h5,h6,eqF h7,eqT h8,eqF h11,eqT h29,h31,h32,h33,eqT h36,h38,h39,h40,eqF h43,h47,h48,h49,eZf h51,eZt h55]
            ·obtain ⟨r14,g58,b35⟩:=ab b35
             simp(config:=cS)only[go_sem,eZt h2,h5,h6,eqF h7,eqT h8,eqF h11,eqT h29,h31,h32,h33,eqT h36,h38,h39,h40,eqF h43,h47,h48,h49,eZf h51,eZf h55]
             refine ag (xi g58) ?_
             obtain ⟨h59,b35⟩|⟨h59,b35⟩:=af b35
             ·cases b35
              simp(config:=cS)only[go_sem,eZt h2,h5,h6,eqF h7,eqT h8,eqF h11,eqT h29,h31,h32,h33,eqT h36,h38,h39,h40,eqF h43,h47,h48,h49,eZf h51,eZf h55,eZt h59]
              refine aq gb35 ?_
              simp(config:=cS)only[go_sem,eZt h2,h5,h6,eqF h7,eqT h8,eqF h11,eqT h29,h31,h32,h33,eqT h36,h38,h39,h40,eqF h43,h47,h48,h49,eZf h51,eZf h55,eZt h59]
             ·cases b35
              obtain rfl:=(ak gb35).symm
              try dsimp only at b28
              cases b28
              obtain rfl:=(ak gb28).symm
              try dsimp only at h
              cases h
              simp(config:=cS)only[go_sem,eZt h2,h5,h6,eqF h7,eqT h8,eqF h11,eqT h29,h31,h32,h33,eqT h36,h38,h39,h40,eqF h43,h47,h48,h49,eZf h51,eZf h55,eZf h59]
         ·cases b35
          obtain rfl:=(ak gb35).symm
          try dsimp only at b28
          cases b28
          simp(config:=cS)only[go_sem,eZt h2,h5,h6,eqF h7,eqT h8,eqF h11,eqT h29,h31,h32,h33,eqF h36]
          refine aq gb28 ?_
          simp(config:=cS)only[go_sem,eZt h2,h5,h6,eqF h7,eqT h8,eqF h11,eqT h29,h31,h32,h33,eqF h36]
       ·cases b28
        obtain rfl:=(ak gb28).symm
        try dsimp only at h
        cases h
        simp(config:=cS)only[go_sem,eZt h2,h5,h6,eqF h7,eqT h8,eqF h11,eqF h29]
   ·cases h
    simp(config:=cS)only[go_sem,eZt h2,h5,h6,eqF h7,eqF h8]
 ·cases h
  simp(config:=cS)only[go_sem,eZf h2]
def qn (b a:List Int)(c d:Int):St:=⟨[(1,.sl (ae eI b)),(12,.sl (ae eI a)),(13,.lit (.int .i64 c)),(14,.lit (.int .i64 d))],[],2⟩
attribute [go_sem] qn
attribute [go_sem] Tryz.ntmps233 Tryz.results233
theorem nm {a b:List Int}{res:Bool}(h:eD a b=some res):am Tryz.prog 233 [.sl (ae eI a),.sl (ae eI b)] [] (.lit (.bool res)) []:=by
 refine ai (ra:=[]) (md:=mdT) hT (hi:=hi00) Tryz.func233 rfl rfl (by decide +kernel) (by simp) ?_
 unfold eD at h
 obtain ⟨h1,h⟩|⟨h1,h⟩:=af h
 ·obtain ⟨q03,l2,h⟩:=ab h
  simp(config:=cS)only[go_sem,eqT h1]
  refine al (m1:=.mk) (m2:=.mk) [.nf [1,12,13,14] []] (qn b a ((a.length:Nat):Int)) l2 ?_ ?_
  ·simp(config:=cS)only[go_sem]
  ·intro nb3 v14_1 bb3 b3 gb3
   unfold fA at b3
   try dsimp only at b3
   obtain ⟨h4,b3⟩|⟨h4,b3⟩:=af b3
   ·obtain ⟨x01,g5,b3⟩:=ab b3
    obtain ⟨h6,h7,h8⟩:=aj g5
    obtain ⟨x02,g9,b3⟩:=ab b3
    obtain ⟨h10,h11,h12⟩:=aj g9
    obtain ⟨h13,b3⟩|⟨h13,b3⟩:=af b3
    ·cases b3
     simp(config:=cS)only[go_sem,eqT h4,h6,h7,h8,h10,h11,h12,eqT h13]
     refine aq gb3 ?_
     simp(config:=cS)only[go_sem]
    ·cases b3
     obtain rfl:=(ak gb3).symm
     try dsimp only at h
     cases h
     simp(config:=cS)only[go_sem,eqT h4,h6,h7,h8,h10,h11,h12,eqF h13]
   ·cases b3
    obtain rfl:=(ak gb3).symm
    try dsimp only at h
    cases h
    simp(config:=cS)only[go_sem,eqF h4]
 ·cases h
  simp(config:=cS)only[go_sem,eqF h1]
def qo (a:Int)(c:List GTie)(d b:Int):St:=⟨[(1,.lit (.int .i64 a)),(8,.sl (ae GTie.enc c)),(9,.lit (.int .i64 d)),(10,.lit (.int .i64 b))],[],2⟩
attribute [go_sem] qo
attribute [go_sem] Tryz.ntmps247 Tryz.results247
theorem vR {s:GShow}{node res:Int}(h:jm s node=some res):am Tryz.prog 247 [.agg (GShow.encS s),.lit (.int .i64 node)] [] (.lit (.int .i64 res)) []:=by
 refine ai (ra:=[]) (md:=mdT) hT (hi:=hi00) Tryz.func247 rfl rfl (by decide +kernel) (by simp) ?_
 unfold jm at h
 obtain ⟨q02,l1,h⟩:=ab h
 simp(config:=cS)only[go_sem]
 refine al (m1:=.mk) (m2:=.mk) [.nf [1,8,9,10] []] (qo node s.ties ((s.ties.length:Nat):Int)) l1 ?_ ?_
 ·simp(config:=cS)only[go_sem]
 ·intro nb2 v10_1 bb2 b2 gb2
  unfold fB at b2
  try dsimp only at b2
  obtain ⟨h3,b2⟩|⟨h3,b2⟩:=af b2
  ·obtain ⟨x01,g4,b2⟩:=ab b2
   obtain ⟨h5,h6,h7⟩:=aj g4
   obtain ⟨h8,b2⟩|⟨h8,b2⟩:=af b2
   ·obtain ⟨h9,b2⟩|⟨h9,b2⟩:=af b2
    ·cases b2
     obtain rfl:=(ak gb2).symm
     try dsimp only at h
     cases h
     simp(config:=cS)only[go_sem,eqT h3,h5,h6,h7,eZt h8,eqT h9]
    ·cases b2
     simp(config:=cS)only[go_sem,eqT h3,h5,h6,h7,eZt h8,eqF h9]
     refine aq gb2 ?_
     simp(config:=cS)only[go_sem]
   ·cases b2
    simp(config:=cS)only[go_sem,eqT h3,h5,h6,h7,eZf h8]
    refine aq gb2 ?_
    simp(config:=cS)only[go_sem]
  ·cases b2
   obtain rfl:=(ak gb2).symm
   try dsimp only at h
   cases h
   simp(config:=cS)only[go_sem,eqF h3]
@[go_sem] def hi214_5:DT:=.i2 0 (.i2 1 (.i2 2 (.i2 3 (.i2 4 (.i2 5 (.i2 6 (.i2 7 (.i2 8 (.i2 9 (.i2 10 (.i2 11 (.i2 12 (.i2 13 (.i2 14 (.i2 15 (.i2 16 (.i2 17 (.i2 18 (.i2 19 (.i2 20 (.i2 21 (.i2 22 (.i2 23 (.i2 24 (.i2 25 (.i2 26 (.i2 27 (.i2 28 (.i2 29 (.i2 30 (.i2 31 (.i2 32 (.i2 33 (.i2 34 (.i2 35 (.i2 36 (.i2 37 (.i2 38 (.i2 39 (.i2 40 (.i2 41 (.i2 42 (.i2 44 (.i2 43 (.i2 45 (.i2 46 (.i2 47 (.i2 48 .nil))))))))))))))))))))))))))))))))))))))))))))))))
def Ei:Hint where
 acts:=fun _=>[]
 draws:=fun
  | 5=>⟨hi214_5,[[],[0],[0,1],[0,1,2],[0,1,2,3],.range 5,.range 6,.range 7,.range 8,.range 9,.range 10,.range 11,.range 12,.range 13,.range 14,.range 13,[0,1,2,3,4,5,6,7,8,9,10,11,12,15],.range 17,.range 18,.range 19,.range 20,.range 21,.range 22,.range 23,.range 24,.range 23,[0,1,2,3,4,5,6,7,8,9,10,11,12,13,14,15,16,17,18,19,20,21,22,25],.range 27,.range 28,.range 29,.range 23,[0,1,2,3,4,5,6,7,8,9,10,11,12,13,14,15,16,17,18,19,20,21,22,30],.range 23,[0,1,2,3,4,5,6,7,8,9,10,11,12,13,14,15,16,17,18,19,20,21,22,32],[0,1,2,3,4,5,6,7,8,9,10,11,12,13,14,15,16,17,18,19,20,21,22,30,31,32,33],[0,1,2,3,4,5,6,7,8,9,10,11,12,13,14,15,16,17,18,19,20,21,22,30,31,32,33,34],[0,1,2,3,4,5,6,7,8,9,10,11,12,13,14,15,16,17,18,19,20,21,22,30,31,32,33,34,35],.range 37,.range 38,.range 39,.range 40,.range 40,[0,1,2,3,4,5,6,7,8,9,10,11,12,13,14,15,16,17,18,19,20,21,22,23,24,25,26,27,28,29,30,31,32,33,34,35,36,37,38,39,41],.range 43,.range 40,.range 45,.range 46,.range 47,.range 48],.range 49⟩
  | _=>⟨.nil,[],[]⟩
theorem Nz (i:Nat):Ei.acts i=[]:=rfl
theorem NA (i:Nat):Ei.views i=none:=rfl
attribute [go_sem] Nz NA Tryz.ntmps214 Tryz.results214
@[go_sem] theorem Rv:(Ei.draws 5).order=hi214_5:=rfl
theorem Dz {s:GShow}{i:Int}{res:Bool}(h:mf s i=some res):am Tryz.prog 214 [.agg (GShow.encS s),.lit (.int .i64 i)] [] (.lit (.bool res)) []:=by
 refine ai (ra:=[]) (md:=mdT) hT (hi:=Ei) Tryz.func214 rfl rfl (by decide +kernel) (by simp) ?_
 unfold mf at h
 obtain ⟨x01,g1,h⟩:=ab h
 obtain ⟨h2,h3,h4⟩:=aj g1
 obtain ⟨r02,g5,h⟩:=ab h
 simp(config:=cS)only[go_sem,h2,h3,h4]
 refine ag (cn g5) ?_
 obtain ⟨h6,h⟩|⟨h6,h⟩:=af h
 ·obtain ⟨r03,g7,h⟩:=ab h
  simp(config:=cS)only[go_sem,h2,h3,h4,eZt h6]
  refine ag (cn g7) ?_
  obtain ⟨h8,h⟩|⟨h8,h⟩:=af h
  ·obtain ⟨h9,h⟩|⟨h9,h⟩:=af h
   ·cases h
    simp(config:=cS)only[go_sem,h2,h3,h4,eZt h6,eZt h8,eqT h9]
   ·obtain ⟨h10,h⟩|⟨h10,h⟩:=af h
    ·cases h
     simp(config:=cS)only[go_sem,h2,h3,h4,eZt h6,eZt h8,eqF h9,eqT h10]
    ·obtain ⟨h11,h⟩|⟨h11,h⟩:=af h
     ·cases h
      simp(config:=cS)only[go_sem,h2,h3,h4,eZt h6,eZt h8,eqF h9,eqF h10,eqT h11]
     ·obtain ⟨h12,h⟩|⟨h12,h⟩:=af h
      ·cases h
       simp(config:=cS)only[go_sem,h2,h3,h4,eZt h6,eZt h8,eqF h9,eqF h10,eqF h11,eqT h12]
      ·obtain ⟨h13,h⟩|⟨h13,h⟩:=af h
       ·obtain ⟨h14,h⟩|⟨h14,h⟩:=af h
        ·obtain ⟨h15,h⟩|⟨h15,h⟩:=af h
         ·cases h
          simp(config:=cS)only[go_sem,h2,h3,h4,eZt h6,eZt h8,eqF h9,eqF h10,eqF h11,eqF h12,eZt h13,eqT h14,eqT h15]
         ·obtain ⟨x04,g16,h⟩:=ab h
          obtain ⟨h17,h18,h19⟩:=aj g16
          obtain ⟨h20,h⟩|⟨h20,h⟩:=af h
          ·obtain ⟨x05,g21,h⟩:=ab h
           obtain ⟨h22,h23,h24⟩:=aj g21
           obtain ⟨r06,g25,h⟩:=ab h
           simp(config:=cS)only[go_sem,h2,h3,h4,eZt h6,eZt h8,eqF h9,eqF h10,eqF h11,eqF h12,eZt h13,eqT h14,eqF h15,h17,h18,h19,eqT h20,h22,h23,h24]
           refine ag (nm g25) ?_
           obtain ⟨h26,h⟩|⟨h26,h⟩:=af h
           ·obtain ⟨r07,g27,h⟩:=ab h
            simp(config:=cS)only[go_sem,h2,h3,h4,eZt h6,eZt h8,eqF h9,eqF h10,eqF h11,eqF h12,eZt h13,eqT h14,eqF h15,h17,h18,h19,eqT h20,h22,h23,h24,eZt h26]
            refine ag (vR g27) ?_
            cases h
            simp(config:=cS)only[go_sem,h2,h3,h4,eZt h6,eZt h8,eqF h9,eqF h10,eqF h11,eqF h12,eZt h13,eqT h14,eqF h15,h17,h18,h19,eqT h20,h22,h23,h24,eZt h26]
           ·cases h
            simp(config:=cS)only[go_sem,h2,h3,h4,eZt h6,eZt h8,eqF h9,eqF h10,eqF h11,eqF h12,eZt h13,eqT h14,eqF h15,h17,h18,h19,eqT h20,h22,h23,h24,eZf h26]
          ·cases h
           simp(config:=cS)only[go_sem,h2,h3,h4,eZt h6,eZt h8,eqF h9,eqF h10,eqF h11,eqF h12,eZt h13,eqT h14,eqF h15,h17,h18,h19,eqF h20]
        ·cases h
         simp(config:=cS)only[go_sem,h2,h3,h4,eZt h6,eZt h8,eqF h9,eqF h10,eqF h11,eqF h12,eZt h13,eqF h14]
       ·cases h
        simp(config:=cS)only[go_sem,h2,h3,h4,eZt h6,eZt h8,eqF h9,eqF h10,eqF h11,eqF h12,eZf h13]
  ·cases h
   simp(config:=cS)only[go_sem,h2,h3,h4,eZt h6,eZf h8]
 ·cases h
  simp(config:=cS)only[go_sem,h2,h3,h4,eZf h6]
def rl (a:Int)(b:List GNode)(c:List GTie)(d e:Int):St:=⟨[(1,.ptr 64 1 0 0),(21,.lit (.int .i64 a)),(22,.lit (.int .i64 e))],[(64,1,.var [.sl (ae GNode.encS b),.sl (ae GTie.enc c),.lit (.int .i64 d)])],2⟩
attribute [go_sem] rl
attribute [go_sem] Tryz.ntmps137 Tryz.results137
theorem lY {s:GShow}{res:Bool}(h:eg s=some res):am Tryz.prog 137 [.agg (GShow.encS s)] [] (.lit (.bool res)) []:=by
 refine ai (ra:=[]) (md:=mdT) hT (hi:=hi00) Tryz.func137 rfl rfl (by decide +kernel) (by simp) ?_
 unfold eg at h
 obtain ⟨r01,g1,h⟩:=ab h
 simp(config:=cS)only[go_sem]
 refine ag (AO g1) ?_
 obtain ⟨h2,h⟩|⟨h2,h⟩:=af h
 ·obtain ⟨h3,h⟩|⟨h3,h⟩:=af h
  ·cases h
   simp(config:=cS)only[go_sem,eZt h2,eqT h3]
  ·obtain ⟨r02,g4,h⟩:=ab h
   simp(config:=cS)only[go_sem,eZt h2,eqF h3]
   refine ag (cn g4) ?_
   obtain ⟨h5,h⟩|⟨h5,h⟩:=af h
   ·obtain ⟨q04,l6,h⟩:=ab h
    simp(config:=cS)only[go_sem,eZt h5]
    refine al (m1:=.mk) (m2:=.mk) [.nf [1,21,22] [64]] (rl ((s.ties.length:Nat):Int) s.nodes s.ties s.horizon) l6 ?_ ?_
    ·simp(config:=cS)only[go_sem]
    ·intro nb7 v22_1 bb7 b7 gb7
     unfold gF at b7
     try dsimp only at b7
     obtain ⟨h8,b7⟩|⟨h8,b7⟩:=af b7
     ·obtain ⟨r03,g9,b7⟩:=ab b7
      simp(config:=cS)only[go_sem,eqT h8]
      refine ag (Dz g9) ?_
      obtain ⟨h10,b7⟩|⟨h10,b7⟩:=af b7
      ·cases b7
       simp(config:=cS)only[go_sem,eZt h10]
       refine aq gb7 ?_
       simp(config:=cS)only[go_sem]
      ·cases b7
       obtain rfl:=(ak gb7).symm
       try dsimp only at h
       cases h
       simp(config:=cS)only[go_sem,eZf h10]
     ·cases b7
      obtain rfl:=(ak gb7).symm
      try dsimp only at h
      cases h
      simp(config:=cS)only[go_sem,eqF h8]
   ·cases h
    simp(config:=cS)only[go_sem,eZf h5]
 ·cases h
  simp(config:=cS)only[go_sem,eZf h2]
def pB (v:List Int)(a b:Int):St:=⟨[(0,.sl (ae eI v)),(5,.sl (ae eI v)),(6,.lit (.int .i64 a)),(7,.lit (.int .i64 b))],[],2⟩
attribute [go_sem] pB
attribute [go_sem] Tryz.ntmps229 Tryz.results229
theorem AP {v:List Int}{res:Bool}(h:kw v=some res):am Tryz.prog 229 [.sl (ae eI v)] [] (.lit (.bool res)) []:=by
 refine ai (ra:=[]) (md:=mdT) hT (hi:=hi00) Tryz.func229 rfl rfl (by decide +kernel) (by simp) ?_
 unfold kw at h
 obtain ⟨q03,l1,h⟩:=ab h
 simp(config:=cS)only[go_sem]
 refine al (m1:=.mk) (m2:=.mk) [.nf [0,5,6,7] []] (pB v ((v.length:Nat):Int)) l1 ?_ ?_
 ·simp(config:=cS)only[go_sem]
 ·intro nb2 v7_1 bb2 b2 gb2
  unfold eL at b2
  try dsimp only at b2
  obtain ⟨h3,b2⟩|⟨h3,b2⟩:=af b2
  ·obtain ⟨x01,g4,b2⟩:=ab b2
   obtain ⟨h5,h6,h7⟩:=aj g4
   obtain ⟨r02,g8,b2⟩:=ab b2
   simp(config:=cS)only[go_sem,eqT h3,h5,h6,h7]
   refine ag (cn g8) ?_
   obtain ⟨h9,b2⟩|⟨h9,b2⟩:=af b2
   ·cases b2
    simp(config:=cS)only[go_sem,eZt h9]
    refine aq gb2 ?_
    simp(config:=cS)only[go_sem]
   ·cases b2
    obtain rfl:=(ak gb2).symm
    try dsimp only at h
    cases h
    simp(config:=cS)only[go_sem,eZf h9]
  ·cases b2
   obtain rfl:=(ak gb2).symm
   try dsimp only at h
   cases h
   simp(config:=cS)only[go_sem,eqF h3]
def qp (a:List Int)(d:Int)(e:List GNode)(f:List GTie)(g b:Int)(c:List Int)(h:Int):St:=⟨[(2,.ptr 128 1 0 0),(3,.ptr 192 1 0 0),(44,.sl (ae eI a)),(45,.lit (.int .i64 d)),(46,.lit (.int .i64 h))],[(128,1,.var [.sl (ae GNode.encS e),.sl (ae GTie.enc f),.lit (.int .i64 g)]),(192,1,.var [.lit (.int .i64 b),.sl (ae eI a),.sl (ae eI c)])],2⟩
attribute [go_sem] qp
def qq (d:List GNode)(e:List GTie)(f a:Int)(b c:List Int)(p:Int):St:=⟨[(2,.ptr 128 1 0 0),(3,.ptr 192 1 0 0),(7,.lit (.int .i64 p))],[(128,1,.var [.sl (ae GNode.encS d),.sl (ae GTie.enc e),.lit (.int .i64 f)]),(192,1,.var [.lit (.int .i64 a),.sl (ae eI b),.sl (ae eI c)])],2⟩
attribute [go_sem] qq
@[go_sem] def hi177_13:DT:=.i2 0 (.i2 1 (.i2 2 (.i2 3 (.i2 4 (.i2 5 (.i2 6 (.i2 7 (.i2 8 (.i2 9 (.i2 10 (.i2 11 (.i2 12 (.i2 13 (.i2 14 (.i2 15 (.i2 16 (.i2 17 .nil)))))))))))))))))
def Ej:Hint where
 acts:=fun _=>[]
 draws:=fun
  | 13=>⟨hi177_13,[[],[0],[],[2],[0,1,2,3],.range 5,.range 6,[],[7],[7,8],[7,8,9],[7,8,9,10],[7,8,9],[7,8,9,10,11,12],[7,8,9,10,11,12,13],[7,8,9,10,11,12,13,14],[7,8,9,10,11,12,13,14,15],.range 17],.range 18⟩
  | _=>⟨.nil,[],[]⟩
theorem NB (i:Nat):Ej.acts i=[]:=rfl
theorem NC (i:Nat):Ej.views i=none:=rfl
attribute [go_sem] NB NC Tryz.ntmps177 Tryz.results177
@[go_sem] theorem Rg:(Ej.draws 13).order=hi177_13:=rfl
theorem rL {s:GShow}{v1:GState}{res:Bool}(h:eN s v1=some res):am Tryz.prog 177 [.agg (GShow.encS s),.agg (GState.encS v1)] [] (.lit (.bool res)) []:=by
 refine ai (ra:=[]) (md:=mdT) hT (hi:=Ej) Tryz.func177 rfl rfl (by decide +kernel) (by simp) ?_
 unfold eN at h
 obtain ⟨r01,g1,h⟩:=ab h
 simp(config:=cS)only[go_sem]
 refine ag (lY g1) ?_
 obtain ⟨h2,h⟩|⟨h2,h⟩:=af h
 ·obtain ⟨r02,g3,h⟩:=ab h
  simp(config:=cS)only[go_sem,eZt h2]
  refine ag (cn g3) ?_
  obtain ⟨h4,h⟩|⟨h4,h⟩:=af h
  ·obtain ⟨h5,h⟩|⟨h5,h⟩:=af h
   ·obtain ⟨x03,g6,h⟩:=ab h
    obtain ⟨h8,h9⟩:=cK (k:=0) g6
    obtain ⟨h10,h⟩|⟨h10,h⟩:=af h
    ·obtain ⟨r04,g11,h⟩:=ab h
     simp(config:=cS)only[go_sem,eZt h2,eZt h4,eqT h5,h8,h9,eqT h10]
     refine ag (AP g11) ?_
     obtain ⟨h12,h⟩|⟨h12,h⟩:=af h
     ·obtain ⟨q11,l13,h⟩:=ab h
      simp(config:=cS)only[go_sem,eZt h2,eZt h4,eqT h5,h8,h9,eqT h10,eZt h12]
      refine al (m1:=.mk) (m2:=.mk) [.nf [2,3,44,45,46] [128,192]] (qp v1.times ((v1.times.length:Nat):Int) s.nodes s.ties s.horizon v1.now v1.values) l13 ?_ ?_
      ·simp(config:=cS)only[go_sem,eZt h2,eZt h4,eqT h5,h8,h9,eqT h10,eZt h12]
      ·intro nb14 v46_1 bb14 b14 gb14
       unfold fJ at b14
       try dsimp only at b14
       obtain ⟨h15,b14⟩|⟨h15,b14⟩:=af b14
       ·obtain ⟨x05,g16,b14⟩:=ab b14
        obtain ⟨h17,h18,h19⟩:=aj g16
        obtain ⟨h20,b14⟩|⟨h20,b14⟩:=af b14
        ·obtain ⟨r06,g21,b14⟩:=ab b14
         simp(config:=cS)only[go_sem,eZt h2,eZt h4,eqT h5,h8,h9,eqT h10,eZt h12,eqT h15,h17,h18,h19,eqT h20]
         refine ag (cn g21) ?_
         obtain ⟨h22,b14⟩|⟨h22,b14⟩:=af b14
         ·cases b14
          simp(config:=cS)only[go_sem,eZt h2,eZt h4,eqT h5,h8,h9,eqT h10,eZt h12,eqT h15,h17,h18,h19,eqT h20,eZt h22]
          refine aq gb14 ?_
          simp(config:=cS)only[go_sem,eZt h2,eZt h4,eqT h5,h8,h9,eqT h10,eZt h12,eqT h15,h17,h18,h19,eqT h20,eZt h22]
         ·cases b14
          obtain rfl:=(ak gb14).symm
          try dsimp only at h
          cases h
          simp(config:=cS)only[go_sem,eZt h2,eZt h4,eqT h5,h8,h9,eqT h10,eZt h12,eqT h15,h17,h18,h19,eqT h20,eZf h22]
        ·cases b14
         simp(config:=cS)only[go_sem,eZt h2,eZt h4,eqT h5,h8,h9,eqT h10,eZt h12,eqT h15,h17,h18,h19,eqF h20]
         refine aq gb14 ?_
         simp(config:=cS)only[go_sem,eZt h2,eZt h4,eqT h5,h8,h9,eqT h10,eZt h12,eqT h15,h17,h18,h19,eqF h20]
       ·cases b14
        obtain rfl:=(ak gb14).symm
        try dsimp only at h
        obtain ⟨q10,l25,h⟩:=ab h
        simp(config:=cS)only[go_sem,eZt h2,eZt h4,eqT h5,h8,h9,eqT h10,eZt h12,eqF h15]
        refine al (m1:=.mk) (m2:=.mk) [.nf [2,3,7] [128,192]] (qq s.nodes s.ties s.horizon v1.now v1.times v1.values) l25 ?_ ?_
        ·simp(config:=cS)only[go_sem,eZt h2,eZt h4,eqT h5,h8,h9,eqT h10,eZt h12,eqF h15]
        ·intro nb26 p_2 bb26 b26 gb26
         unfold fK at b26
         try dsimp only at b26
         obtain ⟨h27,b26⟩|⟨h27,b26⟩:=af b26
         ·obtain ⟨r07,g28,b26⟩:=ab b26
          simp(config:=cS)only[go_sem,eZt h2,eZt h4,eqT h5,h8,h9,eqT h10,eZt h12,eqF h15,eqT h27]
          refine ag (kW g28) ?_
          obtain ⟨x08,g29,b26⟩:=ab b26
          obtain ⟨h30,h31,h32⟩:=aj g29
          obtain ⟨h33,b26⟩|⟨h33,b26⟩:=af b26
          ·obtain ⟨x09,g34,b26⟩:=ab b26
           obtain ⟨h35,h36,h37⟩:=aj g34
           obtain ⟨h38,b26⟩|⟨h38,b26⟩:=af b26
           ·cases b26
            simp(config:=cS)only[go_sem,eZt h2,eZt h4,eqT h5,h8,h9,eqT h10,eZt h12,eqF h15,eqT h27,h30,h31,h32,eqT h33,h35,h36,h37,eqT h38]
            refine aq gb26 ?_
            simp(config:=cS)only[go_sem,eZt h2,eZt h4,eqT h5,h8,h9,eqT h10,eZt h12,eqF h15,eqT h27,h30,h31,h32,eqT h33,h35,h36,h37,eqT h38]
           ·cases b26
            obtain rfl:=(ak gb26).symm
            try dsimp only at h
            cases h
            simp(config:=cS)only[go_sem,eZt h2,eZt h4,eqT h5,h8,h9,eqT h10,eZt h12,eqF h15,eqT h27,h30,h31,h32,eqT h33,h35,h36,h37,eqF h38]
          ·obtain ⟨h40,b26⟩|⟨h40,b26⟩:=af b26
           ·cases b26
            simp(config:=cS)only[go_sem,eZt h2,eZt h4,eqT h5,h8,h9,eqT h10,eZt h12,eqF h15,eqT h27,h30,h31,h32,eqF h33,eqT h40]
            refine aq gb26 ?_
            simp(config:=cS)only[go_sem,eZt h2,eZt h4,eqT h5,h8,h9,eqT h10,eZt h12,eqF h15,eqT h27,h30,h31,h32,eqF h33,eqT h40]
           ·cases b26
            obtain rfl:=(ak gb26).symm
            try dsimp only at h
            cases h
            simp(config:=cS)only[go_sem,eZt h2,eZt h4,eqT h5,h8,h9,eqT h10,eZt h12,eqF h15,eqT h27,h30,h31,h32,eqF h33,eqF h40]
         ·cases b26
          obtain rfl:=(ak gb26).symm
          try dsimp only at h
          cases h
          simp(config:=cS)only[go_sem,eZt h2,eZt h4,eqT h5,h8,h9,eqT h10,eZt h12,eqF h15,eqF h27]
     ·cases h
      simp(config:=cS)only[go_sem,eZt h2,eZt h4,eqT h5,h8,h9,eqT h10,eZf h12]
    ·cases h
     simp(config:=cS)only[go_sem,eZt h2,eZt h4,eqT h5,h8,h9,eqF h10]
   ·cases h
    simp(config:=cS)only[go_sem,eZt h2,eZt h4,eqF h5]
  ·cases h
   simp(config:=cS)only[go_sem,eZt h2,eZf h4]
 ·cases h
  simp(config:=cS)only[go_sem,eZf h2]
def nE (c:Int)(b:List Int):(Int × (List Int))→St
 | (d,a)=>⟨[(2,.ptr 128 1 0 0),(3,.ptr 192 1 0 0),(14,.lit (.int .i64 c)),(15,.lit (.int .i64 d))],[(128,1,.var [.lit (.int .i64 0),.lit (.slice none 0 0),.lit (.slice none 0 0)]),(192,1,.var [.lit (.int .i64 0),.ref 100012289 1 0 a.length,.ref 640 1 0 b.length]),(100012289,1,.row true (ae eI a)),(640,1,.row true (ae eI b))],2⟩
attribute [go_sem] nE
attribute [go_sem] Tryz.ntmps176 Tryz.results176
theorem th {s:GShow}{res:GState}(h:fI s=some res):am Tryz.prog 176 [.agg (GShow.encS s)] [] (.agg [.lit (.int .i64 res.now),.ref 20000 1 0 res.times.length,.ref 20001 1 0 res.values.length]) [(20000,1,.row true (ae eI res.times)),(20001,1,.row true (ae eI res.values))]:=by
 refine ai (ra:=[.homeCell 128 1,.homeCell 128 2]) (md:=mdT) hT (hi:=hi00) Tryz.func176 rfl rfl (by decide +kernel) (by simp) ?_
 unfold fI at h
 obtain ⟨r01,g1,h⟩:=ab h
 simp(config:=cS)only[go_sem]
 refine ag (lY g1) ?_
 obtain ⟨h2,h⟩|⟨h2,h⟩:=af h
 ·obtain ⟨q02,l3,h⟩:=ab h
  simp(config:=cS)only[go_sem,eZt h2]
  refine al (m1:=.mk) (m2:=.mk) [.homeCell 192 1,.nf [2,3,14,15] [128,192,100012289,640]] (nE ((s.nodes.length:Nat):Int) (List.replicate 3 0)) l3 ?_ ?_
  ·simp(config:=cS)only[go_sem]
  ·intro nb4 sb4 bb4 b4 gb4
   obtain ⟨v15_1,h100012289_1⟩:=sb4
   unfold dA at b4
   try dsimp only at b4
   obtain ⟨h5,b4⟩|⟨h5,b4⟩:=af b4
   ·obtain ⟨h6,b4⟩|⟨h6,b4⟩:=af b4
    ·obtain ⟨h7,b4⟩:=ah b4
     obtain ⟨h8,b4⟩:=ah b4
     cases b4
     simp(config:=cS)only[go_sem,eqT h5,eqT h6,eqT h7,eqT h8]
     refine aq gb4 ?_
     simp(config:=cS)only[go_sem]
    ·obtain ⟨h9,b4⟩:=ah b4
     obtain ⟨h10,b4⟩:=ah b4
     cases b4
     simp(config:=cS)only[go_sem,eqT h5,eqF h6,eqT h9,eqT h10]
     refine aq gb4 ?_
     simp(config:=cS)only[go_sem]
   ·cases b4
    obtain rfl:=(ak gb4).symm
    try dsimp only at h
    cases h
    simp(config:=cS)only[go_sem,eqF h5]
 ·cases h
  simp(config:=cS)only[go_sem,eZf h2]
def nY (e:List GTie)(f b:Int)(c d:List Int):(Int × (List Int))→St
 | (g,a)=>⟨[(3,.ptr 192 1 0 0),(5,.ref 512 1 0 a.length),(10,.sl (ae GTie.enc e)),(11,.lit (.int .i64 f)),(12,.lit (.int .i64 g))],[(192,1,.var [.lit (.int .i64 b),.sl (ae eI c),.sl (ae eI d)]),(512,1,.row true (ae eI a))],2⟩
attribute [go_sem] nY
attribute [go_sem] Tryz.ntmps201 Tryz.results201
theorem zA {s:GShow}{v1:GState}{res:List Int}(h:jE s v1=some res):am Tryz.prog 201 [.agg (GShow.encS s),.agg (GState.encS v1)] [] (.ref 20000 1 0 res.length) [(20000,1,.row true (ae eI res))]:=by
 refine ai (ra:=[.home 4]) (md:=mdT) hT (hi:=hi00) Tryz.func201 rfl rfl (by decide +kernel) (by simp) ?_
 unfold jE at h
 obtain ⟨q04,l1,h⟩:=ab h
 simp(config:=cS)only[go_sem]
 refine al (m1:=.mk) (m2:=.mk) [.nf [3,5,10,11,12] [192,512]] (nY s.ties ((s.ties.length:Nat):Int) v1.now v1.times v1.values) l1 ?_ ?_
 ·simp(config:=cS)only[go_sem]
 ·intro nb2 sb2 bb2 b2 gb2
  obtain ⟨v12_1,out_1⟩:=sb2
  unfold gg at b2
  try dsimp only at b2
  obtain ⟨h3,b2⟩|⟨h3,b2⟩:=af b2
  ·obtain ⟨x01,g4,b2⟩:=ab b2
   obtain ⟨h5,h6,h7⟩:=aj g4
   obtain ⟨h8,b2⟩|⟨h8,b2⟩:=af b2
   ·obtain ⟨x02,g9,b2⟩:=ab b2
    obtain ⟨h10,h11,h12⟩:=aj g9
    obtain ⟨h13,b2⟩|⟨h13,b2⟩:=af b2
    ·cases b2
     simp(config:=cS)only[go_sem,eqT h3,h5,h6,h7,eZt h8,h10,h11,h12,eqT h13]
     refine aq gb2 ?_
     simp(config:=cS)only[go_sem]
    ·obtain ⟨x03,g14,b2⟩:=ab b2
     obtain ⟨h15,h16,h17⟩:=aj g14
     obtain ⟨h18,b2⟩|⟨h18,b2⟩:=af b2
     ·obtain ⟨h19,b2⟩:=ah b2
      obtain ⟨h20,b2⟩:=ah b2
      cases b2
      simp(config:=cS)only[go_sem,eqT h3,h5,h6,h7,eZt h8,h10,h11,h12,eqF h13,h15,h16,h17,eqT h18,eqT h19,eqT h20]
      refine aq gb2 ?_
      simp(config:=cS)only[go_sem]
     ·cases b2
      simp(config:=cS)only[go_sem,eqT h3,h5,h6,h7,eZt h8,h10,h11,h12,eqF h13,h15,h16,h17,eqF h18]
      refine aq gb2 ?_
      simp(config:=cS)only[go_sem]
   ·cases b2
    simp(config:=cS)only[go_sem,eqT h3,h5,h6,h7,eZf h8]
    refine aq gb2 ?_
    simp(config:=cS)only[go_sem]
  ·cases b2
   obtain rfl:=(ak gb2).symm
   try dsimp only at h
   cases h
   simp(config:=cS)only[go_sem,eqF h3]
def nF (g:Int)(h:List GNode)(i:List GTie)(j d:Int)(e f b:List Int):(Int × (List Int) × (List Int))→St
 | (k,a,c)=>⟨[(2,.ptr 128 1 0 0),(3,.ptr 192 1 0 0),(6,.ref 704 1 0 a.length),(7,.ref 768 1 0 c.length),(15,.ref 960 1 0 b.length),(16,.lit (.int .i64 g)),(17,.lit (.int .i64 k))],[(128,1,.var [.sl (ae GNode.encS h),.sl (ae GTie.enc i),.lit (.int .i64 j)]),(192,1,.var [.lit (.int .i64 d),.sl (ae eI e),.sl (ae eI f)]),(704,1,.row true (ae eI a)),(768,1,.row true (ae eI c)),(960,1,.row true (ae eI b))],2⟩
attribute [go_sem] nF
@[go_sem] def hi219_6:DT:=.i2 0 (.i2 1 (.i2 2 (.i2 3 (.i2 4 (.i2 5 (.i2 6 (.i2 7 (.i2 8 (.i2 9 (.i2 10 (.i2 11 (.i2 12 (.i2 13 .nil)))))))))))))
def Ek:Hint where
 acts:=fun _=>[]
 draws:=fun
  | 6=>⟨hi219_6,[[],[0],[],[2],[],[4],[],[4,5,6],[4,5,6,7],[4,5,6,7,8],[2,3,4,5,6,7,8,9],[2,3,4,5,6,7,8,9,10],.range 12,.range 13],.range 14⟩
  | _=>⟨.nil,[],[]⟩
theorem ND (i:Nat):Ek.acts i=[]:=rfl
theorem NE (i:Nat):Ek.views i=none:=rfl
attribute [go_sem] ND NE Tryz.ntmps219 Tryz.results219
@[go_sem] theorem Rw:(Ek.draws 6).order=hi219_6:=rfl
theorem ti {s:GShow}{v1:GState}{res:(List Int) × (List Int)}(h:fL s v1=some res):am Tryz.prog 219 [.agg (GShow.encS s),.agg (GState.encS v1)] [] (.tup [.ref 20000 1 0 res.1.length,.ref 20001 1 0 res.2.length]) [(20000,1,.row true (ae eI res.1)),(20001,1,.row true (ae eI res.2))]:=by
 refine ai (ra:=[.home 4,.home 5]) (md:=mdT) hT (hi:=Ek) Tryz.func219 rfl rfl (by decide +kernel) (by simp) ?_
 unfold fL at h
 obtain ⟨r01,g1,h⟩:=ab h
 simp(config:=cS)only[go_sem]
 refine ag (zA g1) ?_
 obtain ⟨q05,l2,h⟩:=ab h
 simp(config:=cS)only[go_sem]
 refine al (m1:=.mk) (m2:=.mk) [.nf [2,3,6,7,15,16,17] [128,192,704,768,960]] (nF ((r01.length:Nat):Int) s.nodes s.ties s.horizon v1.now v1.times v1.values r01) l2 ?_ ?_
 ·simp(config:=cS)only[go_sem]
 ·intro nb3 sb3 bb3 b3 gb3
  obtain ⟨v17_1,must_1,may_1⟩:=sb3
  unfold fk at b3
  try dsimp only at b3
  obtain ⟨h4,b3⟩|⟨h4,b3⟩:=af b3
  ·obtain ⟨x02,g5,b3⟩:=ab b3
   obtain ⟨h6,h7,h8⟩:=aj g5
   obtain ⟨x03,g9,b3⟩:=ab b3
   obtain ⟨h10,h11,h12⟩:=aj g9
   obtain ⟨x04,g13,b3⟩:=ab b3
   obtain ⟨h14,h15,h16⟩:=aj g13
   obtain ⟨h17,b3⟩|⟨h17,b3⟩:=af b3
   ·obtain ⟨h18,b3⟩:=ah b3
    obtain ⟨h19,b3⟩:=ah b3
    cases b3
    simp(config:=cS)only[go_sem,eqT h4,h6,h7,h8,h10,h11,h12,h14,h15,h16,eqT h17,eqT h18,eqT h19]
    refine aq gb3 ?_
    simp(config:=cS)only[go_sem]
   ·obtain ⟨h20,b3⟩|⟨h20,b3⟩:=af b3
    ·obtain ⟨h21,b3⟩:=ah b3
     obtain ⟨h22,b3⟩:=ah b3
     cases b3
     simp(config:=cS)only[go_sem,eqT h4,h6,h7,h8,h10,h11,h12,h14,h15,h16,eqF h17,eqT h20,eqT h21,eqT h22]
     refine aq gb3 ?_
     simp(config:=cS)only[go_sem]
    ·cases b3
     simp(config:=cS)only[go_sem,eqT h4,h6,h7,h8,h10,h11,h12,h14,h15,h16,eqF h17,eqF h20]
     refine aq gb3 ?_
     simp(config:=cS)only[go_sem]
  ·cases b3
   obtain rfl:=(ak gb3).symm
   try dsimp only at h
   cases h
   simp(config:=cS)only[go_sem,eqF h4]
def qr (n:Int)(d:List Int)(b:Int):(Int × (List Int))→St
 | (c,a)=>⟨[(1,.lit (.int .i64 n)),(5,.ref 512 1 0 a.length),(9,.sl (ae eI d)),(10,.lit (.int .i64 b)),(11,.lit (.int .i64 c))],[(512,1,.row true (ae eI a))],2⟩
attribute [go_sem] qr
attribute [go_sem] Tryz.ntmps221 Tryz.results221
theorem nn {l:List Int}{n:Int}{res:List Int}(h:eO l n=some res):am Tryz.prog 221 [.sl (ae eI l),.lit (.int .i64 n)] [] (.ref 20000 1 0 res.length) [(20000,1,.row true (ae eI res))]:=by
 refine ai (ra:=[.home 4]) (md:=mdT) hT (hi:=hi00) Tryz.func221 rfl rfl (by decide +kernel) (by simp) ?_
 unfold eO at h
 obtain ⟨q02,l1,h⟩:=ab h
 simp(config:=cS)only[go_sem]
 refine al (m1:=.mk) (m2:=.mk) [.nf [1,5,9,10,11] [512]] (qr n l ((l.length:Nat):Int)) l1 ?_ ?_
 ·simp(config:=cS)only[go_sem]
 ·intro nb2 sb2 bb2 b2 gb2
  obtain ⟨v11_1,out_1⟩:=sb2
  unfold iM at b2
  try dsimp only at b2
  obtain ⟨h3,b2⟩|⟨h3,b2⟩:=af b2
  ·obtain ⟨x01,g4,b2⟩:=ab b2
   obtain ⟨h5,h6,h7⟩:=aj g4
   obtain ⟨h8,b2⟩:=ah b2
   obtain ⟨h9,b2⟩|⟨h9,b2⟩:=af b2
   ·obtain ⟨h10,b2⟩:=ah b2
    obtain ⟨h11,b2⟩:=ah b2
    cases b2
    simp(config:=cS)only[go_sem,eqT h3,h5,h6,h7,eqF h8,eqT h9,eqT h10,eqT h11]
    refine aq gb2 ?_
    simp(config:=cS)only[go_sem]
   ·cases b2
    simp(config:=cS)only[go_sem,eqT h3,h5,h6,h7,eqF h8,eqF h9]
    refine aq gb2 ?_
    simp(config:=cS)only[go_sem]
  ·cases b2
   obtain rfl:=(ak gb2).symm
   try dsimp only at h
   cases h
   simp(config:=cS)only[go_sem,eqF h3]
def pC (a b:List Int):(Int × Int × (List Int))→St
 | (i,k,c)=>⟨[(0,.sl (ae eI a)),(1,.sl (ae eI b)),(5,.ref 512 1 0 c.length),(6,.lit (.int .i64 i)),(7,.lit (.int .i64 k))],[(512,1,.row true (ae eI c))],2⟩
attribute [go_sem] pC
@[go_sem] def hi220_5:DT:=.i2 0 (.i2 1 (.i2 2 (.i2 3 (.i2 4 (.i2 5 (.i2 6 (.i2 7 (.i2 8 (.i2 9 (.i2 10 (.i2 11 (.i2 12 (.i2 13 (.i2 14 (.i2 15 (.i2 16 (.i2 17 (.i2 18 (.i2 19 (.i2 20 .nil))))))))))))))))))))
def El:Hint where
 acts:=fun _=>[]
 draws:=fun
  | 5=>⟨hi220_5,[[],[],[1],[0,1,2],[0,1,2,3],.range 5,.range 5,[0,1,2,3,4,6],.range 8,.range 9,.range 10,.range 10,.range 12,.range 13,.range 10,.range 10,[0,1,2,3,4,5,6,7,8,9,14,15],[0,1,2,3,4,5,6,7,8,9,14,15,16],.range 18,.range 19,.range 20],.range 21⟩
  | _=>⟨.nil,[],[]⟩
theorem NF (i:Nat):El.acts i=[]:=rfl
theorem NG (i:Nat):El.views i=none:=rfl
attribute [go_sem] NF NG Tryz.ntmps220 Tryz.results220
@[go_sem] theorem Rx:(El.draws 5).order=hi220_5:=rfl
theorem uZ {a b res:List Int}(h:fm a b=some res):am Tryz.prog 220 [.sl (ae eI a),.sl (ae eI b)] [] (.ref 20000 1 0 res.length) [(20000,1,.row true (ae eI res))]:=by
 refine ai (ra:=[.home 4]) (md:=mdT) hT (hi:=El) Tryz.func220 rfl rfl (by decide +kernel) (by simp) ?_
 unfold fm at h
 obtain ⟨q06,l1,h⟩:=ab h
 simp(config:=cS)only[go_sem]
 refine al (m1:=.mk) (m2:=.mk) [.nf [0,1,5,6,7] [512]] (pC a b) l1 ?_ ?_
 ·simp(config:=cS)only[go_sem]
 ·intro nb2 sb2 bb2 b2 gb2
  obtain ⟨i_1,k_1,out_1⟩:=sb2
  unfold ii at b2
  try dsimp only at b2
  obtain ⟨h3,b2⟩|⟨h3,b2⟩:=af b2
  ·obtain ⟨h4,b2⟩|⟨h4,b2⟩:=af b2
   ·obtain ⟨x01,g5,b2⟩:=ab b2
    obtain ⟨h6,h7,h8⟩:=aj g5
    obtain ⟨h9,b2⟩:=ah b2
    obtain ⟨h10,b2⟩:=ah b2
    cases b2
    simp(config:=cS)only[go_sem,eqT h3,eqT h4,h6,h7,h8,eqT h9,eqT h10]
    refine aq gb2 ?_
    simp(config:=cS)only[go_sem]
   ·obtain ⟨x02,g11,b2⟩:=ab b2
    obtain ⟨h12,h13,h14⟩:=aj g11
    obtain ⟨x03,g15,b2⟩:=ab b2
    obtain ⟨h16,h17,h18⟩:=aj g15
    obtain ⟨h19,b2⟩|⟨h19,b2⟩:=af b2
    ·obtain ⟨h20,b2⟩:=ah b2
     obtain ⟨h21,b2⟩:=ah b2
     cases b2
     simp(config:=cS)only[go_sem,eqT h3,eqF h4,h12,h13,h14,h16,h17,h18,eqT h19,eqT h20,eqT h21]
     refine aq gb2 ?_
     simp(config:=cS)only[go_sem]
    ·obtain ⟨h22,b2⟩:=ah b2
     obtain ⟨h23,b2⟩:=ah b2
     cases b2
     simp(config:=cS)only[go_sem,eqT h3,eqF h4,h12,h13,h14,h16,h17,h18,eqF h19,eqT h22,eqT h23]
     refine aq gb2 ?_
     simp(config:=cS)only[go_sem]
  ·obtain ⟨h24,b2⟩|⟨h24,b2⟩:=af b2
   ·obtain ⟨h25,b2⟩|⟨h25,b2⟩:=af b2
    ·obtain ⟨x04,g26,b2⟩:=ab b2
     obtain ⟨h27,h28,h29⟩:=aj g26
     obtain ⟨h30,b2⟩:=ah b2
     obtain ⟨h31,b2⟩:=ah b2
     cases b2
     simp(config:=cS)only[go_sem,eqF h3,eqT h24,eqT h25,h27,h28,h29,eqT h30,eqT h31]
     refine aq gb2 ?_
     simp(config:=cS)only[go_sem]
    ·obtain ⟨x05,g32,b2⟩:=ab b2
     obtain ⟨h33,h34,h35⟩:=aj g32
     obtain ⟨h36,b2⟩:=ah b2
     obtain ⟨h37,b2⟩:=ah b2
     cases b2
     simp(config:=cS)only[go_sem,eqF h3,eqT h24,eqF h25,h33,h34,h35,eqT h36,eqT h37]
     refine aq gb2 ?_
     simp(config:=cS)only[go_sem]
   ·cases b2
    obtain rfl:=(ak gb2).symm
    try dsimp only at h
    cases h
    simp(config:=cS)only[go_sem,eqF h3,eqF h24]
def nZ (a b:List Int):(Int × (List (List Int)))→St
 | (n,c)=>⟨[(5,.ref 1472 1 0 a.length),(6,.ref 1473 1 0 b.length),(7,.ref 1664 1 0 c.length),(8,.lit (.int .i64 n))],[(1472,1,.row true (ae eI a)),(1473,1,.row true (ae eI b)),(1664,1,.row true (ae (eLO eI) c))],2⟩
attribute [go_sem] nZ
attribute [go_sem] Tryz.ntmps150 Tryz.results150
theorem uk {s:GShow}{v1:GState}{res:List (List Int)}(h:gI s v1=some res):am Tryz.prog 150 [.agg (GShow.encS s),.agg (GState.encS v1)] [] (.ref 20000 1 0 res.length) [(20000,1,.row true (ae (eLO eI) res))]:=by
 refine ai (ra:=[.home 4]) (md:=mdT) hT (hi:=hi00) Tryz.func150 rfl rfl (by decide +kernel) (by simp) ?_
 unfold gI at h
 obtain ⟨r01,g1,h⟩:=ab h
 simp(config:=cS)only[go_sem]
 refine ag (rL g1) ?_
 obtain ⟨h2,h⟩|⟨h2,h⟩:=af h
 ·obtain ⟨h3,h⟩|⟨h3,h⟩:=af h
  ·cases h
   simp(config:=cS)only[go_sem,eZt h2,eqT h3]
  ·obtain ⟨r02,g4,h⟩:=ab h
   simp(config:=cS)only[go_sem,eZt h2,eqF h3]
   refine ag (ti g4) ?_
   obtain ⟨q05,l5,h⟩:=ab h
   simp(config:=cS)only[go_sem]
   refine al (m1:=.mk) (m2:=.mk) [.nf [5,6,7,8] [1472,1473,1664]] (nZ r02.1 r02.2) l5 ?_ ?_
   ·simp(config:=cS)only[go_sem]
   ·intro nb6 sb6 bb6 b6 gb6
    obtain ⟨n_1,out_1⟩:=sb6
    unfold gh at b6
    try dsimp only at b6
    obtain ⟨h7,b6⟩:=ah b6
    obtain ⟨h8,b6⟩|⟨h8,b6⟩:=af b6
    ·obtain ⟨r03,g9,b6⟩:=ab b6
     simp(config:=cS)only[go_sem,eqF h7,eqT h8]
     refine ag (nn g9) ?_
     obtain ⟨r04,g10,b6⟩:=ab b6
     simp(config:=cS)only[go_sem]
     refine ag (uZ g10) ?_
     obtain ⟨h11,b6⟩:=ah b6
     obtain ⟨h12,b6⟩:=ah b6
     cases b6
     simp(config:=cS)only[go_sem,eqT h11,eqT h12]
     refine aq gb6 ?_
     simp(config:=cS)only[go_sem]
    ·cases b6
     obtain rfl:=(ak gb6).symm
     try dsimp only at h
     cases h
     simp(config:=cS)only[go_sem,eqF h7,eqF h8]
 ·cases h
  simp(config:=cS)only[go_sem,eZf h2]
def sy (a:List Int)(b:List (List Int))(c d:Int):St:=⟨[(1,.sl (ae eI a)),(7,.sl (ae (eLS eI) b)),(8,.lit (.int .i64 c)),(9,.lit (.int .i64 d))],[],2⟩
attribute [go_sem] sy
attribute [go_sem] Tryz.ntmps189 Tryz.results189
theorem xE {l:List (List Int)}{set:List Int}{res:Bool}(h:lC l set=some res):am Tryz.prog 189 [.sl (ae (eLS eI) l),.sl (ae eI set)] [] (.lit (.bool res)) []:=by
 refine ai (ra:=[]) (md:=mdT) hT (hi:=hi00) Tryz.func189 rfl rfl (by decide +kernel) (by simp) ?_
 unfold lC at h
 obtain ⟨q03,l1,h⟩:=ab h
 simp(config:=cS)only[go_sem]
 refine al (m1:=.mk) (m2:=.mk) [.nf [1,7,8,9] []] (sy set l ((l.length:Nat):Int)) l1 ?_ ?_
 ·simp(config:=cS)only[go_sem]
 ·intro nb2 v9_1 bb2 b2 gb2
  unfold iy at b2
  try dsimp only at b2
  obtain ⟨h3,b2⟩|⟨h3,b2⟩:=af b2
  ·obtain ⟨x01,g4,b2⟩:=ab b2
   obtain ⟨h5,h6,h7⟩:=aj g4
   obtain ⟨r02,g8,b2⟩:=ab b2
   simp(config:=cS)only[go_sem,eqT h3,h5,h6,h7]
   refine ag (nm g8) ?_
   obtain ⟨h9,b2⟩|⟨h9,b2⟩:=af b2
   ·cases b2
    obtain rfl:=(ak gb2).symm
    try dsimp only at h
    cases h
    simp(config:=cS)only[go_sem,eZt h9]
   ·cases b2
    simp(config:=cS)only[go_sem,eZf h9]
    refine aq gb2 ?_
    simp(config:=cS)only[go_sem]
  ·cases b2
   obtain rfl:=(ak gb2).symm
   try dsimp only at h
   cases h
   simp(config:=cS)only[go_sem,eqF h3]
@[go_sem] def hi187_1:DT:=.i1 0 (.i1 1 (.i1 3 (.i1 4 (.i1 7 (.i1 8 (.fork (.i0 2 [0,1,3,4,7,8] (.fork (.i0 5 [0,1,7,8] (.i0 6 [0,1,3,4,7,8] (.i0 9 [0,1] (.i2 10 (.i2 11 .nil))))) (.i0 6 [0,1,3,4,7,8] (.i0 5 [0,1,7,8] (.i0 9 [0,1] (.i2 10 (.i2 11 .nil))))))) (.i0 6 [0,1,3,4,7,8] (.i0 2 [0,1,3,4,7,8] (.i0 5 [0,1,7,8] (.i0 9 [0,1] (.i2 10 (.i2 11 .nil))))))))))))
def Em:Hint where
 acts:=fun _=>[]
 draws:=fun
  | 1=>⟨hi187_1,[[],[0],[],[],[3],[2,3,4],[],[],[7],[2,3,4,5,6,7,8],.range 10,.range 11],.range 12⟩
  | _=>⟨.nil,[],[]⟩
theorem NH (i:Nat):Em.acts i=[]:=rfl
theorem NI (i:Nat):Em.views i=none:=rfl
attribute [go_sem] NH NI Tryz.ntmps187 Tryz.results187
@[go_sem] theorem Ry:(Em.draws 1).order=hi187_1:=rfl
theorem gy {v0 res:GState}(h:dB v0=some res):am Tryz.prog 187 [.agg (GState.encS v0)] [] (.agg [.lit (.int .i64 res.now),.ref 20000 1 0 res.times.length,.ref 20001 1 0 res.values.length]) [(20000,1,.row true (ae eI res.times)),(20001,1,.row true (ae eI res.values))]:=by
 refine ai (ra:=[.homeCell 128 1,.homeCell 128 2]) (md:=mdT) hT (hi:=Em) Tryz.func187 rfl rfl (by decide +kernel) (by simp) ?_
 unfold dB at h
 try simp(config:=cS)only[go_sem]
 refine bp ?_ ?_
 ·try simp(config:=cS)only[go_sem]
  refine bp ?_ ?_
  ·obtain ⟨h1,h⟩:=ah h
   obtain ⟨h2,h⟩:=ah h
   obtain ⟨h3,h⟩:=ah h
   obtain ⟨h4,h⟩:=ah h
   cases h
   simp(config:=cS)only[go_sem,eqT h1,eqT h2,eqT h3,eqT h4]
  ·obtain ⟨h5,h⟩:=ah h
   obtain ⟨h6,h⟩:=ah h
   obtain ⟨h7,h⟩:=ah h
   obtain ⟨h8,h⟩:=ah h
   cases h
   simp(config:=cS)only[go_sem,eqT h5,eqT h6,eqT h7,eqT h8]
 ·obtain ⟨h9,h⟩:=ah h
  obtain ⟨h10,h⟩:=ah h
  obtain ⟨h11,h⟩:=ah h
  obtain ⟨h12,h⟩:=ah h
  cases h
  simp(config:=cS)only[go_sem,eqT h9,eqT h10,eqT h11,eqT h12]
def rm (g:List Int)(h:Int)(i:List GNode)(j:List GTie)(k d:Int)(e f:List Int)(c:Int)(a:List Int):(Int × (List Int))→St
 | (l,b)=>⟨[(3,.ptr 192 1 0 0),(4,.ptr 256 1 0 0),(6,.ptr 384 1 0 0),(7,.ptr 448 1 0 0),(12,.sl (ae eI g)),(13,.lit (.int .i64 h)),(14,.lit (.int .i64 l))],[(192,1,.var [.sl (ae GNode.encS i),.sl (ae GTie.enc j),.lit (.int .i64 k)]),(256,1,.var [.lit (.int .i64 d),.sl (ae eI e),.sl (ae eI f)]),(384,1,.var [.lit (.int .i64 0),.lit (.slice none 0 0),.lit (.slice none 0 0)]),(448,1,.var [.lit (.int .i64 c),.ref 704 1 0 b.length,.ref 705 1 0 a.length]),(704,1,.row true (ae eI b)),(705,1,.row true (ae eI a))],2⟩
attribute [go_sem] rm
@[go_sem] def hi232_5:DT:=.i2 0 (.i2 1 (.i2 2 (.i2 3 (.i2 4 (.i2 5 (.i2 6 (.i2 7 (.i2 8 (.i2 9 (.i2 10 (.i2 11 .nil)))))))))))
def En:Hint where
 acts:=fun _=>[]
 draws:=fun
  | 5=>⟨hi232_5,[[],[0],[],[2],[],[2,3,4],[2,3,4,5],[2,3,4,5,6],[],[8],.range 10,.range 11],.range 12⟩
  | _=>⟨.nil,[],[]⟩
theorem NJ (i:Nat):En.acts i=[]:=rfl
theorem NK (i:Nat):En.views i=none:=rfl
attribute [go_sem] NJ NK Tryz.ntmps232 Tryz.results232
@[go_sem] theorem Rz:(En.draws 5).order=hi232_5:=rfl
theorem wV {s:GShow}{v1:GState}{ties:List Int}{res:GState}(h:jZ s v1 ties=some res):am Tryz.prog 232 [.agg (GShow.encS s),.agg (GState.encS v1),.sl (ae eI ties)] [] (.agg [.lit (.int .i64 res.now),.ref 20000 1 0 res.times.length,.ref 20001 1 0 res.values.length]) [(20000,1,.row true (ae eI res.times)),(20001,1,.row true (ae eI res.values))]:=by
 refine ai (ra:=[.homeCell 384 1,.homeCell 384 2]) (md:=mdT) hT (hi:=En) Tryz.func232 rfl rfl (by decide +kernel) (by simp) ?_
 unfold jZ at h
 obtain ⟨r01,g1,h⟩:=ab h
 simp(config:=cS)only[go_sem]
 refine ag (gy g1) ?_
 obtain ⟨q05,l2,h⟩:=ab h
 simp(config:=cS)only[go_sem]
 refine al (m1:=.mk) (m2:=.mk) [.nf [3,4,6,7,12,13,14] [192,256,384,448,704,705]] (rm ties ((ties.length:Nat):Int) s.nodes s.ties s.horizon v1.now v1.times v1.values r01.now r01.values) l2 ?_ ?_
 ·simp(config:=cS)only[go_sem]
 ·intro nb3 sb3 bb3 b3 gb3
  obtain ⟨v14_1,h704_1⟩:=sb3
  unfold jG at b3
  try dsimp only at b3
  obtain ⟨h4,b3⟩|⟨h4,b3⟩:=af b3
  ·obtain ⟨x02,g5,b3⟩:=ab b3
   obtain ⟨h6,h7,h8⟩:=aj g5
   obtain ⟨x03,g9,b3⟩:=ab b3
   obtain ⟨h10,h11,h12⟩:=aj g9
   obtain ⟨x04,g13,b3⟩:=ab b3
   obtain ⟨h14,h15,h16⟩:=aj g13
   cases b3
   simp(config:=cS)only[go_sem,eqT h4,h6,h7,h8,h10,h11,h12,h14,h15,h16]
   refine aq gb3 ?_
   simp(config:=cS)only[go_sem]
  ·cases b3
   obtain rfl:=(ak gb3).symm
   try dsimp only at h
   cases h
   simp(config:=cS)only[go_sem,eqF h4]
attribute [go_sem] Tryz.ntmps186 Tryz.results186
theorem rn {s:GShow}{v1:GState}{ties:List Int}{res:GState × Bool}(h:cM s v1 ties=some res):am Tryz.prog 186 [.agg (GShow.encS s),.agg (GState.encS v1),.sl (ae eI ties)] [] (.tup [.agg [.lit (.int .i64 res.1.now),.ref 20000 1 0 res.1.times.length,.ref 20001 1 0 res.1.values.length],.lit (.bool res.2)]) [(20000,1,.row true (ae eI res.1.times)),(20001,1,.row true (ae eI res.1.values))]:=by
 refine ai (ra:=[.homeCell 384 1,.homeCell 384 2]) (md:=mdT) hT (hi:=hi00) Tryz.func186 rfl rfl (by decide +kernel) (by simp) ?_
 unfold cM at h
 obtain ⟨r01,g1,h⟩:=ab h
 simp(config:=cS)only[go_sem]
 refine ag (uk g1) ?_
 obtain ⟨r02,g2,h⟩:=ab h
 simp(config:=cS)only[go_sem]
 refine ag (xE g2) ?_
 obtain ⟨h3,h⟩|⟨h3,h⟩:=af h
 ·obtain ⟨r03,g4,h⟩:=ab h
  simp(config:=cS)only[go_sem,eZt h3]
  refine ag (wV g4) ?_
  cases h
  simp(config:=cS)only[go_sem]
 ·cases h
  simp(config:=cS)only[go_sem,eZf h3]
attribute [go_sem] Tryz.ntmps234 Tryz.results234
theorem AQ {s:GShow}{v1:GState}{res:Bool}(h:kx s v1=some res):am Tryz.prog 234 [.agg (GShow.encS s),.agg (GState.encS v1)] [] (.lit (.bool res)) []:=by
 refine ai (ra:=[]) (md:=mdT) hT (hi:=hi00) Tryz.func234 rfl rfl (by decide +kernel) (by simp) ?_
 unfold kx at h
 obtain ⟨r01,g1,h⟩:=ab h
 simp(config:=cS)only[go_sem]
 refine ag (cn g1) ?_
 obtain ⟨h2,h⟩|⟨h2,h⟩:=af h
 ·obtain ⟨r02,g3,h⟩:=ab h
  simp(config:=cS)only[go_sem,eZt h2]
  refine ag (lY g3) ?_
  obtain ⟨h4,h⟩|⟨h4,h⟩:=af h
  ·obtain ⟨h5,h⟩|⟨h5,h⟩:=af h
   ·cases h
    simp(config:=cS)only[go_sem,eZt h2,eZt h4,eqT h5]
   ·obtain ⟨r03,g6,h⟩:=ab h
    simp(config:=cS)only[go_sem,eZt h2,eZt h4,eqF h5]
    refine ag (gy g6) ?_
    obtain ⟨r04,g7,h⟩:=ab h
    simp(config:=cS)only[go_sem,eZt h2,eZt h4,eqF h5]
    refine ag (rL g7) ?_
    cases h
    simp(config:=cS)only[go_sem,eZt h2,eZt h4,eqF h5]
  ·cases h
   simp(config:=cS)only[go_sem,eZt h2,eZf h4]
 ·cases h
  simp(config:=cS)only[go_sem,eZf h2]
def pD (v d:List Int)(a:Int):(Int × Int)→St
 | (b,c)=>⟨[(1,.sl (ae eI v)),(5,.lit (.int .i64 b)),(9,.sl (ae eI d)),(10,.lit (.int .i64 a)),(11,.lit (.int .i64 c))],[],2⟩
attribute [go_sem] pD
attribute [go_sem] Tryz.ntmps231 Tryz.results231
theorem io {l v:List Int}{res:Int}(h:bY l v=some res):am Tryz.prog 231 [.sl (ae eI l),.sl (ae eI v)] [] (.lit (.int .i64 res)) []:=by
 refine ai (ra:=[]) (md:=mdT) hT (hi:=hi00) Tryz.func231 rfl rfl (by decide +kernel) (by simp) ?_
 unfold bY at h
 obtain ⟨q04,l1,h⟩:=ab h
 simp(config:=cS)only[go_sem]
 refine al (m1:=.mk) (m2:=.mk) [.nf [1,5,9,10,11] []] (pD v l ((l.length:Nat):Int)) l1 ?_ ?_
 ·simp(config:=cS)only[go_sem]
 ·intro nb2 sb2 bb2 b2 gb2
  obtain ⟨out_1,v11_1⟩:=sb2
  unfold ij at b2
  try dsimp only at b2
  obtain ⟨h3,b2⟩|⟨h3,b2⟩:=af b2
  ·obtain ⟨x01,g4,b2⟩:=ab b2
   obtain ⟨h5,h6,h7⟩:=aj g4
   obtain ⟨r02,g8,b2⟩:=ab b2
   simp(config:=cS)only[go_sem,eqT h3,h5,h6,h7]
   refine ag (nj g8) ?_
   obtain ⟨x03,g9,b2⟩:=ab b2
   obtain ⟨h10,h11,h12⟩:=aj g9
   obtain ⟨h13,b2⟩|⟨h13,b2⟩:=af b2
   ·cases b2
    simp(config:=cS)only[go_sem,h10,h11,h12,eqT h13]
    refine aq gb2 ?_
    simp(config:=cS)only[go_sem]
   ·cases b2
    simp(config:=cS)only[go_sem,h10,h11,h12,eqF h13]
    refine aq gb2 ?_
    simp(config:=cS)only[go_sem]
  ·cases b2
   obtain rfl:=(ak gb2).symm
   try dsimp only at h
   cases h
   simp(config:=cS)only[go_sem,eqF h3]
def nG (a:List GNode)(f:Int)(g:List GTie)(h c:Int)(d e:List Int):(Int × (List Int))→St
 | (i,b)=>⟨[(2,.ptr 128 1 0 0),(3,.ptr 192 1 0 0),(5,.ref 512 1 0 b.length),(10,.sl (ae GNode.encS a)),(11,.lit (.int .i64 f)),(12,.lit (.int .i64 i))],[(128,1,.var [.sl (ae GNode.encS a),.sl (ae GTie.enc g),.lit (.int .i64 h)]),(192,1,.var [.lit (.int .i64 c),.sl (ae eI d),.sl (ae eI e)]),(512,1,.row true (ae eI b))],2⟩
attribute [go_sem] nG
attribute [go_sem] Tryz.ntmps235 Tryz.results235
theorem tj {s:GShow}{v1:GState}{res:List Int}(h:fM s v1=some res):am Tryz.prog 235 [.agg (GShow.encS s),.agg (GState.encS v1)] [] (.ref 20000 1 0 res.length) [(20000,1,.row true (ae eI res))]:=by
 refine ai (ra:=[.home 4]) (md:=mdT) hT (hi:=hi00) Tryz.func235 rfl rfl (by decide +kernel) (by simp) ?_
 unfold fM at h
 obtain ⟨q05,l1,h⟩:=ab h
 simp(config:=cS)only[go_sem]
 refine al (m1:=.mk) (m2:=.mk) [.nf [2,3,5,10,11,12] [128,192,512]] (nG s.nodes ((s.nodes.length:Nat):Int) s.ties s.horizon v1.now v1.times v1.values) l1 ?_ ?_
 ·simp(config:=cS)only[go_sem]
 ·intro nb2 sb2 bb2 b2 gb2
  obtain ⟨v12_1,out_1⟩:=sb2
  unfold fo at b2
  try dsimp only at b2
  obtain ⟨h3,b2⟩|⟨h3,b2⟩:=af b2
  ·obtain ⟨x01,g4,b2⟩:=ab b2
   obtain ⟨h5,h6,h7⟩:=aj g4
   obtain ⟨h8,b2⟩|⟨h8,b2⟩:=af b2
   ·obtain ⟨r02,g9,b2⟩:=ab b2
    simp(config:=cS)only[go_sem,eqT h3,h5,h6,h7,eqT h8]
    refine ag (vR g9) ?_
    obtain ⟨h10,b2⟩|⟨h10,b2⟩:=af b2
    ·obtain ⟨x03,g11,b2⟩:=ab b2
     obtain ⟨h12,h13,h14⟩:=aj g11
     obtain ⟨h15,b2⟩|⟨h15,b2⟩:=af b2
     ·obtain ⟨r04,g16,b2⟩:=ab b2
      simp(config:=cS)only[go_sem,eqT h10,h12,h13,h14,eqT h15]
      refine ag (io g16) ?_
      obtain ⟨h17,b2⟩|⟨h17,b2⟩:=af b2
      ·obtain ⟨h18,b2⟩:=ah b2
       obtain ⟨h19,b2⟩:=ah b2
       cases b2
       simp(config:=cS)only[go_sem,eqT h17,eqT h18,eqT h19]
       refine aq gb2 ?_
       simp(config:=cS)only[go_sem]
      ·cases b2
       simp(config:=cS)only[go_sem,eqF h17]
       refine aq gb2 ?_
       simp(config:=cS)only[go_sem]
     ·cases b2
      simp(config:=cS)only[go_sem,eqT h10,h12,h13,h14,eqF h15]
      refine aq gb2 ?_
      simp(config:=cS)only[go_sem]
    ·cases b2
     simp(config:=cS)only[go_sem,eqF h10]
     refine aq gb2 ?_
     simp(config:=cS)only[go_sem]
   ·cases b2
    simp(config:=cS)only[go_sem,eqT h3,h5,h6,h7,eqF h8]
    refine aq gb2 ?_
    simp(config:=cS)only[go_sem]
  ·cases b2
   obtain rfl:=(ak gb2).symm
   try dsimp only at h
   cases h
   simp(config:=cS)only[go_sem,eqF h3]
def mN (l:List Int):(Int × (List (List Int)))→St
 | (n,a)=>⟨[(5,.ref 896 1 0 l.length),(6,.ref 960 1 0 a.length),(7,.lit (.int .i64 n))],[(896,1,.row true (ae eI l)),(960,1,.row true (ae (eLO eI) a))],2⟩
attribute [go_sem] mN
attribute [go_sem] Tryz.ntmps190 Tryz.results190
theorem sA {s:GShow}{v1:GState}{res:List (List Int)}(h:eQ s v1=some res):am Tryz.prog 190 [.agg (GShow.encS s),.agg (GState.encS v1)] [] (.ref 20000 1 0 res.length) [(20000,1,.row true (ae (eLO eI) res))]:=by
 refine ai (ra:=[.home 4]) (md:=mdT) hT (hi:=hi00) Tryz.func190 rfl rfl (by decide +kernel) (by simp) ?_
 unfold eQ at h
 obtain ⟨r01,g1,h⟩:=ab h
 simp(config:=cS)only[go_sem]
 refine ag (AQ g1) ?_
 obtain ⟨h2,h⟩|⟨h2,h⟩:=af h
 ·obtain ⟨r02,g3,h⟩:=ab h
  simp(config:=cS)only[go_sem,eZt h2]
  refine ag (tj g3) ?_
  obtain ⟨h4,h⟩:=ah h
  obtain ⟨q04,l5,h⟩:=ab h
  simp(config:=cS)only[go_sem,eqF h4]
  refine al (m1:=.mk) (m2:=.mk) [.nf [5,6,7] [896,960]] (mN r02) l5 ?_ ?_
  ·simp(config:=cS)only[go_sem]
  ·intro nb6 sb6 bb6 b6 gb6
   obtain ⟨n_1,out_1⟩:=sb6
   unfold eP at b6
   try dsimp only at b6
   obtain ⟨h7,b6⟩|⟨h7,b6⟩:=af b6
   ·obtain ⟨r03,g8,b6⟩:=ab b6
    simp(config:=cS)only[go_sem,eqT h7]
    refine ag (nn g8) ?_
    obtain ⟨h9,b6⟩:=ah b6
    obtain ⟨h10,b6⟩:=ah b6
    cases b6
    simp(config:=cS)only[go_sem,eqT h9,eqT h10]
    refine aq gb6 ?_
    simp(config:=cS)only[go_sem]
   ·cases b6
    obtain rfl:=(ak gb6).symm
    try dsimp only at h
    cases h
    simp(config:=cS)only[go_sem,eqF h7]
 ·cases h
  simp(config:=cS)only[go_sem,eZf h2]
def oa (a:List Int)(h:Int)(i:List GNode)(j:List GTie)(k e:Int)(f g:List Int)(d:Int)(b:List Int):(Int × (List Int))→St
 | (l,c)=>⟨[(2,.sl (ae eI a)),(3,.ptr 192 1 0 0),(4,.ptr 256 1 0 0),(6,.ptr 384 1 0 0),(8,.ptr 512 1 0 0),(15,.sl (ae eI a)),(16,.lit (.int .i64 h)),(17,.lit (.int .i64 l))],[(192,1,.var [.sl (ae GNode.encS i),.sl (ae GTie.enc j),.lit (.int .i64 k)]),(256,1,.var [.lit (.int .i64 e),.sl (ae eI f),.sl (ae eI g)]),(384,1,.var [.lit (.int .i64 0),.lit (.slice none 0 0),.lit (.slice none 0 0)]),(512,1,.var [.lit (.int .i64 d),.ref 896 1 0 c.length,.ref 897 1 0 b.length]),(896,1,.row true (ae eI c)),(897,1,.row true (ae eI b))],2⟩
attribute [go_sem] oa
def ob (d:List Int)(f:List GNode)(g:List GTie)(h e:Int)(b c:List Int):(Int × (List Int))→St
 | (p,a)=>⟨[(2,.sl (ae eI d)),(3,.ptr 192 1 0 0),(6,.ptr 384 1 0 0),(8,.ptr 512 1 0 0),(11,.ref 1792 1 0 a.length),(12,.lit (.int .i64 p))],[(192,1,.var [.sl (ae GNode.encS f),.sl (ae GTie.enc g),.lit (.int .i64 h)]),(384,1,.var [.lit (.int .i64 0),.lit (.slice none 0 0),.lit (.slice none 0 0)]),(512,1,.var [.lit (.int .i64 e),.ref 896 1 0 b.length,.ref 897 1 0 c.length]),(896,1,.row true (ae eI b)),(897,1,.row true (ae eI c)),(1792,1,.row true (ae eI a))],2⟩
attribute [go_sem] ob
attribute [go_sem] Tryz.ntmps192 Tryz.results192
theorem oU {s:GShow}{v1:GState}{nodes:List Int}{res:GState × (List Int)}(h:ej s v1 nodes=some res):am Tryz.prog 192 [.agg (GShow.encS s),.agg (GState.encS v1),.sl (ae eI nodes)] [] (.tup [.agg [.lit (.int .i64 res.1.now),.ref 20000 1 0 res.1.times.length,.ref 20001 1 0 res.1.values.length],.ref 20002 1 0 res.2.length]) [(20000,1,.row true (ae eI res.1.times)),(20001,1,.row true (ae eI res.1.values)),(20002,1,.row true (ae eI res.2))]:=by
 refine ai (ra:=[.homeCell 384 1,.homeCell 384 2,.home 7]) (md:=mdT) hT (hi:=hi00) Tryz.func192 rfl rfl (by decide +kernel) (by simp) ?_
 unfold ej at h
 obtain ⟨r01,g1,h⟩:=ab h
 simp(config:=cS)only[go_sem]
 refine ag (gy g1) ?_
 obtain ⟨q07,l2,h⟩:=ab h
 simp(config:=cS)only[go_sem]
 refine al (m1:=.mk) (m2:=.mk) [.nf [2,3,4,6,8,15,16,17] [192,256,384,512,896,897]] (oa nodes ((nodes.length:Nat):Int) s.nodes s.ties s.horizon v1.now v1.times v1.values r01.now r01.values) l2 ?_ ?_
 ·simp(config:=cS)only[go_sem]
 ·intro nb3 sb3 bb3 b3 gb3
  obtain ⟨v17_1,h896_1⟩:=sb3
  unfold gj at b3
  try dsimp only at b3
  obtain ⟨h4,b3⟩|⟨h4,b3⟩:=af b3
  ·obtain ⟨x02,g5,b3⟩:=ab b3
   obtain ⟨h6,h7,h8⟩:=aj g5
   obtain ⟨x03,g9,b3⟩:=ab b3
   obtain ⟨h10,h11,h12⟩:=aj g9
   cases b3
   simp(config:=cS)only[go_sem,eqT h4,h6,h7,h8,h10,h11,h12]
   refine aq gb3 ?_
   simp(config:=cS)only[go_sem]
  ·cases b3
   obtain rfl:=(ak gb3).symm
   try dsimp only at h
   obtain ⟨q06,l14,h⟩:=ab h
   simp(config:=cS)only[go_sem,eqF h4]
   refine al (m1:=.mk) (m2:=.mk) [.nf [2,3,6,8,11,12] [192,384,512,896,897,1792]] (ob nodes s.nodes s.ties s.horizon r01.now h896_1 r01.values) l14 ?_ ?_
   ·simp(config:=cS)only[go_sem]
   ·intro nb15 sb15 bb15 b15 gb15
    obtain ⟨p_2,props_2⟩:=sb15
    unfold gk at b15
    try dsimp only at b15
    obtain ⟨h16,b15⟩|⟨h16,b15⟩:=af b15
    ·obtain ⟨r04,g17,b15⟩:=ab b15
     simp(config:=cS)only[go_sem,eqT h16]
     refine ag (kW g17) ?_
     obtain ⟨r05,g18,b15⟩:=ab b15
     simp(config:=cS)only[go_sem]
     refine ag (jT g18) ?_
     obtain ⟨h19,b15⟩|⟨h19,b15⟩:=af b15
     ·obtain ⟨h20,b15⟩:=ah b15
      obtain ⟨h21,b15⟩:=ah b15
      cases b15
      simp(config:=cS)only[go_sem,eZt h19,eqT h20,eqT h21]
      refine aq gb15 ?_
      simp(config:=cS)only[go_sem]
     ·cases b15
      simp(config:=cS)only[go_sem,eZf h19]
      refine aq gb15 ?_
      simp(config:=cS)only[go_sem]
    ·cases b15
     obtain rfl:=(ak gb15).symm
     try dsimp only at h
     cases h
     simp(config:=cS)only[go_sem,eqF h16]
attribute [go_sem] Tryz.ntmps265 Tryz.results265
theorem wB {s:GShow}{v1:GState}{nodes:List Int}{res:GState × (List Int) × Bool}(h:iX s v1 nodes=some res):am Tryz.prog 265 [.agg (GShow.encS s),.agg (GState.encS v1),.sl (ae eI nodes)] [] (.tup [.agg [.lit (.int .i64 res.1.now),.ref 20000 1 0 res.1.times.length,.ref 20001 1 0 res.1.values.length],.ref 20002 1 0 res.2.1.length,.lit (.bool res.2.2)]) [(20000,1,.row true (ae eI res.1.times)),(20001,1,.row true (ae eI res.1.values)),(20002,1,.row true (ae eI res.2.1))]:=by
 refine ai (ra:=[.homeCell 384 1,.homeCell 384 2,.home 7]) (md:=mdT) hT (hi:=hi00) Tryz.func265 rfl rfl (by decide +kernel) (by simp) ?_
 unfold iX at h
 obtain ⟨r01,g1,h⟩:=ab h
 simp(config:=cS)only[go_sem]
 refine ag (sA g1) ?_
 obtain ⟨r02,g2,h⟩:=ab h
 simp(config:=cS)only[go_sem]
 refine ag (xE g2) ?_
 obtain ⟨h3,h⟩|⟨h3,h⟩:=af h
 ·obtain ⟨r03,g4,h⟩:=ab h
  simp(config:=cS)only[go_sem,eZt h3]
  refine ag (oU g4) ?_
  cases h
  simp(config:=cS)only[go_sem]
 ·cases h
  simp(config:=cS)only[go_sem,eZf h3]
def oc (a e:List Int)(f d:Int)(b:List Int):(Int × (List Int))→St
 | (g,c)=>⟨[(2,.sl (ae eI a)),(6,.ptr 384 1 0 0),(7,.ptr 448 1 0 0),(12,.sl (ae eI e)),(13,.lit (.int .i64 f)),(14,.lit (.int .i64 g))],[(384,1,.var [.lit (.int .i64 0),.lit (.slice none 0 0),.lit (.slice none 0 0)]),(448,1,.var [.lit (.int .i64 d),.ref 704 1 0 b.length,.ref 705 1 0 c.length]),(704,1,.row true (ae eI b)),(705,1,.row true (ae eI c))],2⟩
attribute [go_sem] oc
@[go_sem] def hi193_5:DT:=.i2 0 (.i2 1 (.i2 2 (.i2 3 (.i2 4 (.i2 5 (.i2 6 (.i2 7 (.i2 8 (.i2 9 .nil)))))))))
def Eo:Hint where
 acts:=fun _=>[]
 draws:=fun
  | 5=>⟨hi193_5,[[],[0],[],[2],[],[],[4,5],[4,5,6],.range 8,.range 9],.range 10⟩
  | _=>⟨.nil,[],[]⟩
theorem NL (i:Nat):Eo.acts i=[]:=rfl
theorem NM (i:Nat):Eo.views i=none:=rfl
attribute [go_sem] NL NM Tryz.ntmps193 Tryz.results193
@[go_sem] theorem RA:(Eo.draws 5).order=hi193_5:=rfl
theorem jt {v0:GState}{props values:List Int}{res:GState}(h:ek v0 props values=some res):am Tryz.prog 193 [.agg (GState.encS v0),.sl (ae eI props),.sl (ae eI values)] [] (.agg [.lit (.int .i64 res.now),.ref 20000 1 0 res.times.length,.ref 20001 1 0 res.values.length]) [(20000,1,.row true (ae eI res.times)),(20001,1,.row true (ae eI res.values))]:=by
 refine ai (ra:=[.homeCell 384 1,.homeCell 384 2]) (md:=mdT) hT (hi:=Eo) Tryz.func193 rfl rfl (by decide +kernel) (by simp) ?_
 unfold ek at h
 obtain ⟨r01,g1,h⟩:=ab h
 simp(config:=cS)only[go_sem]
 refine ag (gy g1) ?_
 obtain ⟨q05,l2,h⟩:=ab h
 simp(config:=cS)only[go_sem]
 refine al (m1:=.mk) (m2:=.mk) [.nf [2,6,7,12,13,14] [384,448,704,705]] (oc values props ((props.length:Nat):Int) r01.now r01.times) l2 ?_ ?_
 ·simp(config:=cS)only[go_sem]
 ·intro nb3 sb3 bb3 b3 gb3
  obtain ⟨v14_1,h705_1⟩:=sb3
  unfold gl at b3
  try dsimp only at b3
  obtain ⟨h4,b3⟩|⟨h4,b3⟩:=af b3
  ·obtain ⟨x02,g5,b3⟩:=ab b3
   obtain ⟨h6,h7,h8⟩:=aj g5
   obtain ⟨x03,g9,b3⟩:=ab b3
   obtain ⟨h10,h11,h12⟩:=aj g9
   obtain ⟨x04,g13,b3⟩:=ab b3
   obtain ⟨h14,h15,h16⟩:=aj g13
   cases b3
   simp(config:=cS)only[go_sem,eqT h4,h6,h7,h8,h10,h11,h12,h14,h15,h16]
   refine aq gb3 ?_
   simp(config:=cS)only[go_sem]
  ·cases b3
   obtain rfl:=(ak gb3).symm
   try dsimp only at h
   cases h
   simp(config:=cS)only[go_sem,eqF h4]
def pE (e f:Int)(g h i:List Int)(j:Int)(b c d:List Int):(Int × (List Int))→St
 | (k,a)=>⟨[(5,.ptr 320 1 0 0),(6,.ptr 384 1 0 0),(10,.ptr 640 1 0 0),(11,.ref 2946 1 0 d.length),(13,.ref 3904 1 0 a.length),(62,.ref 2946 1 0 d.length),(63,.lit (.int .i64 e)),(64,.lit (.int .i64 k))],[(320,1,.var [.lit (.int .i64 f),.sl (ae eI g),.sl (ae eI h),.sl (ae eI i)]),(384,1,.var [.lit (.int .i64 0),.lit (.slice none 0 0),.lit (.slice none 0 0)]),(640,1,.var [.lit (.int .i64 j),.ref 2944 1 0 b.length,.ref 2945 1 0 c.length]),(2944,1,.row true (ae eI b)),(2945,1,.row true (ae eI c)),(2946,1,.row true (ae eI d)),(3904,1,.row true (ae eI a))],2⟩
attribute [go_sem] pE
attribute [go_sem] Tryz.ntmps238 Tryz.results238
theorem AR {s:GShow}{v1:GState}{e:GEntry}{res:GState × Bool}(h:ky s v1 e=some res):am Tryz.prog 238 [.agg (GShow.encS s),.agg (GState.encS v1),.agg (GEntry.encS e)] [] (.tup [.agg [.lit (.int .i64 res.1.now),.ref 20000 1 0 res.1.times.length,.ref 20001 1 0 res.1.values.length],.lit (.bool res.2)]) [(20000,1,.row true (ae eI res.1.times)),(20001,1,.row true (ae eI res.1.values))]:=by
 refine ai (ra:=[.homeCell 384 1,.homeCell 384 2]) (md:=mdT) hT (hi:=hi00) Tryz.func238 rfl rfl (by decide +kernel) (by simp) ?_
 unfold ky at h
 obtain ⟨r01,g1,h⟩:=ab h
 simp(config:=cS)only[go_sem]
 refine ag (rn g1) ?_
 obtain ⟨h2,h⟩|⟨h2,h⟩:=af h
 ·obtain ⟨h3,h⟩|⟨h3,h⟩:=af h
  ·obtain ⟨r02,g4,h⟩:=ab h
   simp(config:=cS)only[go_sem,eZt h2,eqT h3]
   refine ag (nk g4) ?_
   obtain ⟨h5,h⟩|⟨h5,h⟩:=af h
   ·obtain ⟨r03,g6,h⟩:=ab h
    simp(config:=cS)only[go_sem,eZt h5]
    refine ag (wB g6) ?_
    obtain ⟨h7,h⟩|⟨h7,h⟩:=af h
    ·obtain ⟨h8,h⟩|⟨h8,h⟩:=af h
     ·obtain ⟨q07,l9,h⟩:=ab h
      simp(config:=cS)only[go_sem,eZt h7,eqT h8]
      refine al (m1:=.mk) (m2:=.mk) [.nf [5,6,10,11,13,62,63,64] [320,384,640,2944,2945,2946,3904]] (pE ((r03.2.1.length:Nat):Int) e.now e.ties e.nodes e.values r03.1.now r03.1.times r03.1.values r03.2.1) l9 ?_ ?_
      ·simp(config:=cS)only[go_sem]
      ·intro nb10 sb10 bb10 b10 gb10
       obtain ⟨v64_1,values_1⟩:=sb10
       unfold eR at b10
       try dsimp only at b10
       obtain ⟨h11,b10⟩|⟨h11,b10⟩:=af b10
       ·obtain ⟨x04,g12,b10⟩:=ab b10
        obtain ⟨h13,h14,h15⟩:=aj g12
        obtain ⟨x05,g16,b10⟩:=ab b10
        obtain ⟨h17,h18,h19⟩:=aj g16
        obtain ⟨h20,b10⟩|⟨h20,b10⟩:=af b10
        ·obtain ⟨h21,b10⟩:=ah b10
         obtain ⟨h22,b10⟩:=ah b10
         cases b10
         simp(config:=cS)only[go_sem,eqT h11,h13,h14,h15,h17,h18,h19,eqT h20,eqT h21,eqT h22]
         refine aq gb10 ?_
         simp(config:=cS)only[go_sem]
        ·obtain ⟨h23,b10⟩|⟨h23,b10⟩:=af b10
         ·obtain ⟨h24,b10⟩:=ah b10
          obtain ⟨h25,b10⟩:=ah b10
          cases b10
          simp(config:=cS)only[go_sem,eqT h11,h13,h14,h15,h17,h18,h19,eqF h20,eqT h23,eqT h24,eqT h25]
          refine aq gb10 ?_
          simp(config:=cS)only[go_sem]
         ·cases b10
          obtain rfl:=(ak gb10).symm
          try dsimp only at h
          cases h
          simp(config:=cS)only[go_sem,eqT h11,h13,h14,h15,h17,h18,h19,eqF h20,eqF h23]
       ·cases b10
        obtain rfl:=(ak gb10).symm
        try dsimp only at h
        obtain ⟨r06,g28,h⟩:=ab h
        simp(config:=cS)only[go_sem,eqF h11]
        refine ag (jt g28) ?_
        cases h
        simp(config:=cS)only[go_sem]
     ·cases h
      simp(config:=cS)only[go_sem,eZt h7,eqF h8]
    ·cases h
     simp(config:=cS)only[go_sem,eZf h7]
   ·cases h
    simp(config:=cS)only[go_sem,eZf h5]
  ·cases h
   simp(config:=cS)only[go_sem,eZt h2,eqF h3]
 ·cases h
  simp(config:=cS)only[go_sem,eZf h2]
def oe (d:List GEntry)(e:Int)(f:List GNode)(g:List GTie)(h:Int):(Int × Int × (List Int) × (List Int))→St
 | (i,c,a,b)=>⟨[(2,.ptr 128 1 0 0),(4,.ptr 256 1 0 0),(6,.ptr 384 1 0 0),(13,.sl (ae GEntry.encS d)),(14,.lit (.int .i64 e)),(15,.lit (.int .i64 i))],[(128,1,.var [.sl (ae GNode.encS f),.sl (ae GTie.enc g),.lit (.int .i64 h)]),(256,1,.var [.lit (.int .i64 0),.lit (.slice none 0 0),.lit (.slice none 0 0)]),(384,1,.var [.lit (.int .i64 c),.ref 768 1 0 a.length,.ref 769 1 0 b.length]),(768,1,.row true (ae eI a)),(769,1,.row true (ae eI b))],2⟩
attribute [go_sem] oe
@[go_sem] def hi199_10:DT:=.i1 0 (.i2 1 (.i0 2 [0] (.i2 3 (.i2 4 .nil))))
def Ep:Hint where
 acts:=fun _=>[]
 draws:=fun
  | 10=>⟨hi199_10,[[],[],[1],[0,1,2],[0,1,2,3]],.range 5⟩
  | _=>⟨.nil,[],[]⟩
theorem NN (i:Nat):Ep.acts i=[]:=rfl
theorem NO (i:Nat):Ep.views i=none:=rfl
attribute [go_sem] NN NO Tryz.ntmps199 Tryz.results199
@[go_sem] theorem Rh:(Ep.draws 10).order=hi199_10:=rfl
theorem zB {s:GShow}{log:List GEntry}{res:GState × Bool}(h:jH s log=some res):am Tryz.prog 199 [.agg (GShow.encS s),.sl (ae GEntry.encS log)] [] (.tup [.agg [.lit (.int .i64 res.1.now),.ref 20000 1 0 res.1.times.length,.ref 20001 1 0 res.1.values.length],.lit (.bool res.2)]) [(20000,1,.row true (ae eI res.1.times)),(20001,1,.row true (ae eI res.1.values))]:=by
 refine ai (ra:=[.homeCell 256 1,.homeCell 256 2]) (md:=mdT) hT (hi:=Ep) Tryz.func199 rfl rfl (by decide +kernel) (by simp) ?_
 unfold jH at h
 obtain ⟨r01,g1,h⟩:=ab h
 simp(config:=cS)only[go_sem]
 refine ag (th g1) ?_
 obtain ⟨q05,l2,h⟩:=ab h
 simp(config:=cS)only[go_sem]
 refine al (m1:=.mk) (m2:=.mk) [.nfp [2,4,6,13,14,15] [(128,128),(256,256),(384,384),(1472,768),(768,768),(1473,769),(769,769)] []] (oe log ((log.length:Nat):Int) s.nodes s.ties s.horizon) l2 ?_ ?_
 ·simp(config:=cS)only[go_sem]
 ·intro nb3 sb3 bb3 b3 gb3
  obtain ⟨v15_1,v6_0_1,h768_1,h769_1⟩:=sb3
  unfold gm at b3
  try dsimp only at b3
  obtain ⟨h4,b3⟩|⟨h4,b3⟩:=af b3
  ·obtain ⟨x02,g5,b3⟩:=ab b3
   obtain ⟨h6,h7,h8⟩:=aj g5
   obtain ⟨r03,g9,b3⟩:=ab b3
   simp(config:=cS)only[go_sem,eqT h4,h6,h7,h8]
   refine ag (AR g9) ?_
   obtain ⟨h10,b3⟩|⟨h10,b3⟩:=af b3
   ·cases b3
    simp(config:=cS)only[go_sem,eZt h10]
    refine aq gb3 ?_
    simp(config:=cS)only[go_sem]
   ·cases b3
    obtain rfl:=(ak gb3).symm
    try dsimp only at h
    cases h
    simp(config:=cS)only[go_sem,eZf h10]
  ·cases b3
   obtain rfl:=(ak gb3).symm
   try dsimp only at h
   obtain ⟨r04,g13,h⟩:=ab h
   simp(config:=cS)only[go_sem,eqF h4]
   refine ag (lY g13) ?_
   cases h
   simp(config:=cS)only[go_sem]
attribute [go_sem] Tryz.ntmps200 Tryz.results200
theorem yE {a b:GState}{res:Bool}(h:iN a b=some res):am Tryz.prog 200 [.agg (GState.encS a),.agg (GState.encS b)] [] (.lit (.bool res)) []:=by
 refine ai (ra:=[]) (md:=mdT) hT (hi:=hi00) Tryz.func200 rfl rfl (by decide +kernel) (by simp) ?_
 unfold iN at h
 obtain ⟨h1,h⟩|⟨h1,h⟩:=af h
 ·obtain ⟨r01,g2,h⟩:=ab h
  simp(config:=cS)only[go_sem,eqT h1]
  refine ag (nm g2) ?_
  obtain ⟨h3,h⟩|⟨h3,h⟩:=af h
  ·obtain ⟨r02,g4,h⟩:=ab h
   simp(config:=cS)only[go_sem,eqT h1,eZt h3]
   refine ag (nm g4) ?_
   cases h
   simp(config:=cS)only[go_sem,eqT h1,eZt h3]
  ·cases h
   simp(config:=cS)only[go_sem,eqT h1,eZf h3]
 ·cases h
  simp(config:=cS)only[go_sem,eqF h1]
attribute [go_sem] Tryz.ntmps122 Tryz.results122
theorem DA {d:GDesk}{res:Bool}(h:ml d=some res):am Tryz.prog 122 [.agg (GDesk.encS d)] [] (.lit (.bool res)) []:=by
 refine ai (ra:=[]) (md:=mdT) hT (hi:=hi00) Tryz.func122 rfl rfl (by decide +kernel) (by simp) ?_
 unfold ml at h
 obtain ⟨r01,g1,h⟩:=ab h
 simp(config:=cS)only[go_sem]
 refine ag (rL g1) ?_
 obtain ⟨h2,h⟩|⟨h2,h⟩:=af h
 ·obtain ⟨h3,h⟩|⟨h3,h⟩:=af h
  ·obtain ⟨r02,g4,h⟩:=ab h
   simp(config:=cS)only[go_sem,eZt h2,eqT h3]
   refine ag (zB g4) ?_
   obtain ⟨h5,h⟩|⟨h5,h⟩:=af h
   ·obtain ⟨r03,g6,h⟩:=ab h
    simp(config:=cS)only[go_sem,eZt h2,eqT h3,eZt h5]
    refine ag (yE g6) ?_
    cases h
    simp(config:=cS)only[go_sem,eZt h2,eqT h3,eZt h5]
   ·cases h
    simp(config:=cS)only[go_sem,eZt h2,eqT h3,eZf h5]
  ·cases h
   simp(config:=cS)only[go_sem,eZt h2,eqF h3]
 ·cases h
  simp(config:=cS)only[go_sem,eZf h2]
@[go_sem] def hi230_10:DT:=.i2 0 (.i2 1 (.i2 2 (.i2 3 (.i2 4 (.i2 5 (.i2 6 (.i2 7 (.i2 8 (.i2 9 (.i2 10 (.i2 11 (.i2 12 (.i2 13 (.i2 14 (.i2 15 (.i2 16 (.i2 17 (.i2 18 (.i2 19 (.i2 20 .nil))))))))))))))))))))
@[go_sem] def hi230_8:DT:=.i2 0 (.i2 1 (.i2 2 (.i2 3 (.i2 4 (.i2 5 (.i2 6 (.i2 7 (.i2 8 (.i2 9 (.i2 10 (.i2 11 (.i2 12 (.i2 13 (.i2 14 (.i2 15 (.i2 16 (.i2 17 (.i2 18 (.i2 19 (.i2 20 .nil))))))))))))))))))))
def AS:Hint where
 acts:=fun _=>[]
 draws:=fun
  | 8=>⟨hi230_8,[[],[0],[],[2],[0,1,2,3],.range 5,.range 6,[],[7],.range 9,.range 10,.range 11,.range 12,.range 13,.range 12,.range 15,.range 12,[0,1,2,3,4,5,6,7,8,9,10,11,16],.range 18,.range 19,.range 20],.range 21⟩
  | 10=>⟨hi230_10,[[],[0],[],[2],[0,1,2,3],.range 5,.range 6,[],[7],.range 9,.range 10,.range 11,.range 12,.range 12,[0,1,2,3,4,5,6,7,8,9,10,11,13],.range 15,.range 12,[0,1,2,3,4,5,6,7,8,9,10,11,16],.range 18,.range 19,.range 20],.range 21⟩
  | _=>⟨.nil,[],[]⟩
theorem NP (i:Nat):AS.acts i=[]:=rfl
theorem NQ (i:Nat):AS.views i=none:=rfl
attribute [go_sem] NP NQ Tryz.ntmps230 Tryz.results230
@[go_sem] theorem RB:(AS.draws 8).order=hi230_8:=rfl
@[go_sem] theorem Ri:(AS.draws 10).order=hi230_10:=rfl
theorem Cj {s:GShow}{v1:GState}{t:GTie}{res:Bool}(h:lD s v1 t=some res):am Tryz.prog 230 [.agg (GShow.encS s),.agg (GState.encS v1),.agg (GTie.enc t)] [] (.lit (.bool res)) []:=by
 refine ai (ra:=[]) (md:=mdT) hT (hi:=AS) Tryz.func230 rfl rfl (by decide +kernel) (by simp) ?_
 unfold lD at h
 obtain ⟨x01,g1,h⟩:=ab h
 obtain ⟨h2,h3,h4⟩:=aj g1
 obtain ⟨x02,g5,h⟩:=ab h
 obtain ⟨h6,h7,h8⟩:=aj g5
 obtain ⟨h9,h⟩|⟨h9,h⟩:=af h
 ·obtain ⟨h10,h⟩|⟨h10,h⟩:=af h
  ·cases h
   simp(config:=cS)only[go_sem,h2,h3,h4,h6,h7,h8,eqT h9,eZt h10]
  ·obtain ⟨h11,h⟩|⟨h11,h⟩:=af h
   ·cases h
    simp(config:=cS)only[go_sem,h2,h3,h4,h6,h7,h8,eqT h9,eZf h10,eqT h11]
   ·obtain ⟨x03,g12,h⟩:=ab h
    obtain ⟨h13,h14,h15⟩:=aj g12
    obtain ⟨r04,g16,h⟩:=ab h
    simp(config:=cS)only[go_sem,h2,h3,h4,h6,h7,h8,eqT h9,eZf h10,eqF h11,h13,h14,h15]
    refine ag (io g16) ?_
    obtain ⟨h17,h⟩|⟨h17,h⟩:=af h
    ·cases h
     simp(config:=cS)only[go_sem,eqT h17]
    ·cases h
     simp(config:=cS)only[go_sem,eqF h17]
 ·obtain ⟨h18,h⟩|⟨h18,h⟩:=af h
  ·obtain ⟨h19,h⟩|⟨h19,h⟩:=af h
   ·cases h
    simp(config:=cS)only[go_sem,h2,h3,h4,h6,h7,h8,eqF h9,eqT h18,eZt h19]
   ·obtain ⟨x05,g20,h⟩:=ab h
    obtain ⟨h21,h22,h23⟩:=aj g20
    obtain ⟨r06,g24,h⟩:=ab h
    simp(config:=cS)only[go_sem,h2,h3,h4,h6,h7,h8,eqF h9,eqT h18,eZf h19,h21,h22,h23]
    refine ag (io g24) ?_
    obtain ⟨h25,h⟩|⟨h25,h⟩:=af h
    ·cases h
     simp(config:=cS)only[go_sem,eqT h25]
    ·cases h
     simp(config:=cS)only[go_sem,eqF h25]
  ·obtain ⟨r07,g26,h⟩:=ab h
   simp(config:=cS)only[go_sem,h2,h3,h4,h6,h7,h8,eqF h9,eqF h18]
   refine ag (cn g26) ?_
   cases h
   simp(config:=cS)only[go_sem]
def og (a:List GTie)(e:Int)(f:List GNode)(g b:Int)(c d:List Int)(h:Int):St:=⟨[(2,.ptr 128 1 0 0),(3,.ptr 192 1 0 0),(10,.sl (ae GTie.enc a)),(11,.lit (.int .i64 e)),(12,.lit (.int .i64 h))],[(128,1,.var [.sl (ae GNode.encS f),.sl (ae GTie.enc a),.lit (.int .i64 g)]),(192,1,.var [.lit (.int .i64 b),.sl (ae eI c),.sl (ae eI d)])],2⟩
attribute [go_sem] og
def oh (a:List GNode)(e:Int)(f:List GTie)(g b:Int)(c d:List Int)(h:Int):St:=⟨[(2,.ptr 128 1 0 0),(3,.ptr 192 1 0 0),(22,.sl (ae GNode.encS a)),(23,.lit (.int .i64 e)),(24,.lit (.int .i64 h))],[(128,1,.var [.sl (ae GNode.encS a),.sl (ae GTie.enc f),.lit (.int .i64 g)]),(192,1,.var [.lit (.int .i64 b),.sl (ae eI c),.sl (ae eI d)])],2⟩
attribute [go_sem] oh
attribute [go_sem] Tryz.ntmps178 Tryz.results178
theorem ul {s:GShow}{v1:GState}{res:Bool}(h:gJ s v1=some res):am Tryz.prog 178 [.agg (GShow.encS s),.agg (GState.encS v1)] [] (.lit (.bool res)) []:=by
 refine ai (ra:=[]) (md:=mdT) hT (hi:=hi00) Tryz.func178 rfl rfl (by decide +kernel) (by simp) ?_
 unfold gJ at h
 obtain ⟨q07,l1,h⟩:=ab h
 simp(config:=cS)only[go_sem]
 refine al (m1:=.mk) (m2:=.mk) [.nf [2,3,10,11,12] [128,192]] (og s.ties ((s.ties.length:Nat):Int) s.nodes s.horizon v1.now v1.times v1.values) l1 ?_ ?_
 ·simp(config:=cS)only[go_sem]
 ·intro nb2 v12_1 bb2 b2 gb2
  unfold dT at b2
  try dsimp only at b2
  obtain ⟨h3,b2⟩|⟨h3,b2⟩:=af b2
  ·obtain ⟨x01,g4,b2⟩:=ab b2
   obtain ⟨h5,h6,h7⟩:=aj g4
   obtain ⟨r02,g8,b2⟩:=ab b2
   simp(config:=cS)only[go_sem,eqT h3,h5,h6,h7]
   refine ag (Cj g8) ?_
   obtain ⟨h9,b2⟩|⟨h9,b2⟩:=af b2
   ·cases b2
    obtain rfl:=(ak gb2).symm
    try dsimp only at h
    cases h
    simp(config:=cS)only[go_sem,eZt h9]
   ·cases b2
    simp(config:=cS)only[go_sem,eZf h9]
    refine aq gb2 ?_
    simp(config:=cS)only[go_sem]
  ·cases b2
   obtain rfl:=(ak gb2).symm
   try dsimp only at h
   obtain ⟨q06,l12,h⟩:=ab h
   simp(config:=cS)only[go_sem,eqF h3]
   refine al (m1:=.mk) (m2:=.mk) [.nf [2,3,22,23,24] [128,192]] (oh s.nodes ((s.nodes.length:Nat):Int) s.ties s.horizon v1.now v1.times v1.values) l12 ?_ ?_
   ·simp(config:=cS)only[go_sem]
   ·intro nb13 v24_2 bb13 b13 gb13
    unfold bJ at b13
    try dsimp only at b13
    obtain ⟨h14,b13⟩|⟨h14,b13⟩:=af b13
    ·obtain ⟨x03,g15,b13⟩:=ab b13
     obtain ⟨h16,h17,h18⟩:=aj g15
     obtain ⟨h19,b13⟩|⟨h19,b13⟩:=af b13
     ·obtain ⟨x04,g20,b13⟩:=ab b13
      obtain ⟨h21,h22,h23⟩:=aj g20
      obtain ⟨h24,b13⟩|⟨h24,b13⟩:=af b13
      ·obtain ⟨r05,g25,b13⟩:=ab b13
       simp(config:=cS)only[go_sem,eqT h14,h16,h17,h18,eqT h19,h21,h22,h23,eqT h24]
       refine ag (io g25) ?_
       obtain ⟨h26,b13⟩|⟨h26,b13⟩:=af b13
       ·cases b13
        obtain rfl:=(ak gb13).symm
        try dsimp only at h
        cases h
        simp(config:=cS)only[go_sem,eqT h26]
       ·cases b13
        simp(config:=cS)only[go_sem,eqF h26]
        refine aq gb13 ?_
        simp(config:=cS)only[go_sem]
      ·cases b13
       simp(config:=cS)only[go_sem,eqT h14,h16,h17,h18,eqT h19,h21,h22,h23,eqF h24]
       refine aq gb13 ?_
       simp(config:=cS)only[go_sem]
     ·cases b13
      simp(config:=cS)only[go_sem,eqT h14,h16,h17,h18,eqF h19]
      refine aq gb13 ?_
      simp(config:=cS)only[go_sem]
    ·cases b13
     obtain rfl:=(ak gb13).symm
     try dsimp only at h
     cases h
     simp(config:=cS)only[go_sem,eqF h14]
def qt (e:List GNode)(f a:Int)(b c:List Int)(d:Int):St:=⟨[(3,.ptr 192 1 0 0),(8,.sl (ae GNode.encS e)),(9,.lit (.int .i64 f)),(10,.lit (.int .i64 d))],[(192,1,.var [.lit (.int .i64 a),.sl (ae eI b),.sl (ae eI c)])],2⟩
attribute [go_sem] qt
attribute [go_sem] Tryz.ntmps179 Tryz.results179
theorem vS {s:GShow}{v1:GState}{res:Bool}(h:jp s v1=some res):am Tryz.prog 179 [.agg (GShow.encS s),.agg (GState.encS v1)] [] (.lit (.bool res)) []:=by
 refine ai (ra:=[]) (md:=mdT) hT (hi:=hi00) Tryz.func179 rfl rfl (by decide +kernel) (by simp) ?_
 unfold jp at h
 obtain ⟨q04,l1,h⟩:=ab h
 simp(config:=cS)only[go_sem]
 refine al (m1:=.mk) (m2:=.mk) [.nf [3,8,9,10] [192]] (qt s.nodes ((s.nodes.length:Nat):Int) v1.now v1.times v1.values) l1 ?_ ?_
 ·simp(config:=cS)only[go_sem]
 ·intro nb2 v10_1 bb2 b2 gb2
  unfold fN at b2
  try dsimp only at b2
  obtain ⟨h3,b2⟩|⟨h3,b2⟩:=af b2
  ·obtain ⟨x01,g4,b2⟩:=ab b2
   obtain ⟨h5,h6,h7⟩:=aj g4
   obtain ⟨x02,g8,b2⟩:=ab b2
   obtain ⟨h9,h10,h11⟩:=aj g8
   obtain ⟨h12,b2⟩|⟨h12,b2⟩:=af b2
   ·obtain ⟨r03,g13,b2⟩:=ab b2
    simp(config:=cS)only[go_sem,eqT h3,h5,h6,h7,h9,h10,h11,eqT h12]
    refine ag (io g13) ?_
    obtain ⟨h14,b2⟩|⟨h14,b2⟩:=af b2
    ·cases b2
     obtain rfl:=(ak gb2).symm
     try dsimp only at h
     cases h
     simp(config:=cS)only[go_sem,eqT h14]
    ·cases b2
     simp(config:=cS)only[go_sem,eqF h14]
     refine aq gb2 ?_
     simp(config:=cS)only[go_sem]
   ·cases b2
    simp(config:=cS)only[go_sem,eqT h3,h5,h6,h7,h9,h10,h11,eqF h12]
    refine aq gb2 ?_
    simp(config:=cS)only[go_sem]
  ·cases b2
   obtain rfl:=(ak gb2).symm
   try dsimp only at h
   cases h
   simp(config:=cS)only[go_sem,eqF h3]
def pF (a b:List Int)(c:Int)(d:List GNode)(e:List GTie)(f g:Int)(h i:List Int)(j:Bool)(k:List GEntry)(l:Int):St:=⟨[(1,.sl (ae eI a)),(3,.ptr 192 1 0 0),(6,.ptr 384 1 0 0),(21,.sl (ae eI b)),(22,.lit (.int .i64 c)),(23,.lit (.int .i64 l))],[(192,1,.var [.sl (ae GNode.encS d),.sl (ae GTie.enc e),.lit (.int .i64 f),.lit (.int .i64 g),.sl (ae eI h),.sl (ae eI i),.lit (.bool j),.sl (ae GEntry.encS k)]),(384,1,.var [.lit (.int .i64 0),.lit (.slice none 0 0),.lit (.slice none 0 0)])],2⟩
attribute [go_sem] pF
attribute [go_sem] Tryz.ntmps108 Tryz.results108
theorem AT {d:GDesk}{ties values:List Int}{res:GState × Int}(h:kz d ties values=some res):am Tryz.prog 108 [.agg (GDesk.encS d),.sl (ae eI ties),.sl (ae eI values)] [] (.tup [.agg [.lit (.int .i64 res.1.now),.ref 20000 1 0 res.1.times.length,.ref 20001 1 0 res.1.values.length],.lit (.int .i64 res.2)]) [(20000,1,.row true (ae eI res.1.times)),(20001,1,.row true (ae eI res.1.values))]:=by
 refine ai (ra:=[.homeCell 384 1,.homeCell 384 2]) (md:=mdT) hT (hi:=hi00) Tryz.func108 rfl rfl (by decide +kernel) (by simp) ?_
 unfold kz at h
 obtain ⟨r01,g1,h⟩:=ab h
 simp(config:=cS)only[go_sem]
 refine ag (DA g1) ?_
 obtain ⟨h2,h⟩|⟨h2,h⟩:=af h
 ·obtain ⟨h3,h⟩|⟨h3,h⟩:=af h
  ·obtain ⟨q06,l4,h⟩:=ab h
   simp(config:=cS)only[go_sem,eZt h2,eqT h3]
   refine al (m1:=.mk) (m2:=.mk) [.nf [1,3,6,21,22,23] [192,384]] (pF ties values ((values.length:Nat):Int) d.show_.nodes d.show_.ties d.show_.horizon d.state.now d.state.times d.state.values d.lazy d.log) l4 ?_ ?_
   ·simp(config:=cS)only[go_sem,eZt h2,eqT h3]
   ·intro nb5 v23_1 bb5 b5 gb5
    unfold eU at b5
    try dsimp only at b5
    obtain ⟨h6,b5⟩|⟨h6,b5⟩:=af b5
    ·obtain ⟨x02,g7,b5⟩:=ab b5
     obtain ⟨h8,h9,h10⟩:=aj g7
     obtain ⟨h11,b5⟩|⟨h11,b5⟩:=af b5
     ·cases b5
      simp(config:=cS)only[go_sem,eZt h2,eqT h3,eqT h6,h8,h9,h10,eqT h11]
      refine aq gb5 ?_
      simp(config:=cS)only[go_sem,eZt h2,eqT h3,eqT h6,h8,h9,h10,eqT h11]
     ·obtain ⟨h12,b5⟩|⟨h12,b5⟩:=af b5
      ·cases b5
       simp(config:=cS)only[go_sem,eZt h2,eqT h3,eqT h6,h8,h9,h10,eqF h11,eqT h12]
       refine aq gb5 ?_
       simp(config:=cS)only[go_sem,eZt h2,eqT h3,eqT h6,h8,h9,h10,eqF h11,eqT h12]
      ·cases b5
       obtain rfl:=(ak gb5).symm
       try dsimp only at h
       cases h
       simp(config:=cS)only[go_sem,eZt h2,eqT h3,eqT h6,h8,h9,h10,eqF h11,eqF h12]
    ·cases b5
     obtain rfl:=(ak gb5).symm
     try dsimp only at h
     obtain ⟨r03,g15,h⟩:=ab h
     simp(config:=cS)only[go_sem,eZt h2,eqT h3,eqF h6]
     refine ag (ul g15) ?_
     obtain ⟨h16,h⟩|⟨h16,h⟩:=af h
     ·cases h
      simp(config:=cS)only[go_sem,eZt h2,eqT h3,eqF h6,eZt h16]
     ·obtain ⟨r04,g17,h⟩:=ab h
      simp(config:=cS)only[go_sem,eZt h2,eqT h3,eqF h6,eZf h16]
      refine ag (vS g17) ?_
      obtain ⟨h18,h⟩|⟨h18,h⟩:=af h
      ·cases h
       simp(config:=cS)only[go_sem,eZt h2,eqT h3,eqF h6,eZf h16,eZt h18]
      ·obtain ⟨h19,h⟩|⟨h19,h⟩:=af h
       ·cases h
        simp(config:=cS)only[go_sem,eZt h2,eqT h3,eqF h6,eZf h16,eZf h18,eqT h19]
       ·obtain ⟨r05,g20,h⟩:=ab h
        simp(config:=cS)only[go_sem,eZt h2,eqT h3,eqF h6,eZf h16,eZf h18,eqF h19]
        refine ag (rn g20) ?_
        obtain ⟨h21,h⟩|⟨h21,h⟩:=af h
        ·cases h
         simp(config:=cS)only[go_sem,eZt h2,eqT h3,eqF h6,eZf h16,eZf h18,eqF h19,eZt h21]
        ·cases h
         simp(config:=cS)only[go_sem,eZt h2,eqT h3,eqF h6,eZf h16,eZf h18,eqF h19,eZf h21]
  ·cases h
   simp(config:=cS)only[go_sem,eZt h2,eqF h3]
 ·cases h
  simp(config:=cS)only[go_sem,eZf h2]
def ol (c:List GNode)(h:Int)(i:List GTie)(j e:Int)(f g:List Int):(Int × (List Int) × (List Int) × (List Bool))→St
 | (k,d,a,b)=>⟨[(2,.ptr 128 1 0 0),(3,.ptr 192 1 0 0),(7,.ref 832 1 0 d.length),(8,.ref 896 1 0 a.length),(9,.ref 960 1 0 b.length),(17,.sl (ae GNode.encS c)),(18,.lit (.int .i64 h)),(19,.lit (.int .i64 k))],[(128,1,.var [.sl (ae GNode.encS c),.sl (ae GTie.enc i),.lit (.int .i64 j)]),(192,1,.var [.lit (.int .i64 e),.sl (ae eI f),.sl (ae eI g)]),(832,1,.row true (ae eI d)),(896,1,.row true (ae eI a)),(960,1,.row true (ae eB b))],2⟩
attribute [go_sem] ol
attribute [go_sem] Tryz.ntmps274 Tryz.results274
theorem zC {s:GShow}{v1:GState}{res:(List Int) × (List Int) × (List Bool)}(h:jI s v1=some res):am Tryz.prog 274 [.agg (GShow.encS s),.agg (GState.encS v1)] [] (.tup [.ref 20000 1 0 res.1.length,.ref 20001 1 0 res.2.1.length,.ref 20002 1 0 res.2.2.length]) [(20000,1,.row true (ae eI res.1)),(20001,1,.row true (ae eI res.2.1)),(20002,1,.row true (ae eB res.2.2))]:=by
 refine ai (ra:=[.home 4,.home 5,.home 6]) (md:=mdT) hT (hi:=hi00) Tryz.func274 rfl rfl (by decide +kernel) (by simp) ?_
 unfold jI at h
 obtain ⟨q04,l1,h⟩:=ab h
 simp(config:=cS)only[go_sem]
 refine al (m1:=.mk) (m2:=.mk) [.nf [2,3,7,8,9,17,18,19] [128,192,832,896,960]] (ol s.nodes ((s.nodes.length:Nat):Int) s.ties s.horizon v1.now v1.times v1.values) l1 ?_ ?_
 ·simp(config:=cS)only[go_sem]
 ·intro nb2 sb2 bb2 b2 gb2
  obtain ⟨v19_1,low_1,high_1,sure_1⟩:=sb2
  unfold gn at b2
  try dsimp only at b2
  obtain ⟨h3,b2⟩|⟨h3,b2⟩:=af b2
  ·obtain ⟨x01,g4,b2⟩:=ab b2
   obtain ⟨h5,h6,h7⟩:=aj g4
   obtain ⟨x02,g8,b2⟩:=ab b2
   obtain ⟨h9,h10,h11⟩:=aj g8
   obtain ⟨r03,g12,b2⟩:=ab b2
   simp(config:=cS)only[go_sem,eqT h3,h5,h6,h7,h9,h10,h11]
   refine ag (io g12) ?_
   obtain ⟨h13,b2⟩:=ah b2
   obtain ⟨h14,b2⟩:=ah b2
   obtain ⟨h15,b2⟩|⟨h15,b2⟩:=af b2
   ·obtain ⟨h16,b2⟩:=ah b2
    obtain ⟨h17,b2⟩:=ah b2
    obtain ⟨h18,b2⟩:=ah b2
    obtain ⟨h19,b2⟩:=ah b2
    cases b2
    simp(config:=cS)only[go_sem,eqT h13,eqT h14,eqT h15,eqT h16,eqT h17,eqT h18,eqT h19]
    refine aq gb2 ?_
    simp(config:=cS)only[go_sem]
   ·obtain ⟨h20,b2⟩:=ah b2
    obtain ⟨h21,b2⟩:=ah b2
    obtain ⟨h22,b2⟩:=ah b2
    obtain ⟨h23,b2⟩:=ah b2
    cases b2
    simp(config:=cS)only[go_sem,eqT h13,eqT h14,eqF h15,eqT h20,eqT h21,eqT h22,eqT h23]
    refine aq gb2 ?_
    simp(config:=cS)only[go_sem]
  ·cases b2
   obtain rfl:=(ak gb2).symm
   try dsimp only at h
   cases h
   simp(config:=cS)only[go_sem,eqF h3]
def mO (c:Int)(d:List GTie)(f:Int)(g:List GNode)(h:Int)(a:List Bool):(Int × (List Int) × (List Int))→St
 | (i,e,b)=>⟨[(2,.ptr 128 1 0 0),(5,.ref 960 1 0 e.length),(6,.ref 961 1 0 b.length),(7,.ref 962 1 0 a.length),(8,.lit (.int .i64 c)),(27,.sl (ae GTie.enc d)),(28,.lit (.int .i64 f)),(29,.lit (.int .i64 i))],[(128,1,.var [.sl (ae GNode.encS g),.sl (ae GTie.enc d),.lit (.int .i64 h)]),(960,1,.row true (ae eI e)),(961,1,.row true (ae eI b)),(962,1,.row true (ae eB a))],2⟩
attribute [go_sem] mO
def mP (e:List GNode)(f:List GTie)(g:Int)(a:List Bool):(Int × (List Int) × (List Int))→St
 | (c,d,b)=>⟨[(2,.ptr 128 1 0 0),(5,.ref 960 1 0 d.length),(6,.ref 961 1 0 b.length),(7,.ref 962 1 0 a.length),(8,.lit (.int .i64 c))],[(128,1,.var [.sl (ae GNode.encS e),.sl (ae GTie.enc f),.lit (.int .i64 g)]),(960,1,.row true (ae eI d)),(961,1,.row true (ae eI b)),(962,1,.row true (ae eB a))],2⟩
attribute [go_sem] mP
def mQ (d:Int)(c a:List Int)(b:List Bool)(e:Int):St:=⟨[(5,.ref 960 1 0 c.length),(6,.ref 961 1 0 a.length),(7,.ref 962 1 0 b.length),(121,.lit (.int .i64 d)),(122,.lit (.int .i64 e))],[(960,1,.row true (ae eI c)),(961,1,.row true (ae eI a)),(962,1,.row true (ae eB b))],2⟩
attribute [go_sem] mQ
@[go_sem] def hi262_17:DT:=.i2 0 (.i2 1 (.i2 2 (.i2 3 (.i2 4 (.i2 5 (.i2 6 (.i2 7 (.i2 8 (.i2 9 (.i2 10 (.i2 11 (.i2 12 (.i2 13 (.i2 14 .nil))))))))))))))
@[go_sem] def hi262_12:DT:=.i2 0 (.i2 1 (.i2 2 (.i2 3 (.i2 4 (.i2 5 (.i2 6 (.i2 7 (.i2 8 (.i2 9 (.i2 10 (.i2 11 (.i2 12 (.i2 13 (.i2 14 (.i2 15 (.i2 16 (.i2 17 (.i2 18 .nil))))))))))))))))))
@[go_sem] def hi262_11:DT:=.i2 0 (.i2 1 (.i2 2 (.i2 3 (.i2 4 (.i2 5 (.i2 6 (.i2 7 (.i2 8 (.i2 9 (.i2 10 (.i2 11 (.i2 12 (.i2 13 (.i2 14 (.i2 15 (.i2 16 (.i2 17 (.i2 18 .nil))))))))))))))))))
@[go_sem] def hi262_10:DT:=.i2 0 (.i2 1 (.i2 2 (.i2 3 (.i2 4 (.i2 5 (.i2 6 (.i2 7 (.i2 8 (.i2 9 (.i2 10 (.i2 11 (.i2 12 (.i2 13 (.i2 14 (.i2 15 (.i2 16 (.i2 17 (.i2 18 .nil))))))))))))))))))
@[go_sem] def hi262_9:DT:=.i2 0 (.i2 1 (.i2 2 (.i2 3 (.i2 4 (.i2 5 (.i2 6 (.i2 7 (.i2 8 (.i2 9 (.i2 10 (.i2 11 (.i2 12 (.i2 13 (.i2 14 (.i2 15 (.i2 16 (.i2 17 (.i2 18 .nil))))))))))))))))))
def va:Hint where
 acts:=fun _=>[]
 draws:=fun
  | 9=>⟨hi262_9,[[],[],[1],[],[],[4],[3,4,5],[3,4,5,6],[],[],[9],[8,9,10],[8,9,10,11],[],[13],[8,9,10,11,12,13,14],[3,4,5,6,7,8,9,10,11,12,13,14,15],.range 17,.range 18],.range 19⟩
  | 10=>⟨hi262_10,[[],[],[1],[],[],[4],[3,4,5],[3,4,5,6],[],[],[9],[8,9,10],[8,9,10,11],[],[13],[8,9,10,11,12,13,14],[3,4,5,6,7,8,9,10,11,12,13,14,15],.range 17,.range 18],.range 19⟩
  | 11=>⟨hi262_11,[[],[],[1],[],[],[4],[3,4,5],[3,4,5,6],[],[],[9],[8,9,10],[8,9,10,11],[],[13],[8,9,10,11,12,13,14],[3,4,5,6,7,8,9,10,11,12,13,14,15],.range 17,.range 18],.range 19⟩
  | 12=>⟨hi262_12,[[],[],[1],[],[],[4],[3,4,5],[3,4,5,6],[],[],[9],[8,9,10],[8,9,10,11],[],[13],[8,9,10,11,12,13,14],[3,4,5,6,7,8,9,10,11,12,13,14,15],.range 17,.range 18],.range 19⟩
  | 17=>⟨hi262_17,[[],[],[0,1],[0,1,2],[0,1,2,3],.range 5,.range 5,.range 7,.range 8,.range 5,.range 5,[0,1,2,3,4,9,10],[0,1,2,3,4,9,10,11],.range 13,.range 14],.range 15⟩
  | _=>⟨.nil,[],[]⟩
theorem NR (i:Nat):va.acts i=[]:=rfl
theorem NS (i:Nat):va.views i=none:=rfl
attribute [go_sem] NR NS Tryz.ntmps262 Tryz.results262
@[go_sem] theorem RC:(va.draws 9).order=hi262_9:=rfl
@[go_sem] theorem Rj:(va.draws 10).order=hi262_10:=rfl
@[go_sem] theorem Rk:(va.draws 11).order=hi262_11:=rfl
@[go_sem] theorem Rl:(va.draws 12).order=hi262_12:=rfl
@[go_sem] theorem Rm:(va.draws 17).order=hi262_17:=rfl
theorem xF {s:GShow}{v1:GState}{res:Bool}(h:ik s v1=some res):am Tryz.prog 262 [.agg (GShow.encS s),.agg (GState.encS v1)] [] (.lit (.bool res)) []:=by
 refine ai (ra:=[]) (md:=mdT) hT (hi:=va) Tryz.func262 rfl rfl (by decide +kernel) (by simp) ?_
 unfold ik at h
 obtain ⟨r01,g1,h⟩:=ab h
 simp(config:=cS)only[go_sem]
 refine ag (zC g1) ?_
 obtain ⟨q18,l2,h⟩:=ab h
 simp(config:=cS)only[go_sem]
 refine al (m1:=.mk) (m2:=.mk) [.nf [2,5,6,7,8] [128,960,961,962]] (mP s.nodes s.ties s.horizon r01.2.2) l2 ?_ ?_
 ·simp(config:=cS)only[go_sem]
 ·intro nb3 sb3 bb3 b3 gb3
  obtain ⟨round_1,low_1,high_1⟩:=sb3
  unfold eW at b3
  try dsimp only at b3
  obtain ⟨h4,b3⟩|⟨h4,b3⟩:=af b3
  ·obtain ⟨q13,l5,b3⟩:=ab b3
   simp(config:=cS)only[go_sem,eqT h4]
   refine al (m1:=.mk) (m2:=.mk) [.nf [2,5,6,7,8,27,28,29] [128,960,961,962]] (mO round_1 s.ties ((s.ties.length:Nat):Int) s.nodes s.horizon r01.2.2) l5 ?_ ?_
   ·simp(config:=cS)only[go_sem]
   ·intro nb6 sb6 bb6 b6 gb6
    obtain ⟨v29_2,low_2,high_2⟩:=sb6
    unfold eV at b6
    try dsimp only at b6
    obtain ⟨h7,b6⟩|⟨h7,b6⟩:=af b6
    ·obtain ⟨x02,g8,b6⟩:=ab b6
     obtain ⟨h9,h10,h11⟩:=aj g8
     obtain ⟨x03,g12,b6⟩:=ab b6
     obtain ⟨h13,h14,h15⟩:=aj g12
     obtain ⟨h16,b6⟩|⟨h16,b6⟩:=af b6
     ·obtain ⟨x04,g17,b6⟩:=ab b6
      obtain ⟨h18,h19,h20⟩:=aj g17
      obtain ⟨h21,b6⟩|⟨h21,b6⟩:=af b6
      ·obtain ⟨x05,g22,b6⟩:=ab b6
       obtain ⟨h23,h24,h25⟩:=aj g22
       obtain ⟨x06,g26,b6⟩:=ab b6
       obtain ⟨h27,h28,h29⟩:=aj g26
       obtain ⟨x07,g30,b6⟩:=ab b6
       obtain ⟨h31,h32,h33⟩:=aj g30
       obtain ⟨x08,g34,b6⟩:=ab b6
       obtain ⟨h35,h36,h37⟩:=aj g34
       obtain ⟨x09,g38,b6⟩:=ab b6
       obtain ⟨h39,h40,h41⟩:=aj g38
       obtain ⟨x10,g42,b6⟩:=ab b6
       obtain ⟨h43,h44,h45⟩:=aj g42
       obtain ⟨x11,g46,b6⟩:=ab b6
       obtain ⟨h47,h48,h49⟩:=aj g46
       obtain ⟨x12,g50,b6⟩:=ab b6
       obtain ⟨h51,h52,h53⟩:=aj g50
       cases b6
       simp(config:=cS)only[go_sem,eqT h7,h9,h10,h11,h13,h14,h15,eZt h16,h18,h19,h20,eZt h21,h23,h24,h25,h27,h28,h29,h31,h32,h33,h35,h36,h37,h39,h40,h41,h43,h44,h45,h47,h48,h49,h51,h52,h53]
       refine aq gb6 ?_
       simp(config:=cS)only[go_sem]
      ·cases b6
       simp(config:=cS)only[go_sem,eqT h7,h9,h10,h11,h13,h14,h15,eZt h16,h18,h19,h20,eZf h21]
       refine aq gb6 ?_
       simp(config:=cS)only[go_sem]
     ·cases b6
      simp(config:=cS)only[go_sem,eqT h7,h9,h10,h11,h13,h14,h15,eZf h16]
      refine aq gb6 ?_
      simp(config:=cS)only[go_sem]
    ·cases b6
     obtain rfl:=(ak gb6).symm
     try dsimp only at b3
     cases b3
     simp(config:=cS)only[go_sem,eqF h7]
     refine aq gb3 ?_
     simp(config:=cS)only[go_sem]
  ·cases b3
   obtain rfl:=(ak gb3).symm
   try dsimp only at h
   obtain ⟨q17,l56,h⟩:=ab h
   simp(config:=cS)only[go_sem,eqF h4]
   refine al (m1:=.mk) (m2:=.mk) [.nf [5,6,7,121,122] [960,961,962]] (mQ ((low_1.length:Nat):Int) low_1 high_1 r01.2.2) l56 ?_ ?_
   ·simp(config:=cS)only[go_sem]
   ·intro nb57 v122_3 bb57 b57 gb57
    unfold eX at b57
    try dsimp only at b57
    obtain ⟨h58,b57⟩|⟨h58,b57⟩:=af b57
    ·obtain ⟨x14,g59,b57⟩:=ab b57
     obtain ⟨h60,h61,h62⟩:=aj g59
     obtain ⟨h63,b57⟩|⟨h63,b57⟩:=af b57
     ·obtain ⟨x15,g64,b57⟩:=ab b57
      obtain ⟨h65,h66,h67⟩:=aj g64
      obtain ⟨x16,g68,b57⟩:=ab b57
      obtain ⟨h69,h70,h71⟩:=aj g68
      obtain ⟨h72,b57⟩|⟨h72,b57⟩:=af b57
      ·cases b57
       obtain rfl:=(ak gb57).symm
       try dsimp only at h
       cases h
       simp(config:=cS)only[go_sem,eqT h58,h60,h61,h62,eZt h63,h65,h66,h67,h69,h70,h71,eqT h72]
      ·cases b57
       simp(config:=cS)only[go_sem,eqT h58,h60,h61,h62,eZt h63,h65,h66,h67,h69,h70,h71,eqF h72]
       refine aq gb57 ?_
       simp(config:=cS)only[go_sem]
     ·cases b57
      simp(config:=cS)only[go_sem,eqT h58,h60,h61,h62,eZf h63]
      refine aq gb57 ?_
      simp(config:=cS)only[go_sem]
    ·cases b57
     obtain rfl:=(ak gb57).symm
     try dsimp only at h
     cases h
     simp(config:=cS)only[go_sem,eqF h58]
def lJ (a:List Int)(b c:Int):St:=⟨[(0,.sl (ae eI a)),(9,.sl (ae eI a)),(10,.lit (.int .i64 b)),(11,.lit (.int .i64 c))],[],2⟩
attribute [go_sem] lJ
def lK (a:List Int)(n c:Int)(b:List (List Int)):(Int × (List Int))→St
 | (d,l)=>⟨[(0,.sl (ae eI a)),(5,.ref 2112 1 0 b.length),(6,.lit (.int .i64 n)),(7,.ref 2688 1 0 l.length),(44,.lit (.int .i64 c)),(45,.lit (.int .i64 d))],[(2112,1,.row true (ae (eLO eI) b)),(2688,1,.row true (ae eI l))],2⟩
attribute [go_sem] lK
def lL (a:List Int):(Int × (List (List Int)))→St
 | (n,b)=>⟨[(0,.sl (ae eI a)),(5,.ref 2112 1 0 b.length),(6,.lit (.int .i64 n))],[(2112,1,.row true (ae (eLO eI) b))],2⟩
attribute [go_sem] lL
attribute [go_sem] Tryz.ntmps236 Tryz.results236
theorem vT {props:List Int}{res:List (List Int)}(h:eY props=some res):am Tryz.prog 236 [.sl (ae eI props)] [] (.ref 20000 1 0 res.length) [(20000,1,.row true (ae (eLO eI) res))]:=by
 refine ai (ra:=[.home 2]) (md:=mdT) hT (hi:=hi00) Tryz.func236 rfl rfl (by decide +kernel) (by simp) ?_
 unfold eY at h
 obtain ⟨q06,l1,h⟩:=ab h
 simp(config:=cS)only[go_sem]
 refine al (m1:=.mk) (m2:=.mk) [.nf [0,9,10,11] []] (lJ props ((props.length:Nat):Int)) l1 ?_ ?_
 ·simp(config:=cS)only[go_sem]
 ·intro nb2 v11_1 bb2 b2 gb2
  unfold de at b2
  try dsimp only at b2
  obtain ⟨h3,b2⟩|⟨h3,b2⟩:=af b2
  ·obtain ⟨x01,g4,b2⟩:=ab b2
   obtain ⟨h5,h6,h7⟩:=aj g4
   obtain ⟨r02,g8,b2⟩:=ab b2
   simp(config:=cS)only[go_sem,eqT h3,h5,h6,h7]
   refine ag (cn g8) ?_
   obtain ⟨h9,b2⟩|⟨h9,b2⟩:=af b2
   ·obtain ⟨h10,b2⟩|⟨h10,b2⟩:=af b2
    ·obtain ⟨x03,g11,b2⟩:=ab b2
     obtain ⟨h12,h13,h14⟩:=aj g11
     obtain ⟨h15,b2⟩|⟨h15,b2⟩:=af b2
     ·cases b2
      obtain rfl:=(ak gb2).symm
      try dsimp only at h
      cases h
      simp(config:=cS)only[go_sem,eZt h9,eqT h10,h12,h13,h14,eqT h15]
     ·cases b2
      simp(config:=cS)only[go_sem,eZt h9,eqT h10,h12,h13,h14,eqF h15]
      refine aq gb2 ?_
      simp(config:=cS)only[go_sem]
    ·cases b2
     simp(config:=cS)only[go_sem,eZt h9,eqF h10]
     refine aq gb2 ?_
     simp(config:=cS)only[go_sem]
   ·cases b2
    obtain rfl:=(ak gb2).symm
    try dsimp only at h
    cases h
    simp(config:=cS)only[go_sem,eZf h9]
  ·cases b2
   obtain rfl:=(ak gb2).symm
   try dsimp only at h
   obtain ⟨q05,l19,h⟩:=ab h
   simp(config:=cS)only[go_sem,eqF h3]
   refine al (m1:=.mk) (m2:=.mk) [.nf [0,5,6] [2112]] (lL props) l19 ?_ ?_
   ·simp(config:=cS)only[go_sem]
   ·intro nb20 sb20 bb20 b20 gb20
    obtain ⟨n_2,out_2⟩:=sb20
    unfold dg at b20
    try dsimp only at b20
    obtain ⟨h21,b20⟩:=ah b20
    obtain ⟨h22,b20⟩|⟨h22,b20⟩:=af b20
    ·obtain ⟨q04,l23,b20⟩:=ab b20
     simp(config:=cS)only[go_sem,eqF h21,eqT h22]
     refine al (m1:=.mk) (m2:=.mk) [.nf [0,5,6,7,44,45] [2112,2688]] (lK props n_2 ((props.length:Nat):Int) out_2) l23 ?_ ?_
     ·simp(config:=cS)only[go_sem]
     ·intro nb24 sb24 bb24 b24 gb24
      obtain ⟨v45_3,l_3⟩:=sb24
      unfold df at b24
      try dsimp only at b24
      obtain ⟨h25,b24⟩|⟨h25,b24⟩:=af b24
      ·obtain ⟨h26,b24⟩:=ah b24
       obtain ⟨h27,b24⟩:=ah b24
       obtain ⟨h28,b24⟩:=ah b24
       cases b24
       simp(config:=cS)only[go_sem,eqT h25,eqF h26,eqT h27,eqT h28]
       refine aq gb24 ?_
       simp(config:=cS)only[go_sem]
      ·cases b24
       obtain rfl:=(ak gb24).symm
       try dsimp only at b20
       obtain ⟨h30,b20⟩:=ah b20
       obtain ⟨h31,b20⟩:=ah b20
       cases b20
       simp(config:=cS)only[go_sem,eqF h25,eqT h30,eqT h31]
       refine aq gb20 ?_
       simp(config:=cS)only[go_sem]
    ·cases b20
     obtain rfl:=(ak gb20).symm
     try dsimp only at h
     cases h
     simp(config:=cS)only[go_sem,eqF h21,eqF h22]
def qu (e:Int)(f:List GNode)(g:List GTie)(h i:Int)(b c a:List Int)(d:List (List Int))(j:Int):St:=⟨[(3,.ptr 192 1 0 0),(7,.ptr 448 1 0 0),(8,.ref 962 1 0 a.length),(19,.ref 1216 1 0 d.length),(20,.lit (.int .i64 e)),(21,.lit (.int .i64 j))],[(192,1,.var [.sl (ae GNode.encS f),.sl (ae GTie.enc g),.lit (.int .i64 h)]),(448,1,.var [.lit (.int .i64 i),.ref 960 1 0 b.length,.ref 961 1 0 c.length]),(960,1,.row true (ae eI b)),(961,1,.row true (ae eI c)),(962,1,.row true (ae eI a)),(1216,1,.tree (ae (eLS eI) d))],2⟩
attribute [go_sem] qu
@[go_sem] def hi191_5:DT:=.i1 0 (.i2 1 (.i2 2 (.i2 3 (.i0 4 [0] (.i2 5 (.i2 6 .nil))))))
def Er:Hint where
 acts:=fun _=>[]
 draws:=fun
  | 5=>⟨hi191_5,[[],[],[],[],[1,2,3],.range 5,.range 6],.range 7⟩
  | _=>⟨.nil,[],[]⟩
@[go_sem] theorem SW (i:Nat):Er.acts i=[]:=rfl
theorem NT (i:Nat):Er.views i=none:=rfl
attribute [go_sem] NT Tryz.ntmps191 Tryz.results191
@[go_sem] theorem RD:(Er.draws 5).order=hi191_5:=rfl
theorem um {rec:GShow→GState→Option Bool}(hrec:∀ {s:GShow} {v1:GState} {res:Bool},rec s v1=some res→am Tryz.prog 237 [.agg (GShow.encS s),.agg (GState.encS v1)] [] (.lit (.bool res)) []){s:GShow}{v1:GState}{nodes:List Int}{res:Bool}(h:gK rec s v1 nodes=some res):am Tryz.prog 191 [.agg (GShow.encS s),.agg (GState.encS v1),.sl (ae eI nodes)] [] (.lit (.bool res)) []:=by
 refine ai (ra:=[]) (md:=mdT) hT (hi:=Er) Tryz.func191 rfl rfl (by decide +kernel) (by simp) ?_
 unfold gK at h
 obtain ⟨r01,g1,h⟩:=ab h
 simp(config:=cS)only[go_sem]
 refine ag (oU g1) ?_
 obtain ⟨r02,g2,h⟩:=ab h
 simp(config:=cS)only[go_sem]
 refine ag (vT g2) ?_
 obtain ⟨q06,l3,h⟩:=ab h
 simp(config:=cS)only[go_sem]
 refine al (m1:=.mk) (m2:=.mk) [.freeze [1216],.nf [3,7,8,19,20,21] [192,448,960,961,962,1216]] (qu ((r02.length:Nat):Int) s.nodes s.ties s.horizon r01.1.now r01.1.times r01.1.values r01.2 r02) l3 ?_ ?_
 ·simp(config:=cS)only[go_sem]
 ·intro nb4 v21_1 bb4 b4 gb4
  unfold iO at b4
  try dsimp only at b4
  obtain ⟨h5,b4⟩|⟨h5,b4⟩:=af b4
  ·obtain ⟨x03,g6,b4⟩:=ab b4
   obtain ⟨h7,h8,h9⟩:=aj g6
   obtain ⟨r04,g10,b4⟩:=ab b4
   simp(config:=cS)only[go_sem,eqT h5,h7,h8,h9]
   refine ag (jt g10) ?_
   obtain ⟨r05,g11,b4⟩:=ab b4
   simp(config:=cS)only[go_sem]
   refine ag (hrec g11) ?_
   obtain ⟨h12,b4⟩|⟨h12,b4⟩:=af b4
   ·cases b4
    simp(config:=cS)only[go_sem,eZt h12]
    refine aq gb4 ?_
    simp(config:=cS)only[go_sem]
   ·cases b4
    obtain rfl:=(ak gb4).symm
    try dsimp only at h
    cases h
    simp(config:=cS)only[go_sem,eZf h12]
  ·cases b4
   obtain rfl:=(ak gb4).symm
   try dsimp only at h
   cases h
   simp(config:=cS)only[go_sem,eqF h5]
def ro (d:List GNode)(e:List GTie)(f a:Int)(b c l:List Int)(n:Int):St:=⟨[(2,.ptr 128 1 0 0),(3,.ptr 192 1 0 0),(5,.ref 576 1 0 l.length),(6,.lit (.int .i64 n))],[(128,1,.var [.sl (ae GNode.encS d),.sl (ae GTie.enc e),.lit (.int .i64 f)]),(192,1,.var [.lit (.int .i64 a),.sl (ae eI b),.sl (ae eI c)]),(576,1,.row true (ae eI l))],2⟩
attribute [go_sem] ro
@[go_sem] def hi263_5:DT:=.i1 0 (.i1 1 (.i2 2 (.i2 3 (.i0 4 [0,1] (.i2 5 .nil)))))
def Es:Hint where
 acts:=fun _=>[]
 draws:=fun
  | 5=>⟨hi263_5,[[],[],[],[],[2,3],.range 5],.range 6⟩
  | _=>⟨.nil,[],[]⟩
theorem NU (i:Nat):Es.acts i=[]:=rfl
theorem NV (i:Nat):Es.views i=none:=rfl
attribute [go_sem] NU NV Tryz.ntmps263 Tryz.results263
@[go_sem] theorem RE:(Es.draws 5).order=hi263_5:=rfl
theorem AU {rec:GShow→GState→Option Bool}(hrec:∀ {s:GShow} {v1:GState} {res:Bool},rec s v1=some res→am Tryz.prog 237 [.agg (GShow.encS s),.agg (GState.encS v1)] [] (.lit (.bool res)) []){s:GShow}{v1:GState}{res:Bool}(h:kA rec s v1=some res):am Tryz.prog 263 [.agg (GShow.encS s),.agg (GState.encS v1)] [] (.lit (.bool res)) []:=by
 refine ai (ra:=[]) (md:=mdT) hT (hi:=Es) Tryz.func263 rfl rfl (by decide +kernel) (by simp) ?_
 unfold kA at h
 obtain ⟨r01,g1,h⟩:=ab h
 simp(config:=cS)only[go_sem]
 refine ag (tj g1) ?_
 obtain ⟨h2,h⟩:=ah h
 obtain ⟨q04,l3,h⟩:=ab h
 simp(config:=cS)only[go_sem,eqF h2]
 refine al (m1:=.mk) (m2:=.mk) [.nf [2,3,5,6] [128,192,576]] (ro s.nodes s.ties s.horizon v1.now v1.times v1.values r01) l3 ?_ ?_
 ·simp(config:=cS)only[go_sem]
 ·intro nb4 n_1 bb4 b4 gb4
  unfold gL at b4
  try dsimp only at b4
  obtain ⟨h5,b4⟩|⟨h5,b4⟩:=af b4
  ·obtain ⟨r02,g6,b4⟩:=ab b4
   simp(config:=cS)only[go_sem,eqT h5]
   refine ag (nn g6) ?_
   obtain ⟨r03,g7,b4⟩:=ab b4
   simp(config:=cS)only[go_sem]
   refine ag (um @hrec g7) ?_
   obtain ⟨h8,b4⟩|⟨h8,b4⟩:=af b4
   ·cases b4
    obtain rfl:=(ak gb4).symm
    try dsimp only at h
    cases h
    simp(config:=cS)only[go_sem,eZt h8]
   ·cases b4
    simp(config:=cS)only[go_sem,eZf h8]
    refine aq gb4 ?_
    simp(config:=cS)only[go_sem]
  ·cases b4
   obtain rfl:=(ak gb4).symm
   try dsimp only at h
   cases h
   simp(config:=cS)only[go_sem,eqF h5]
end Go.Proofs.QD
