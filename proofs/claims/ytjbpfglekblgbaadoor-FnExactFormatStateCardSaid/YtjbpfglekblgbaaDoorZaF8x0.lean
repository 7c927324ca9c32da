/- Functions. -/
import Derived.Test.YtjbpfglekblgbaaDoorZaFK0
set_option linter.all false
set_option maxRecDepth 100000
set_option maxHeartbeats 4000000
namespace Go.Proofs.Qa
open Go
attribute [go_sem] Tryd.ntmps85 Tryd.results85
theorem sg {a:GNode}{left res:Int}(h:fi a left=some res):ao Tryd.prog 85 [.agg (GNode.encS a),.lit (.int .i64 left)] [] (.lit (.int .i64 res)) []:=by
 refine am (ra:=[]) (md:=mdT) hT (hi:=hi00) Tryd.func85 rfl rfl (by decide +kernel) (by simp) ?_
 unfold fi at h
 obtain ⟨h1,h⟩|⟨h1,h⟩:=af h
 ·cases h
  simp(config:=cS)only[go_sem,eqT h1]
 ·obtain ⟨r01,g2,h⟩:=ae h
  simp(config:=cS)only[go_sem,eqF h1]
  refine ag (jA g2) ?_
  obtain ⟨h3,h⟩|⟨h3,h⟩:=af h
  ·cases h
   simp(config:=cS)only[go_sem,eqT h3]
  ·cases h
   simp(config:=cS)only[go_sem,eqF h3]
def ir (a:List GNode):(Int × Int)→St
 | (b,i)=>⟨[(0,.sl (ab GNode.encS a)),(1,.lit (.int .i64 b)),(5,.lit (.int .i64 i))],[],2⟩
attribute [go_sem] ir
attribute [go_sem] Tryd.ntmps58 Tryd.results58
theorem qW {a:List GNode}{left res:Int}(h:eD a left=some res):ao Tryd.prog 58 [.sl (ab GNode.encS a),.lit (.int .i64 left)] [] (.lit (.int .i64 res)) []:=by
 refine am (ra:=[]) (md:=mdT) hT (hi:=hi00) Tryd.func58 rfl rfl (by decide +kernel) (by simp) ?_
 unfold eD at h
 obtain ⟨h1,h⟩|⟨h1,h⟩:=af h
 ·cases h
  simp(config:=cS)only[go_sem,eqT h1]
 ·obtain ⟨q03,l2,h⟩:=ae h
  simp(config:=cS)only[go_sem,eqF h1]
  refine au (m1:=.mk) (m2:=.mk) [.nf [0,1,5] []] (ir a) l2 ?_ ?_
  ·simp(config:=cS)only[go_sem]
  ·intro nb3 sb3 bb3 b3 gb3
   obtain ⟨left_1,i_1⟩:=sb3
   unfold dw at b3
   try dsimp only at b3
   obtain ⟨h4,b3⟩|⟨h4,b3⟩:=af b3
   ·obtain ⟨x01,g5,b3⟩:=ae b3
    obtain ⟨h6,h7,h8⟩:=aq g5
    obtain ⟨r02,g9,b3⟩:=ae b3
    simp(config:=cS)only[go_sem,eqT h4,h6,h7,h8]
    refine ag (sg g9) ?_
    obtain ⟨h10,b3⟩|⟨h10,b3⟩:=af b3
    ·cases b3
     obtain rfl:=(ak gb3).symm
     try dsimp only at h
     cases h
     simp(config:=cS)only[go_sem,eqT h10]
    ·cases b3
     simp(config:=cS)only[go_sem,eqF h10]
     refine aw gb3 ?_
     simp(config:=cS)only[go_sem]
   ·cases b3
    obtain rfl:=(ak gb3).symm
    try dsimp only at h
    cases h
    simp(config:=cS)only[go_sem,eqF h4]
attribute [go_sem] Tryd.ntmps59 Tryd.results59
theorem si {a:List GTie}{left res:Int}(h:fj a left=some res):ao Tryd.prog 59 [.sl (ab GTie.enc a),.lit (.int .i64 left)] [] (.lit (.int .i64 res)) []:=by
 refine am (ra:=[]) (md:=mdT) hT (hi:=hi00) Tryd.func59 rfl rfl (by decide +kernel) (by simp) ?_
 unfold fj at h
 obtain ⟨h1,h⟩|⟨h1,h⟩:=af h
 ·cases h
  simp(config:=cS)only[go_sem,eqT h1]
 ·cases h
  simp(config:=cS)only[go_sem,eqF h1]
attribute [go_sem] Tryd.ntmps21 Tryd.results21
theorem sj {a:GShow}{left res:Int}(h:fk a left=some res):ao Tryd.prog 21 [.agg (GShow.encS a),.lit (.int .i64 left)] [] (.lit (.int .i64 res)) []:=by
 refine am (ra:=[]) (md:=mdT) hT (hi:=hi00) Tryd.func21 rfl rfl (by decide +kernel) (by simp) ?_
 unfold fk at h
 obtain ⟨r01,g1,h⟩:=ae h
 simp(config:=cS)only[go_sem]
 refine ag (qW g1) ?_
 obtain ⟨h2,h⟩|⟨h2,h⟩:=af h
 ·cases h
  simp(config:=cS)only[go_sem,eqT h2]
 ·obtain ⟨r02,g3,h⟩:=ae h
  simp(config:=cS)only[go_sem,eqF h2]
  refine ag (si g3) ?_
  obtain ⟨h4,h⟩|⟨h4,h⟩:=af h
  ·cases h
   simp(config:=cS)only[go_sem,eqT h4]
  ·cases h
   simp(config:=cS)only[go_sem,eqF h4]
attribute [go_sem] Tryd.ntmps34 Tryd.results34
theorem qX {a:GState}{left res:Int}(h:eL a left=some res):ao Tryd.prog 34 [.agg (GState.encS a),.lit (.int .i64 left)] [] (.lit (.int .i64 res)) []:=by
 refine am (ra:=[]) (md:=mdT) hT (hi:=hi00) Tryd.func34 rfl rfl (by decide +kernel) (by simp) ?_
 unfold eL at h
 obtain ⟨r01,g1,h⟩:=ae h
 simp(config:=cS)only[go_sem]
 refine ag (jA g1) ?_
 obtain ⟨h2,h⟩|⟨h2,h⟩:=af h
 ·cases h
  simp(config:=cS)only[go_sem,eqT h2]
 ·obtain ⟨r02,g3,h⟩:=ae h
  simp(config:=cS)only[go_sem,eqF h2]
  refine ag (jA g3) ?_
  obtain ⟨h4,h⟩|⟨h4,h⟩:=af h
  ·cases h
   simp(config:=cS)only[go_sem,eqT h4]
  ·cases h
   simp(config:=cS)only[go_sem,eqF h4]
attribute [go_sem] Tryd.ntmps89 Tryd.results89
theorem sk {a res:GNode}(h:fm a=some res):ao Tryd.prog 89 [.agg (GNode.encS a)] [] (.agg [.lit (.string res.name),.ref 20000 1 0 res.label.length,.lit (.int .i64 res.watch)]) [(20000,1,.row true (ab eI res.label))]:=by
 refine am (ra:=[.homeCell 128 1]) (md:=mdT) hT (hi:=hi00) Tryd.func89 rfl rfl (by decide +kernel) (by simp) ?_
 unfold fm at h
 obtain ⟨r01,g1,h⟩:=ae h
 simp(config:=cS)only[go_sem]
 refine ag (jB g1) ?_
 cases h
 simp(config:=cS)only[go_sem]
def iu (a:List GNode):(Int × (List GNode))→St
 | (i,b)=>⟨[(0,.sl (ab GNode.encS a)),(3,.ref 448 1 0 b.length),(4,.lit (.int .i64 i))],[(448,1,.row true (ab GNode.encO b))],2⟩
attribute [go_sem] iu
attribute [go_sem] Tryd.ntmps61 Tryd.results61
theorem qY {a res:List GNode}(h:eE a=some res):ao Tryd.prog 61 [.sl (ab GNode.encS a)] [] (.ref 20000 1 0 res.length) [(20000,1,.row true (ab GNode.encO res))]:=by
 refine am (ra:=[.home 2]) (md:=mdT) hT (hi:=hi00) Tryd.func61 rfl rfl (by decide +kernel) (by simp) ?_
 unfold eE at h
 obtain ⟨h1,h⟩:=az h
 obtain ⟨h2,h⟩:=az h
 obtain ⟨q04,l3,h⟩:=ae h
 simp(config:=cS)only[go_sem,eqT h1,eqT h2]
 refine au (m1:=.mk) (m2:=.mk) [.nf [0,3,4] [448]] (iu a) l3 ?_ ?_
 ·simp(config:=cS)only[go_sem]
 ·intro nb4 sb4 bb4 b4 gb4
  obtain ⟨i_1,out_1⟩:=sb4
  unfold dx at b4
  try dsimp only at b4
  obtain ⟨h5,b4⟩|⟨h5,b4⟩:=af b4
  ·obtain ⟨x01,g6,b4⟩:=ae b4
   obtain ⟨h7,h8,h9⟩:=aq g6
   obtain ⟨r02,g10,b4⟩:=ae b4
   simp(config:=cS)only[go_sem,eqT h5,h7,h8,h9]
   refine ag (sk g10) ?_
   obtain ⟨x03,g11,b4⟩:=ae b4
   obtain ⟨h12,h13,h14⟩:=aq g11
   cases b4
   simp(config:=cS)only[go_sem,h12,h13,h14]
   refine aw gb4 ?_
   simp(config:=cS)only[go_sem]
  ·cases b4
   obtain rfl:=(ak gb4).symm
   try dsimp only at h
   cases h
   simp(config:=cS)only[go_sem,eqF h5]
attribute [go_sem] Tryd.ntmps90 Tryd.results90
theorem tG {a res:GTie}(h:iF a=some res):ao Tryd.prog 90 [.agg (GTie.enc a)] [] (.agg (GTie.enc res)) []:=by
 refine am (ra:=[]) (md:=mdT) hT (hi:=hi00) Tryd.func90 rfl rfl (by decide +kernel) (by simp) ?_
 unfold iF at h
 cases h
 simp(config:=cS)only[go_sem]
def iK (a:List GTie):(Int × (List GTie))→St
 | (i,b)=>⟨[(0,.sl (ab GTie.enc a)),(3,.ref 448 1 0 b.length),(4,.lit (.int .i64 i))],[(448,1,.row true (ab GTie.enc b))],2⟩
attribute [go_sem] iK
attribute [go_sem] Tryd.ntmps62 Tryd.results62
theorem sm {a res:List GTie}(h:fo a=some res):ao Tryd.prog 62 [.sl (ab GTie.enc a)] [] (.ref 20000 1 0 res.length) [(20000,1,.row true (ab GTie.enc res))]:=by
 refine am (ra:=[.home 2]) (md:=mdT) hT (hi:=hi00) Tryd.func62 rfl rfl (by decide +kernel) (by simp) ?_
 unfold fo at h
 obtain ⟨h1,h⟩:=az h
 obtain ⟨h2,h⟩:=az h
 obtain ⟨q04,l3,h⟩:=ae h
 simp(config:=cS)only[go_sem,eqT h1,eqT h2]
 refine au (m1:=.mk) (m2:=.mk) [.nf [0,3,4] [448]] (iK a) l3 ?_ ?_
 ·simp(config:=cS)only[go_sem]
 ·intro nb4 sb4 bb4 b4 gb4
  obtain ⟨i_1,out_1⟩:=sb4
  unfold dM at b4
  try dsimp only at b4
  obtain ⟨h5,b4⟩|⟨h5,b4⟩:=af b4
  ·obtain ⟨x01,g6,b4⟩:=ae b4
   obtain ⟨h7,h8,h9⟩:=aq g6
   obtain ⟨r02,g10,b4⟩:=ae b4
   simp(config:=cS)only[go_sem,eqT h5,h7,h8,h9]
   refine ag (tG g10) ?_
   obtain ⟨x03,g11,b4⟩:=ae b4
   obtain ⟨h12,h13,h14⟩:=aq g11
   cases b4
   simp(config:=cS)only[go_sem,h12,h13,h14]
   refine aw gb4 ?_
   simp(config:=cS)only[go_sem]
  ·cases b4
   obtain rfl:=(ak gb4).symm
   try dsimp only at h
   cases h
   simp(config:=cS)only[go_sem,eqF h5]
attribute [go_sem] Tryd.ntmps23 Tryd.results23
theorem jy {a res:GShow}(h:du a=some res):ao Tryd.prog 23 [.agg (GShow.encS a)] [] (.agg [.ref 20000 1 0 res.nodes.length,.ref 20001 1 0 res.ties.length,.lit (.int .i64 res.horizon)]) [(20000,1,.row true (ab GNode.encO res.nodes)),(20001,1,.row true (ab GTie.enc res.ties))]:=by
 refine am (ra:=[.homeCell 128 0,.homeCell 128 1]) (md:=mdT) hT (hi:=hi00) Tryd.func23 rfl rfl (by decide +kernel) (by simp) ?_
 unfold du at h
 obtain ⟨r01,g1,h⟩:=ae h
 simp(config:=cS)only[go_sem]
 refine ag (qY g1) ?_
 obtain ⟨r02,g2,h⟩:=ae h
 simp(config:=cS)only[go_sem]
 refine ag (sm g2) ?_
 cases h
 simp(config:=cS)only[go_sem]
attribute [go_sem] Tryd.ntmps36 Tryd.results36
theorem ja {a res:GState}(h:cX a=some res):ao Tryd.prog 36 [.agg (GState.encS a)] [] (.agg [.lit (.int .i64 res.now),.ref 20000 1 0 res.times.length,.ref 20001 1 0 res.values.length]) [(20000,1,.row true (ab eI res.times)),(20001,1,.row true (ab eI res.values))]:=by
 refine am (ra:=[.homeCell 128 1,.homeCell 128 2]) (md:=mdT) hT (hi:=hi00) Tryd.func36 rfl rfl (by decide +kernel) (by simp) ?_
 unfold cX at h
 obtain ⟨r01,g1,h⟩:=ae h
 simp(config:=cS)only[go_sem]
 refine ag (jB g1) ?_
 obtain ⟨r02,g2,h⟩:=ae h
 simp(config:=cS)only[go_sem]
 refine ag (jB g2) ?_
 cases h
 simp(config:=cS)only[go_sem]
attribute [go_sem] Tryd.ntmps87 Tryd.results87
theorem bL {n lo hi:Int}{res:Bool}(h:aV n lo hi=some res):ao Tryd.prog 87 [.lit (.int .i64 n),.lit (.int .i64 lo),.lit (.int .i64 hi)] [] (.lit (.bool res)) []:=by
 refine am (ra:=[]) (md:=mdT) hT (hi:=hi00) Tryd.func87 rfl rfl (by decide +kernel) (by simp) ?_
 unfold aV at h
 obtain ⟨h1,h⟩|⟨h1,h⟩:=af h
 ·cases h
  simp(config:=cS)only[go_sem,eqT h1]
 ·cases h
  simp(config:=cS)only[go_sem,eqF h1]
def iL (s:ByteArray)(i:Int):St:=⟨[(0,.lit (.string s)),(3,.lit (.int .i64 i))],[],2⟩
attribute [go_sem] iL
attribute [go_sem] Tryd.ntmps143 Tryd.results143
theorem so {s:ByteArray}{res:Bool}(h:fq s=some res):ao Tryd.prog 143 [.lit (.string s)] [] (.lit (.bool res)) []:=by
 refine am (ra:=[]) (md:=mdT) hT (hi:=hi00) Tryd.func143 rfl rfl (by decide +kernel) (by simp) ?_
 unfold fq at h
 obtain ⟨q03,l1,h⟩:=ae h
 simp(config:=cS)only[go_sem]
 refine au (m1:=.mk) (m2:=.mk) [.nf [0,3] []] (iL s) l1 ?_ ?_
 ·simp(config:=cS)only[go_sem]
 ·intro nb2 i_1 bb2 b2 gb2
  unfold cR at b2
  try dsimp only at b2
  obtain ⟨h3,b2⟩|⟨h3,b2⟩:=af b2
  ·obtain ⟨c1001,g4,b2⟩:=ae b2
   obtain ⟨h5,h6,h7⟩:=rM g4
   obtain ⟨h8,b2⟩|⟨h8,b2⟩:=af b2
   ·obtain ⟨h9,b2⟩|⟨h9,b2⟩:=af b2
    ·cases b2
     simp(config:=cS)only[go_sem,eqT h3,h5,h6,h7,eqT h8,eqT h9]
     refine aw gb2 ?_
     simp(config:=cS)only[go_sem]
    ·obtain ⟨h10,b2⟩|⟨h10,b2⟩:=af b2
     ·cases b2
      obtain rfl:=(ak gb2).symm
      try dsimp only at h
      cases h
      simp(config:=cS)only[go_sem,eqT h3,h5,h6,h7,eqT h8,eqF h9,eqT h10]
     ·obtain ⟨h12,b2⟩|⟨h12,b2⟩:=af b2
      ·cases b2
       obtain rfl:=(ak gb2).symm
       try dsimp only at h
       cases h
       simp(config:=cS)only[go_sem,eqT h3,h5,h6,h7,eqT h8,eqF h9,eqF h10,eqT h12]
      ·obtain ⟨h14,b2⟩|⟨h14,b2⟩:=af b2
       ·cases b2
        obtain rfl:=(ak gb2).symm
        try dsimp only at h
        cases h
        simp(config:=cS)only[go_sem,eqT h3,h5,h6,h7,eqT h8,eqF h9,eqF h10,eqF h12,eqT h14]
       ·cases b2
        simp(config:=cS)only[go_sem,eqT h3,h5,h6,h7,eqT h8,eqF h9,eqF h10,eqF h12,eqF h14]
        refine aw gb2 ?_
        simp(config:=cS)only[go_sem]
   ·obtain ⟨h16,b2⟩|⟨h16,b2⟩:=af b2
    ·cases b2
     obtain rfl:=(ak gb2).symm
     try dsimp only at h
     cases h
     simp(config:=cS)only[go_sem,eqT h3,h5,h6,h7,eqF h8,eqT h16]
    ·obtain ⟨h18,b2⟩|⟨h18,b2⟩:=af b2
     ·cases b2
      obtain rfl:=(ak gb2).symm
      try dsimp only at h
      cases h
      simp(config:=cS)only[go_sem,eqT h3,h5,h6,h7,eqF h8,eqF h16,eqT h18]
     ·obtain ⟨h20,b2⟩|⟨h20,b2⟩:=af b2
      ·cases b2
       obtain rfl:=(ak gb2).symm
       try dsimp only at h
       cases h
       simp(config:=cS)only[go_sem,eqT h3,h5,h6,h7,eqF h8,eqF h16,eqF h18,eqT h20]
      ·cases b2
       simp(config:=cS)only[go_sem,eqT h3,h5,h6,h7,eqF h8,eqF h16,eqF h18,eqF h20]
       refine aw gb2 ?_
       simp(config:=cS)only[go_sem]
  ·cases b2
   obtain rfl:=(ak gb2).symm
   try dsimp only at h
   obtain ⟨r02,g23,h⟩:=ae h
   simp(config:=cS)only[go_sem,eqF h3]
   refine ag (bL g23) ?_
   cases h
   simp(config:=cS)only[go_sem]
attribute [go_sem] Tryd.ntmps101 Tryd.results101
theorem gq {n res:Int}(h:bD n=some res):ao Tryd.prog 101 [.lit (.int .i64 n)] [] (.lit (.int .i64 res)) []:=by
 refine am (ra:=[]) (md:=mdT) hT (hi:=hi00) Tryd.func101 rfl rfl (by decide +kernel) (by simp) ?_
 unfold bD at h
 obtain ⟨h1,h⟩|⟨h1,h⟩:=af h
 ·cases h
  simp(config:=cS)only[go_sem,eqT h1]
 ·cases h
  simp(config:=cS)only[go_sem,eqF h1]
def iv (l:List Int)(a b:Int):St:=⟨[(0,.sl (ab eI l)),(5,.sl (ab eI l)),(6,.lit (.int .i64 a)),(7,.lit (.int .i64 b))],[],2⟩
attribute [go_sem] iv
attribute [go_sem] Tryd.ntmps100 Tryd.results100
theorem gr {l:List Int}{res:Bool}(h:bT l=some res):ao Tryd.prog 100 [.sl (ab eI l)] [] (.lit (.bool res)) []:=by
 refine am (ra:=[]) (md:=mdT) hT (hi:=hi00) Tryd.func100 rfl rfl (by decide +kernel) (by simp) ?_
 unfold bT at h
 obtain ⟨q06,l1,h⟩:=ae h
 simp(config:=cS)only[go_sem]
 refine au (m1:=.mk) (m2:=.mk) [.nf [0,5,6,7] []] (iv l ((l.length:Nat):Int)) l1 ?_ ?_
 ·simp(config:=cS)only[go_sem]
 ·intro nb2 v7_1 bb2 b2 gb2
  unfold ct at b2
  try dsimp only at b2
  obtain ⟨h3,b2⟩|⟨h3,b2⟩:=af b2
  ·obtain ⟨x01,g4,b2⟩:=ae b2
   obtain ⟨h5,h6,h7⟩:=aq g4
   obtain ⟨h8,b2⟩|⟨h8,b2⟩:=af b2
   ·cases b2
    obtain rfl:=(ak gb2).symm
    try dsimp only at h
    cases h
    simp(config:=cS)only[go_sem,eqT h3,h5,h6,h7,eqT h8]
   ·obtain ⟨r02,g10,b2⟩:=ae b2
    simp(config:=cS)only[go_sem,eqT h3,h5,h6,h7,eqF h8]
    refine ag (bL g10) ?_
    obtain ⟨h11,b2⟩|⟨h11,b2⟩:=af b2
    ·obtain ⟨h12,b2⟩|⟨h12,b2⟩:=af b2
     ·obtain ⟨x03,g13,b2⟩:=ae b2
      obtain ⟨h14,h15,h16⟩:=aq g13
      obtain ⟨r04,g17,b2⟩:=ae b2
      simp(config:=cS)only[go_sem,eqT h3,h5,h6,h7,eqF h8,eZt h11,eqT h12,h14,h15,h16]
      refine ag (gq g17) ?_
      obtain ⟨r05,g18,b2⟩:=ae b2
      simp(config:=cS)only[go_sem,eqT h3,h5,h6,h7,eqF h8,eZt h11,eqT h12,h14,h15,h16]
      refine ag (gq g18) ?_
      obtain ⟨h19,b2⟩|⟨h19,b2⟩:=af b2
      ·cases b2
       obtain rfl:=(ak gb2).symm
       try dsimp only at h
       cases h
       simp(config:=cS)only[go_sem,eqT h3,h5,h6,h7,eqF h8,eZt h11,eqT h12,h14,h15,h16,eqT h19]
      ·cases b2
       simp(config:=cS)only[go_sem,eqT h3,h5,h6,h7,eqF h8,eZt h11,eqT h12,h14,h15,h16,eqF h19]
       refine aw gb2 ?_
       simp(config:=cS)only[go_sem,eqT h3,h5,h6,h7,eqF h8,eZt h11,eqT h12,h14,h15,h16,eqF h19]
     ·cases b2
      simp(config:=cS)only[go_sem,eqT h3,h5,h6,h7,eqF h8,eZt h11,eqF h12]
      refine aw gb2 ?_
      simp(config:=cS)only[go_sem,eqT h3,h5,h6,h7,eqF h8,eZt h11,eqF h12]
    ·cases b2
     obtain rfl:=(ak gb2).symm
     try dsimp only at h
     cases h
     simp(config:=cS)only[go_sem,eqT h3,h5,h6,h7,eqF h8,eZf h11]
  ·cases b2
   obtain rfl:=(ak gb2).symm
   try dsimp only at h
   cases h
   simp(config:=cS)only[go_sem,eqF h3]
attribute [go_sem] Tryd.ntmps114 Tryd.results114
theorem sp {n:GNode}{res:Bool}(h:fv n=some res):ao Tryd.prog 114 [.agg (GNode.encS n)] [] (.lit (.bool res)) []:=by
 refine am (ra:=[]) (md:=mdT) hT (hi:=hi00) Tryd.func114 rfl rfl (by decide +kernel) (by simp) ?_
 unfold fv at h
 obtain ⟨r01,g1,h⟩:=ae h
 simp(config:=cS)only[go_sem]
 refine ag (so g1) ?_
 obtain ⟨h2,h⟩|⟨h2,h⟩:=af h
 ·obtain ⟨r02,g3,h⟩:=ae h
  simp(config:=cS)only[go_sem,eZt h2]
  refine ag (gr g3) ?_
  obtain ⟨h4,h⟩|⟨h4,h⟩:=af h
  ·obtain ⟨r03,g5,h⟩:=ae h
   simp(config:=cS)only[go_sem,eZt h2,eZt h4]
   refine ag (bL g5) ?_
   cases h
   simp(config:=cS)only[go_sem,eZt h2,eZt h4]
  ·cases h
   simp(config:=cS)only[go_sem,eZt h2,eZf h4]
 ·cases h
  simp(config:=cS)only[go_sem,eZf h2]
def gE (a:ByteArray)(c:List GNode)(d b:Int):St:=⟨[(1,.lit (.string a)),(8,.sl (ab GNode.encS c)),(9,.lit (.int .i64 d)),(10,.lit (.int .i64 b))],[],2⟩
attribute [go_sem] gE
attribute [go_sem] Tryd.ntmps115 Tryd.results115
theorem oA {s:GShow}{name:ByteArray}{res:Int}(h:dN s name=some res):ao Tryd.prog 115 [.agg (GShow.encS s),.lit (.string name)] [] (.lit (.int .i64 res)) []:=by
 refine am (ra:=[]) (md:=mdT) hT (hi:=hi00) Tryd.func115 rfl rfl (by decide +kernel) (by simp) ?_
 unfold dN at h
 obtain ⟨q02,l1,h⟩:=ae h
 simp(config:=cS)only[go_sem]
 refine au (m1:=.mk) (m2:=.mk) [.nf [1,8,9,10] []] (gE name s.nodes ((s.nodes.length:Nat):Int)) l1 ?_ ?_
 ·simp(config:=cS)only[go_sem]
 ·intro nb2 v10_1 bb2 b2 gb2
  unfold bJ at b2
  try dsimp only at b2
  obtain ⟨h3,b2⟩|⟨h3,b2⟩:=af b2
  ·obtain ⟨x01,g4,b2⟩:=ae b2
   obtain ⟨h5,h6,h7⟩:=aq g4
   obtain ⟨h8,b2⟩|⟨h8,b2⟩:=af b2
   ·cases b2
    obtain rfl:=(ak gb2).symm
    try dsimp only at h
    cases h
    simp(config:=cS)only[go_sem,eqT h3,h5,h6,h7,eqT h8]
   ·cases b2
    simp(config:=cS)only[go_sem,eqT h3,h5,h6,h7,eqF h8]
    refine aw gb2 ?_
    simp(config:=cS)only[go_sem]
  ·cases b2
   obtain rfl:=(ak gb2).symm
   try dsimp only at h
   cases h
   simp(config:=cS)only[go_sem,eqF h3]
def gx (p:Int)(b:List GNode)(c a:Int):St:=⟨[(1,.lit (.int .i64 p)),(8,.sl (ab GNode.encS b)),(9,.lit (.int .i64 c)),(10,.lit (.int .i64 a))],[],2⟩
attribute [go_sem] gx
attribute [go_sem] Tryd.ntmps99 Tryd.results99
theorem gz {s:GShow}{p res:Int}(h:bl s p=some res):ao Tryd.prog 99 [.agg (GShow.encS s),.lit (.int .i64 p)] [] (.lit (.int .i64 res)) []:=by
 refine am (ra:=[]) (md:=mdT) hT (hi:=hi00) Tryd.func99 rfl rfl (by decide +kernel) (by simp) ?_
 unfold bl at h
 obtain ⟨q02,l1,h⟩:=ae h
 simp(config:=cS)only[go_sem]
 refine au (m1:=.mk) (m2:=.mk) [.nf [1,8,9,10] []] (gx p s.nodes ((s.nodes.length:Nat):Int)) l1 ?_ ?_
 ·simp(config:=cS)only[go_sem]
 ·intro nb2 v10_1 bb2 b2 gb2
  unfold bE at b2
  try dsimp only at b2
  obtain ⟨h3,b2⟩|⟨h3,b2⟩:=af b2
  ·obtain ⟨x01,g4,b2⟩:=ae b2
   obtain ⟨h5,h6,h7⟩:=aq g4
   obtain ⟨h8,b2⟩|⟨h8,b2⟩:=af b2
   ·cases b2
    obtain rfl:=(ak gb2).symm
    try dsimp only at h
    cases h
    simp(config:=cS)only[go_sem,eqT h3,h5,h6,h7,eqT h8]
   ·cases b2
    simp(config:=cS)only[go_sem,eqT h3,h5,h6,h7,eqF h8]
    refine aw gb2 ?_
    simp(config:=cS)only[go_sem]
  ·cases b2
   obtain rfl:=(ak gb2).symm
   try dsimp only at h
   cases h
   simp(config:=cS)only[go_sem,eqF h3]
def iM (n:Int)(a:List Int)(b c:Int):St:=⟨[(1,.lit (.int .i64 n)),(7,.sl (ab eI a)),(8,.lit (.int .i64 b)),(9,.lit (.int .i64 c))],[],2⟩
attribute [go_sem] iM
attribute [go_sem] Tryd.ntmps116 Tryd.results116
theorem jz {l:List Int}{n:Int}{res:Bool}(h:bP l n=some res):ao Tryd.prog 116 [.sl (ab eI l),.lit (.int .i64 n)] [] (.lit (.bool res)) []:=by
 refine am (ra:=[]) (md:=mdT) hT (hi:=hi00) Tryd.func116 rfl rfl (by decide +kernel) (by simp) ?_
 unfold bP at h
 obtain ⟨q02,l1,h⟩:=ae h
 simp(config:=cS)only[go_sem]
 refine au (m1:=.mk) (m2:=.mk) [.nf [1,7,8,9] []] (iM n l ((l.length:Nat):Int)) l1 ?_ ?_
 ·simp(config:=cS)only[go_sem]
 ·intro nb2 v9_1 bb2 b2 gb2
  unfold cT at b2
  try dsimp only at b2
  obtain ⟨h3,b2⟩|⟨h3,b2⟩:=af b2
  ·obtain ⟨x01,g4,b2⟩:=ae b2
   obtain ⟨h5,h6,h7⟩:=aq g4
   obtain ⟨h8,b2⟩|⟨h8,b2⟩:=af b2
   ·cases b2
    obtain rfl:=(ak gb2).symm
    try dsimp only at h
    cases h
    simp(config:=cS)only[go_sem,eqT h3,h5,h6,h7,eqT h8]
   ·cases b2
    simp(config:=cS)only[go_sem,eqT h3,h5,h6,h7,eqF h8]
    refine aw gb2 ?_
    simp(config:=cS)only[go_sem]
  ·cases b2
   obtain rfl:=(ak gb2).symm
   try dsimp only at h
   cases h
   simp(config:=cS)only[go_sem,eqF h3]
def fN (a b:List Int)(c d:Int):St:=⟨[(0,.sl (ab eI a)),(15,.sl (ab eI b)),(16,.lit (.int .i64 c)),(17,.lit (.int .i64 d))],[],2⟩
attribute [go_sem] fN
attribute [go_sem] Tryd.ntmps117 Tryd.results117
theorem lI {a b:List Int}{res:Bool}(h:bK a b=some res):ao Tryd.prog 117 [.sl (ab eI a),.sl (ab eI b)] [] (.lit (.bool res)) []:=by
 refine am (ra:=[]) (md:=mdT) hT (hi:=hi00) Tryd.func117 rfl rfl (by decide +kernel) (by simp) ?_
 unfold bK at h
 obtain ⟨r01,g1,h⟩:=ae h
 simp(config:=cS)only[go_sem]
 refine ag (gr g1) ?_
 obtain ⟨h2,h⟩|⟨h2,h⟩:=af h
 ·obtain ⟨r02,g3,h⟩:=ae h
  simp(config:=cS)only[go_sem,eZt h2]
  refine ag (gr g3) ?_
  obtain ⟨h4,h⟩|⟨h4,h⟩:=af h
  ·obtain ⟨q05,l5,h⟩:=ae h
   simp(config:=cS)only[go_sem,eZt h2,eZt h4]
   refine au (m1:=.mk) (m2:=.mk) [.nf [0,15,16,17] []] (fN a b ((b.length:Nat):Int)) l5 ?_ ?_
   ·simp(config:=cS)only[go_sem,eZt h2,eZt h4]
   ·intro nb6 v17_1 bb6 b6 gb6
    unfold bk at b6
    try dsimp only at b6
    obtain ⟨h7,b6⟩|⟨h7,b6⟩:=af b6
    ·obtain ⟨x03,g8,b6⟩:=ae b6
     obtain ⟨h9,h10,h11⟩:=aq g8
     obtain ⟨r04,g12,b6⟩:=ae b6
     simp(config:=cS)only[go_sem,eZt h2,eZt h4,eqT h7,h9,h10,h11]
     refine ag (jz g12) ?_
     obtain ⟨h13,b6⟩|⟨h13,b6⟩:=af b6
     ·cases b6
      simp(config:=cS)only[go_sem,eZt h2,eZt h4,eqT h7,h9,h10,h11,eZt h13]
      refine aw gb6 ?_
      simp(config:=cS)only[go_sem,eZt h2,eZt h4,eqT h7,h9,h10,h11,eZt h13]
     ·cases b6
      obtain rfl:=(ak gb6).symm
      try dsimp only at h
      cases h
      simp(config:=cS)only[go_sem,eZt h2,eZt h4,eqT h7,h9,h10,h11,eZf h13]
    ·cases b6
     obtain rfl:=(ak gb6).symm
     try dsimp only at h
     cases h
     simp(config:=cS)only[go_sem,eZt h2,eZt h4,eqF h7]
  ·cases h
   simp(config:=cS)only[go_sem,eZt h2,eZf h4]
 ·cases h
  simp(config:=cS)only[go_sem,eZf h2]
def gY (a:List GNode)(b:Int)(c:List GTie)(d e:Int):St:=⟨[(1,.ptr 64 1 0 0),(33,.sl (ab GNode.encS a)),(34,.lit (.int .i64 b)),(35,.lit (.int .i64 e))],[(64,1,.var [.sl (ab GNode.encS a),.sl (ab GTie.enc c),.lit (.int .i64 d)])],2⟩
attribute [go_sem] gY
def gZ (a:List GNode)(c d:Int)(b:List Int)(e:Int)(f:List GTie)(g:Int)(h:ByteArray)(i j:Int):St:=⟨[(1,.ptr 64 1 0 0),(6,.ptr 384 1 0 0),(66,.sl (ab GNode.encS a)),(67,.lit (.int .i64 c)),(68,.lit (.int .i64 d)),(73,.sl (ab eI b)),(74,.lit (.int .i64 e)),(75,.lit (.int .i64 j))],[(64,1,.var [.sl (ab GNode.encS a),.sl (ab GTie.enc f),.lit (.int .i64 g)]),(384,1,.var [.lit (.string h),.sl (ab eI b),.lit (.int .i64 i)])],2⟩
attribute [go_sem] gZ
def hD (a:List GNode)(b:Int)(c:List GTie)(d e:Int):St:=⟨[(1,.ptr 64 1 0 0),(66,.sl (ab GNode.encS a)),(67,.lit (.int .i64 b)),(68,.lit (.int .i64 e))],[(64,1,.var [.sl (ab GNode.encS a),.sl (ab GTie.enc c),.lit (.int .i64 d)])],2⟩
attribute [go_sem] hD
@[go_sem] def hi86_16:DT:=.i2 0 (.i2 1 (.i2 2 (.i2 3 (.i2 4 (.i2 5 (.i2 6 (.i2 7 (.i2 8 (.i2 9 (.i2 10 (.i2 11 (.i2 12 (.i2 13 (.i2 14 (.i2 15 (.i2 16 (.i2 17 (.i2 18 (.i2 19 (.i2 20 (.i2 21 (.i2 22 (.i2 23 (.i2 24 (.i2 25 (.i2 26 (.i2 27 (.i2 28 (.i2 29 (.i2 30 (.i2 31 (.i2 32 (.i2 33 (.i2 34 .nil))))))))))))))))))))))))))))))))))
@[go_sem] def hi86_15:DT:=.i1 0 (.i2 1 (.i0 2 [0] (.i2 3 (.i2 4 .nil))))
def hi86:Hint where
 acts:=fun _=>[]
 draws:=fun
  | 15=>⟨hi86_15,[[],[],[1],[0,1,2],[0,1,2,3]],.range 5⟩
  | 16=>⟨hi86_16,[[],[0],[0,1],[0,1,2],[0,1,2,3],[0,1,2],.range 6,.range 7,.range 8,[0,1,2],.range 10,.range 11,.range 12,.range 13,.range 14,.range 13,.range 16,.range 17,.range 18,.range 13,[0,1,2,3,4,5,6,7,8,9,10,11,12,19],.range 21,.range 22,.range 23,.range 24,.range 25,.range 24,[0,1,2,3,4,5,6,7,8,9,10,11,12,13,14,15,16,17,18,19,20,21,22,23,26],.range 24,[0,1,2,3,4,5,6,7,8,9,10,11,12,13,14,15,16,17,18,19,20,21,22,23,26,27,28],[0,1,2,3,4,5,6,7,8,9,10,11,12,13,14,15,16,17,18,19,20,21,22,23,26,27,28,29],[0,1,2,3,4,5,6,7,8,9,10,11,12,13,14,15,16,17,18,19,20,21,22,23,26,27,28,29,30],.range 32,.range 33,.range 34],.range 35⟩
  | _=>⟨.nil,[],[]⟩
theorem Bl (i:Nat):hi86.acts i=[]:=rfl
theorem Bm (i:Nat):hi86.views i=none:=rfl
attribute [go_sem] Bl Bm Tryd.ntmps86 Tryd.results86
@[go_sem] theorem BX:(hi86.draws 15).order=hi86_15:=rfl
@[go_sem] theorem BY:(hi86.draws 16).order=hi86_16:=rfl
theorem qf {s:GShow}{res:Bool}(h:ec s=some res):ao Tryd.prog 86 [.agg (GShow.encS s)] [] (.lit (.bool res)) []:=by
 refine am (ra:=[]) (md:=mdT) hT (hi:=hi86) Tryd.func86 rfl rfl (by decide +kernel) (by simp) ?_
 unfold ec at h
 obtain ⟨r01,g1,h⟩:=ae h
 simp(config:=cS)only[go_sem]
 refine ag (bL g1) ?_
 obtain ⟨h2,h⟩|⟨h2,h⟩:=af h
 ·obtain ⟨x02,g3,h⟩:=ae h
  obtain ⟨h5,h6⟩:=ow (k:=0) g3
  obtain ⟨h7,h⟩|⟨h7,h⟩:=af h
  ·cases h
   simp(config:=cS)only[go_sem,eZt h2,h5,h6,eqT h7]
  ·obtain ⟨h8,h⟩|⟨h8,h⟩:=af h
   ·obtain ⟨q17,l9,h⟩:=ae h
    simp(config:=cS)only[go_sem,eZt h2,h5,h6,eqF h7,eqT h8]
    refine au (m1:=.mk) (m2:=.mk) [.nf [1,33,34,35] [64]] (gY s.nodes ((s.nodes.length:Nat):Int) s.ties s.horizon) l9 ?_ ?_
    ·simp(config:=cS)only[go_sem,eZt h2,h5,h6,eqF h7,eqT h8]
    ·intro nb10 v35_1 bb10 b10 gb10
     unfold bU at b10
     try dsimp only at b10
     obtain ⟨h11,b10⟩|⟨h11,b10⟩:=af b10
     ·obtain ⟨x03,g12,b10⟩:=ae b10
      obtain ⟨h13,h14,h15⟩:=aq g12
      obtain ⟨r04,g16,b10⟩:=ae b10
      simp(config:=cS)only[go_sem,eZt h2,h5,h6,eqF h7,eqT h8,eqT h11,h13,h14,h15]
      refine ag (sp g16) ?_
      obtain ⟨h17,b10⟩|⟨h17,b10⟩:=af b10
      ·obtain ⟨r05,g18,b10⟩:=ae b10
       simp(config:=cS)only[go_sem,eZt h2,h5,h6,eqF h7,eqT h8,eqT h11,h13,h14,h15,eZt h17]
       refine ag (oA g18) ?_
       obtain ⟨h19,b10⟩|⟨h19,b10⟩:=af b10
       ·obtain ⟨h20,b10⟩|⟨h20,b10⟩:=af b10
        ·cases b10
         simp(config:=cS)only[go_sem,eZt h2,h5,h6,eqF h7,eqT h8,eqT h11,h13,h14,h15,eZt h17,eqT h19,eqT h20]
         refine aw gb10 ?_
         simp(config:=cS)only[go_sem,eZt h2,h5,h6,eqF h7,eqT h8,eqT h11,h13,h14,h15,eZt h17,eqT h19,eqT h20]
        ·obtain ⟨r06,g21,b10⟩:=ae b10
         simp(config:=cS)only[go_sem,eZt h2,h5,h6,eqF h7,eqT h8,eqT h11,h13,h14,h15,eZt h17,eqT h19,eqF h20]
         refine ag (gz g21) ?_
         obtain ⟨h22,b10⟩|⟨h22,b10⟩:=af b10
         ·cases b10
          simp(config:=cS)only[go_sem,eZt h2,h5,h6,eqF h7,eqT h8,eqT h11,h13,h14,h15,eZt h17,eqT h19,eqF h20,eqT h22]
          refine aw gb10 ?_
          simp(config:=cS)only[go_sem,eZt h2,h5,h6,eqF h7,eqT h8,eqT h11,h13,h14,h15,eZt h17,eqT h19,eqF h20,eqT h22]
         ·cases b10
          obtain rfl:=(ak gb10).symm
          try dsimp only at h
          cases h
          simp(config:=cS)only[go_sem,eZt h2,h5,h6,eqF h7,eqT h8,eqT h11,h13,h14,h15,eZt h17,eqT h19,eqF h20,eqF h22]
       ·cases b10
        obtain rfl:=(ak gb10).symm
        try dsimp only at h
        cases h
        simp(config:=cS)only[go_sem,eZt h2,h5,h6,eqF h7,eqT h8,eqT h11,h13,h14,h15,eZt h17,eqF h19]
      ·cases b10
       obtain rfl:=(ak gb10).symm
       try dsimp only at h
       cases h
       simp(config:=cS)only[go_sem,eZt h2,h5,h6,eqF h7,eqT h8,eqT h11,h13,h14,h15,eZf h17]
     ·cases b10
      obtain rfl:=(ak gb10).symm
      try dsimp only at h
      obtain ⟨q16,l27,h⟩:=ae h
      simp(config:=cS)only[go_sem,eZt h2,h5,h6,eqF h7,eqT h8,eqF h11]
      refine au (m1:=.mk) (m2:=.mk) [.nf [1,66,67,68] [64]] (hD s.nodes ((s.nodes.length:Nat):Int) s.ties s.horizon) l27 ?_ ?_
      ·simp(config:=cS)only[go_sem,eZt h2,h5,h6,eqF h7,eqT h8,eqF h11]
      ·intro nb28 v68_2 bb28 b28 gb28
       unfold bW at b28
       try dsimp only at b28
       obtain ⟨h29,b28⟩|⟨h29,b28⟩:=af b28
       ·obtain ⟨x07,g30,b28⟩:=ae b28
        obtain ⟨h31,h32,h33⟩:=aq g30
        obtain ⟨q15,l34,b28⟩:=ae b28
        simp(config:=cS)only[go_sem,eZt h2,h5,h6,eqF h7,eqT h8,eqF h11,eqT h29,h31,h32,h33]
        refine au (m1:=.mk) (m2:=.mk) [.nf [1,6,66,67,68,73,74,75] [64,384]] (gZ s.nodes ((s.nodes.length:Nat):Int) v68_2 x07.label ((x07.label.length:Nat):Int) s.ties s.horizon x07.name x07.watch) l34 ?_ ?_
        ·simp(config:=cS)only[go_sem,eZt h2,h5,h6,eqF h7,eqT h8,eqF h11,eqT h29,h31,h32,h33]
        ·intro nb35 v75_3 bb35 b35 gb35
         unfold bV at b35
         try dsimp only at b35
         obtain ⟨h36,b35⟩|⟨h36,b35⟩:=af b35
         ·obtain ⟨x08,g37,b35⟩:=ae b35
          obtain ⟨h38,h39,h40⟩:=aq g37
          obtain ⟨r09,g41,b35⟩:=ae b35
          simp(config:=cS)only[go_sem,eZt h2,h5,h6,eqF h7,eqT h8,eqF h11,eqT h29,h31,h32,h33,eqT h36,h38,h39,h40]
          refine ag (gq g41) ?_
          obtain ⟨r10,g42,b35⟩:=ae b35
          simp(config:=cS)only[go_sem,eZt h2,h5,h6,eqF h7,eqT h8,eqF h11,eqT h29,h31,h32,h33,eqT h36,h38,h39,h40]
          refine ag (gz g42) ?_
          obtain ⟨h43,b35⟩|⟨h43,b35⟩:=af b35
          ·cases b35
           obtain rfl:=(ak gb35).symm
           try dsimp only at b28
           cases b28
           obtain rfl:=(ak gb28).symm
           try dsimp only at h
           cases h
           simp(config:=cS)only[go_sem,eZt h2,h5,h6,eqF h7,eqT h8,eqF h11,eqT h29,h31,h32,h33,eqT h36,h38,h39,h40,eqT h43]
          ·obtain ⟨x11,g46,b35⟩:=ae b35
           obtain ⟨h47,h48,h49⟩:=aq g46
           obtain ⟨r12,g50,b35⟩:=ae b35
           simp(config:=cS)only[go_sem,eZt h2,h5,h6,eqF h7,eqT h8,eqF h11,eqT h29,h31,h32,h33,eqT h36,h38,h39,h40,eqF h43,h47,h48,h49]
           refine ag (jz g50) ?_
           obtain ⟨h51,b35⟩|⟨h51,b35⟩:=af b35
           ·cases b35
            obtain rfl:=(ak gb35).symm
            try dsimp only at b28
            cases b28
            obtain rfl:=(ak gb28).symm
            try dsimp only at h
            cases h
            simp(config:=cS)only[go_sem,eZt h2,h5,h6,eqF h7,eqT h8,eqF h11,eqT h29,h31,h32,h33,eqT h36,h38,h39,h40,eqF h43,h47,h48,h49,eZt h51]
           ·obtain ⟨r13,g54,b35⟩:=ae b35
            simp(config:=cS)only[go_sem,eZt h2,h5,h6,eqF h7,eqT h8,eqF h11,eqT h29,h31,h32,h33,eqT h36,h38,h39,h40,eqF h43,h47,h48,h49,eZf h51]
            refine ag (jz g54) ?_
            obtain ⟨h55,b35⟩|⟨h55,b35⟩:=af b35
            ·cases b35
             obtain rfl:=(ak gb35).symm
             try dsimp only at b28
             cases b28
             obtain rfl:=(ak gb28).symm
             try dsimp only at h
             cases h
             simp(config:=cS)only[go_sem,eZt h2,h5,h6,eqF h7,eqT h8,eqF h11,eqT h29,h31,h32,h33,eqT h36,h38,h39,h40,eqF h43,h47,h48,h49,eZf h51,eZt h55]
            ·obtain ⟨r14,g58,b35⟩:=ae b35
             simp(config:=cS)only[go_sem,eZt h2,h5,h6,eqF h7,eqT h8,eqF h11,eqT h29,h31,h32,h33,eqT h36,h38,h39,h40,eqF h43,h47,h48,h49,eZf h51,eZf h55]
             refine ag (lI g58) ?_
             obtain ⟨h59,b35⟩|⟨h59,b35⟩:=af b35
             ·cases b35
              simp(config:=cS)only[go_sem,eZt h2,h5,h6,eqF h7,eqT h8,eqF h11,eqT h29,h31,h32,h33,eqT h36,h38,h39,h40,eqF h43,h47,h48,h49,eZf h51,eZf h55,eZt h59]
              refine aw gb35 ?_
              simp(config:=cS)only[go_sem,eZt h2,h5,h6,eqF h7,eqT h8,eqF h11,eqT h29,h31,h32,h33,eqT h36,h38,h39,h40,eqF h43,h47,h48,h49,eZf h51,eZf h55,eZt h59]
             ·cases b35
              obtain rfl:=(ak gb35).symm
              try dsimp only at b28
              cases b28
              obtain rfl:=(ak gb28).symm
              try dsimp only at h
              cases h
              simp(config:=cS)only[go_sem,eZt h2,h5,h6,eqF h7,eqT h8,eqF h11,eqT h29,h31,h32,h33,eqT h36,h38,h39,h40,eqF h43,h47,h48,h49,eZf h51,eZf h55,eZf h59]
         ·cases b35
          obtain rfl:=(ak gb35).symm
          try dsimp only at b28
          cases b28
          simp(config:=cS)only[go_sem,eZt h2,h5,h6,eqF h7,eqT h8,eqF h11,eqT h29,h31,h32,h33,eqF h36]
          refine aw gb28 ?_
          simp(config:=cS)only[go_sem,eZt h2,h5,h6,eqF h7,eqT h8,eqF h11,eqT h29,h31,h32,h33,eqF h36]
       ·cases b28
        obtain rfl:=(ak gb28).symm
        try dsimp only at h
        cases h
        simp(config:=cS)only[go_sem,eZt h2,h5,h6,eqF h7,eqT h8,eqF h11,eqF h29]
   ·cases h
    simp(config:=cS)only[go_sem,eZt h2,h5,h6,eqF h7,eqF h8]
 ·cases h
  simp(config:=cS)only[go_sem,eZf h2]
def iw (b a:List Int)(c d:Int):St:=⟨[(1,.sl (ab eI b)),(12,.sl (ab eI a)),(13,.lit (.int .i64 c)),(14,.lit (.int .i64 d))],[],2⟩
attribute [go_sem] iw
attribute [go_sem] Tryd.ntmps118 Tryd.results118
theorem qZ {a b:List Int}{res:Bool}(h:eF a b=some res):ao Tryd.prog 118 [.sl (ab eI a),.sl (ab eI b)] [] (.lit (.bool res)) []:=by
 refine am (ra:=[]) (md:=mdT) hT (hi:=hi00) Tryd.func118 rfl rfl (by decide +kernel) (by simp) ?_
 unfold eF at h
 obtain ⟨h1,h⟩|⟨h1,h⟩:=af h
 ·obtain ⟨q03,l2,h⟩:=ae h
  simp(config:=cS)only[go_sem,eqT h1]
  refine au (m1:=.mk) (m2:=.mk) [.nf [1,12,13,14] []] (iw b a ((a.length:Nat):Int)) l2 ?_ ?_
  ·simp(config:=cS)only[go_sem]
  ·intro nb3 v14_1 bb3 b3 gb3
   unfold cu at b3
   try dsimp only at b3
   obtain ⟨h4,b3⟩|⟨h4,b3⟩:=af b3
   ·obtain ⟨x01,g5,b3⟩:=ae b3
    obtain ⟨h6,h7,h8⟩:=aq g5
    obtain ⟨x02,g9,b3⟩:=ae b3
    obtain ⟨h10,h11,h12⟩:=aq g9
    obtain ⟨h13,b3⟩|⟨h13,b3⟩:=af b3
    ·cases b3
     simp(config:=cS)only[go_sem,eqT h4,h6,h7,h8,h10,h11,h12,eqT h13]
     refine aw gb3 ?_
     simp(config:=cS)only[go_sem]
    ·cases b3
     obtain rfl:=(ak gb3).symm
     try dsimp only at h
     cases h
     simp(config:=cS)only[go_sem,eqT h4,h6,h7,h8,h10,h11,h12,eqF h13]
   ·cases b3
    obtain rfl:=(ak gb3).symm
    try dsimp only at h
    cases h
    simp(config:=cS)only[go_sem,eqF h4]
 ·cases h
  simp(config:=cS)only[go_sem,eqF h1]
def ix (a:Int)(c:List GTie)(d b:Int):St:=⟨[(1,.lit (.int .i64 a)),(8,.sl (ab GTie.enc c)),(9,.lit (.int .i64 d)),(10,.lit (.int .i64 b))],[],2⟩
attribute [go_sem] ix
attribute [go_sem] Tryd.ntmps119 Tryd.results119
theorem rb {s:GShow}{node res:Int}(h:eG s node=some res):ao Tryd.prog 119 [.agg (GShow.encS s),.lit (.int .i64 node)] [] (.lit (.int .i64 res)) []:=by
 refine am (ra:=[]) (md:=mdT) hT (hi:=hi00) Tryd.func119 rfl rfl (by decide +kernel) (by simp) ?_
 unfold eG at h
 obtain ⟨q02,l1,h⟩:=ae h
 simp(config:=cS)only[go_sem]
 refine au (m1:=.mk) (m2:=.mk) [.nf [1,8,9,10] []] (ix node s.ties ((s.ties.length:Nat):Int)) l1 ?_ ?_
 ·simp(config:=cS)only[go_sem]
 ·intro nb2 v10_1 bb2 b2 gb2
  unfold cv at b2
  try dsimp only at b2
  obtain ⟨h3,b2⟩|⟨h3,b2⟩:=af b2
  ·obtain ⟨x01,g4,b2⟩:=ae b2
   obtain ⟨h5,h6,h7⟩:=aq g4
   obtain ⟨h8,b2⟩|⟨h8,b2⟩:=af b2
   ·obtain ⟨h9,b2⟩|⟨h9,b2⟩:=af b2
    ·cases b2
     obtain rfl:=(ak gb2).symm
     try dsimp only at h
     cases h
     simp(config:=cS)only[go_sem,eqT h3,h5,h6,h7,eZt h8,eqT h9]
    ·cases b2
     simp(config:=cS)only[go_sem,eqT h3,h5,h6,h7,eZt h8,eqF h9]
     refine aw gb2 ?_
     simp(config:=cS)only[go_sem]
   ·cases b2
    simp(config:=cS)only[go_sem,eqT h3,h5,h6,h7,eZf h8]
    refine aw gb2 ?_
    simp(config:=cS)only[go_sem]
  ·cases b2
   obtain rfl:=(ak gb2).symm
   try dsimp only at h
   cases h
   simp(config:=cS)only[go_sem,eqF h3]
@[go_sem] def hi88_5:DT:=.i2 0 (.i2 1 (.i2 2 (.i2 3 (.i2 4 (.i2 5 (.i2 6 (.i2 7 (.i2 8 (.i2 9 (.i2 10 (.i2 11 (.i2 12 (.i2 13 (.i2 14 (.i2 15 (.i2 16 (.i2 17 (.i2 18 (.i2 19 (.i2 20 (.i2 21 (.i2 22 (.i2 23 (.i2 24 (.i2 25 (.i2 26 (.i2 27 (.i2 28 (.i2 29 (.i2 30 (.i2 31 (.i2 32 (.i2 33 (.i2 34 (.i2 35 (.i2 36 (.i2 37 (.i2 38 (.i2 39 (.i2 40 (.i2 41 (.i2 42 (.i2 44 (.i2 43 (.i2 45 (.i2 46 (.i2 47 (.i2 48 .nil))))))))))))))))))))))))))))))))))))))))))))))))
def hi88:Hint where
 acts:=fun _=>[]
 draws:=fun
  | 5=>⟨hi88_5,[[],[0],[0,1],[0,1,2],[0,1,2,3],.range 5,.range 6,.range 7,.range 8,.range 9,.range 10,.range 11,.range 12,.range 13,.range 14,.range 13,[0,1,2,3,4,5,6,7,8,9,10,11,12,15],.range 17,.range 18,.range 19,.range 20,.range 21,.range 22,.range 23,.range 24,.range 23,[0,1,2,3,4,5,6,7,8,9,10,11,12,13,14,15,16,17,18,19,20,21,22,25],.range 27,.range 28,.range 29,.range 23,[0,1,2,3,4,5,6,7,8,9,10,11,12,13,14,15,16,17,18,19,20,21,22,30],.range 23,[0,1,2,3,4,5,6,7,8,9,10,11,12,13,14,15,16,17,18,19,20,21,22,32],[0,1,2,3,4,5,6,7,8,9,10,11,12,13,14,15,16,17,18,19,20,21,22,30,31,32,33],[0,1,2,3,4,5,6,7,8,9,10,11,12,13,14,15,16,17,18,19,20,21,22,30,31,32,33,34],[0,1,2,3,4,5,6,7,8,9,10,11,12,13,14,15,16,17,18,19,20,21,22,30,31,32,33,34,35],.range 37,.range 38,.range 39,.range 40,.range 40,[0,1,2,3,4,5,6,7,8,9,10,11,12,13,14,15,16,17,18,19,20,21,22,23,24,25,26,27,28,29,30,31,32,33,34,35,36,37,38,39,41],.range 43,.range 40,.range 45,.range 46,.range 47,.range 48],.range 49⟩
  | _=>⟨.nil,[],[]⟩
theorem Bn (i:Nat):hi88.acts i=[]:=rfl
theorem Bo (i:Nat):hi88.views i=none:=rfl
attribute [go_sem] Bn Bo Tryd.ntmps88 Tryd.results88
@[go_sem] theorem Cf:(hi88.draws 5).order=hi88_5:=rfl
theorem sq {s:GShow}{i:Int}{res:Bool}(h:fw s i=some res):ao Tryd.prog 88 [.agg (GShow.encS s),.lit (.int .i64 i)] [] (.lit (.bool res)) []:=by
 refine am (ra:=[]) (md:=mdT) hT (hi:=hi88) Tryd.func88 rfl rfl (by decide +kernel) (by simp) ?_
 unfold fw at h
 obtain ⟨x01,g1,h⟩:=ae h
 obtain ⟨h2,h3,h4⟩:=aq g1
 obtain ⟨r02,g5,h⟩:=ae h
 simp(config:=cS)only[go_sem,h2,h3,h4]
 refine ag (bL g5) ?_
 obtain ⟨h6,h⟩|⟨h6,h⟩:=af h
 ·obtain ⟨r03,g7,h⟩:=ae h
  simp(config:=cS)only[go_sem,h2,h3,h4,eZt h6]
  refine ag (bL g7) ?_
  obtain ⟨h8,h⟩|⟨h8,h⟩:=af h
  ·obtain ⟨h9,h⟩|⟨h9,h⟩:=af h
   ·cases h
    simp(config:=cS)only[go_sem,h2,h3,h4,eZt h6,eZt h8,eqT h9]
   ·obtain ⟨h10,h⟩|⟨h10,h⟩:=af h
    ·cases h
     simp(config:=cS)only[go_sem,h2,h3,h4,eZt h6,eZt h8,eqF h9,eqT h10]
    ·obtain ⟨h11,h⟩|⟨h11,h⟩:=af h
     ·cases h
      simp(config:=cS)only[go_sem,h2,h3,h4,eZt h6,eZt h8,eqF h9,eqF h10,eqT h11]
     ·obtain ⟨h12,h⟩|⟨h12,h⟩:=af h
      ·cases h
       simp(config:=cS)only[go_sem,h2,h3,h4,eZt h6,eZt h8,eqF h9,eqF h10,eqF h11,eqT h12]
      ·obtain ⟨h13,h⟩|⟨h13,h⟩:=af h
       ·obtain ⟨h14,h⟩|⟨h14,h⟩:=af h
        ·obtain ⟨h15,h⟩|⟨h15,h⟩:=af h
         ·cases h
          simp(config:=cS)only[go_sem,h2,h3,h4,eZt h6,eZt h8,eqF h9,eqF h10,eqF h11,eqF h12,eZt h13,eqT h14,eqT h15]
         ·obtain ⟨x04,g16,h⟩:=ae h
          obtain ⟨h17,h18,h19⟩:=aq g16
          obtain ⟨h20,h⟩|⟨h20,h⟩:=af h
          ·obtain ⟨x05,g21,h⟩:=ae h
           obtain ⟨h22,h23,h24⟩:=aq g21
           obtain ⟨r06,g25,h⟩:=ae h
           simp(config:=cS)only[go_sem,h2,h3,h4,eZt h6,eZt h8,eqF h9,eqF h10,eqF h11,eqF h12,eZt h13,eqT h14,eqF h15,h17,h18,h19,eqT h20,h22,h23,h24]
           refine ag (qZ g25) ?_
           obtain ⟨h26,h⟩|⟨h26,h⟩:=af h
           ·obtain ⟨r07,g27,h⟩:=ae h
            simp(config:=cS)only[go_sem,h2,h3,h4,eZt h6,eZt h8,eqF h9,eqF h10,eqF h11,eqF h12,eZt h13,eqT h14,eqF h15,h17,h18,h19,eqT h20,h22,h23,h24,eZt h26]
            refine ag (rb g27) ?_
            cases h
            simp(config:=cS)only[go_sem,h2,h3,h4,eZt h6,eZt h8,eqF h9,eqF h10,eqF h11,eqF h12,eZt h13,eqT h14,eqF h15,h17,h18,h19,eqT h20,h22,h23,h24,eZt h26]
           ·cases h
            simp(config:=cS)only[go_sem,h2,h3,h4,eZt h6,eZt h8,eqF h9,eqF h10,eqF h11,eqF h12,eZt h13,eqT h14,eqF h15,h17,h18,h19,eqT h20,h22,h23,h24,eZf h26]
          ·cases h
           simp(config:=cS)only[go_sem,h2,h3,h4,eZt h6,eZt h8,eqF h9,eqF h10,eqF h11,eqF h12,eZt h13,eqT h14,eqF h15,h17,h18,h19,eqF h20]
        ·cases h
         simp(config:=cS)only[go_sem,h2,h3,h4,eZt h6,eZt h8,eqF h9,eqF h10,eqF h11,eqF h12,eZt h13,eqF h14]
       ·cases h
        simp(config:=cS)only[go_sem,h2,h3,h4,eZt h6,eZt h8,eqF h9,eqF h10,eqF h11,eqF h12,eZf h13]
  ·cases h
   simp(config:=cS)only[go_sem,h2,h3,h4,eZt h6,eZf h8]
 ·cases h
  simp(config:=cS)only[go_sem,h2,h3,h4,eZf h6]
def iN (a:Int)(b:List GNode)(c:List GTie)(d e:Int):St:=⟨[(1,.ptr 64 1 0 0),(21,.lit (.int .i64 a)),(22,.lit (.int .i64 e))],[(64,1,.var [.sl (ab GNode.encS b),.sl (ab GTie.enc c),.lit (.int .i64 d)])],2⟩
attribute [go_sem] iN
attribute [go_sem] Tryd.ntmps60 Tryd.results60
theorem lC {s:GShow}{res:Bool}(h:dW s=some res):ao Tryd.prog 60 [.agg (GShow.encS s)] [] (.lit (.bool res)) []:=by
 refine am (ra:=[]) (md:=mdT) hT (hi:=hi00) Tryd.func60 rfl rfl (by decide +kernel) (by simp) ?_
 unfold dW at h
 obtain ⟨r01,g1,h⟩:=ae h
 simp(config:=cS)only[go_sem]
 refine ag (qf g1) ?_
 obtain ⟨h2,h⟩|⟨h2,h⟩:=af h
 ·obtain ⟨h3,h⟩|⟨h3,h⟩:=af h
  ·cases h
   simp(config:=cS)only[go_sem,eZt h2,eqT h3]
  ·obtain ⟨r02,g4,h⟩:=ae h
   simp(config:=cS)only[go_sem,eZt h2,eqF h3]
   refine ag (bL g4) ?_
   obtain ⟨h5,h⟩|⟨h5,h⟩:=af h
   ·obtain ⟨q04,l6,h⟩:=ae h
    simp(config:=cS)only[go_sem,eZt h5]
    refine au (m1:=.mk) (m2:=.mk) [.nf [1,21,22] [64]] (iN ((s.ties.length:Nat):Int) s.nodes s.ties s.horizon) l6 ?_ ?_
    ·simp(config:=cS)only[go_sem]
    ·intro nb7 v22_1 bb7 b7 gb7
     unfold cU at b7
     try dsimp only at b7
     obtain ⟨h8,b7⟩|⟨h8,b7⟩:=af b7
     ·obtain ⟨r03,g9,b7⟩:=ae b7
      simp(config:=cS)only[go_sem,eqT h8]
      refine ag (sq g9) ?_
      obtain ⟨h10,b7⟩|⟨h10,b7⟩:=af b7
      ·cases b7
       simp(config:=cS)only[go_sem,eZt h10]
       refine aw gb7 ?_
       simp(config:=cS)only[go_sem]
      ·cases b7
       obtain rfl:=(ak gb7).symm
       try dsimp only at h
       cases h
       simp(config:=cS)only[go_sem,eZf h10]
     ·cases b7
      obtain rfl:=(ak gb7).symm
      try dsimp only at h
      cases h
      simp(config:=cS)only[go_sem,eqF h8]
   ·cases h
    simp(config:=cS)only[go_sem,eZf h5]
 ·cases h
  simp(config:=cS)only[go_sem,eZf h2]
def hM (v:List Int)(a b:Int):St:=⟨[(0,.sl (ab eI v)),(5,.sl (ab eI v)),(6,.lit (.int .i64 a)),(7,.lit (.int .i64 b))],[],2⟩
attribute [go_sem] hM
attribute [go_sem] Tryd.ntmps98 Tryd.results98
theorem qg {v:List Int}{res:Bool}(h:eg v=some res):ao Tryd.prog 98 [.sl (ab eI v)] [] (.lit (.bool res)) []:=by
 refine am (ra:=[]) (md:=mdT) hT (hi:=hi00) Tryd.func98 rfl rfl (by decide +kernel) (by simp) ?_
 unfold eg at h
 obtain ⟨q03,l1,h⟩:=ae h
 simp(config:=cS)only[go_sem]
 refine au (m1:=.mk) (m2:=.mk) [.nf [0,5,6,7] []] (hM v ((v.length:Nat):Int)) l1 ?_ ?_
 ·simp(config:=cS)only[go_sem]
 ·intro nb2 v7_1 bb2 b2 gb2
  unfold ca at b2
  try dsimp only at b2
  obtain ⟨h3,b2⟩|⟨h3,b2⟩:=af b2
  ·obtain ⟨x01,g4,b2⟩:=ae b2
   obtain ⟨h5,h6,h7⟩:=aq g4
   obtain ⟨r02,g8,b2⟩:=ae b2
   simp(config:=cS)only[go_sem,eqT h3,h5,h6,h7]
   refine ag (bL g8) ?_
   obtain ⟨h9,b2⟩|⟨h9,b2⟩:=af b2
   ·cases b2
    simp(config:=cS)only[go_sem,eZt h9]
    refine aw gb2 ?_
    simp(config:=cS)only[go_sem]
   ·cases b2
    obtain rfl:=(ak gb2).symm
    try dsimp only at h
    cases h
    simp(config:=cS)only[go_sem,eZf h9]
  ·cases b2
   obtain rfl:=(ak gb2).symm
   try dsimp only at h
   cases h
   simp(config:=cS)only[go_sem,eqF h3]
def iy (a:List Int)(d:Int)(e:List GNode)(f:List GTie)(g b:Int)(c:List Int)(h:Int):St:=⟨[(2,.ptr 128 1 0 0),(3,.ptr 192 1 0 0),(44,.sl (ab eI a)),(45,.lit (.int .i64 d)),(46,.lit (.int .i64 h))],[(128,1,.var [.sl (ab GNode.encS e),.sl (ab GTie.enc f),.lit (.int .i64 g)]),(192,1,.var [.lit (.int .i64 b),.sl (ab eI a),.sl (ab eI c)])],2⟩
attribute [go_sem] iy
def iz (d:List GNode)(e:List GTie)(f a:Int)(b c:List Int)(p:Int):St:=⟨[(2,.ptr 128 1 0 0),(3,.ptr 192 1 0 0),(7,.lit (.int .i64 p))],[(128,1,.var [.sl (ab GNode.encS d),.sl (ab GTie.enc e),.lit (.int .i64 f)]),(192,1,.var [.lit (.int .i64 a),.sl (ab eI b),.sl (ab eI c)])],2⟩
attribute [go_sem] iz
@[go_sem] def hi69_13:DT:=.i2 0 (.i2 1 (.i2 2 (.i2 3 (.i2 4 (.i2 5 (.i2 6 (.i2 7 (.i2 8 (.i2 9 (.i2 10 (.i2 11 (.i2 12 (.i2 13 (.i2 14 (.i2 15 (.i2 16 (.i2 17 .nil)))))))))))))))))
def hi69:Hint where
 acts:=fun _=>[]
 draws:=fun
  | 13=>⟨hi69_13,[[],[0],[],[2],[0,1,2,3],.range 5,.range 6,[],[7],[7,8],[7,8,9],[7,8,9,10],[7,8,9],[7,8,9,10,11,12],[7,8,9,10,11,12,13],[7,8,9,10,11,12,13,14],[7,8,9,10,11,12,13,14,15],.range 17],.range 18⟩
  | _=>⟨.nil,[],[]⟩
theorem Bp (i:Nat):hi69.acts i=[]:=rfl
theorem Bq (i:Nat):hi69.views i=none:=rfl
attribute [go_sem] Bp Bq Tryd.ntmps69 Tryd.results69
@[go_sem] theorem BZ:(hi69.draws 13).order=hi69_13:=rfl
theorem rc {s:GShow}{v1:GState}{res:Bool}(h:eN s v1=some res):ao Tryd.prog 69 [.agg (GShow.encS s),.agg (GState.encS v1)] [] (.lit (.bool res)) []:=by
 refine am (ra:=[]) (md:=mdT) hT (hi:=hi69) Tryd.func69 rfl rfl (by decide +kernel) (by simp) ?_
 unfold eN at h
 obtain ⟨r01,g1,h⟩:=ae h
 simp(config:=cS)only[go_sem]
 refine ag (lC g1) ?_
 obtain ⟨h2,h⟩|⟨h2,h⟩:=af h
 ·obtain ⟨r02,g3,h⟩:=ae h
  simp(config:=cS)only[go_sem,eZt h2]
  refine ag (bL g3) ?_
  obtain ⟨h4,h⟩|⟨h4,h⟩:=af h
  ·obtain ⟨h5,h⟩|⟨h5,h⟩:=af h
   ·obtain ⟨x03,g6,h⟩:=ae h
    obtain ⟨h8,h9⟩:=ow (k:=0) g6
    obtain ⟨h10,h⟩|⟨h10,h⟩:=af h
    ·obtain ⟨r04,g11,h⟩:=ae h
     simp(config:=cS)only[go_sem,eZt h2,eZt h4,eqT h5,h8,h9,eqT h10]
     refine ag (qg g11) ?_
     obtain ⟨h12,h⟩|⟨h12,h⟩:=af h
     ·obtain ⟨q11,l13,h⟩:=ae h
      simp(config:=cS)only[go_sem,eZt h2,eZt h4,eqT h5,h8,h9,eqT h10,eZt h12]
      refine au (m1:=.mk) (m2:=.mk) [.nf [2,3,44,45,46] [128,192]] (iy v1.times ((v1.times.length:Nat):Int) s.nodes s.ties s.horizon v1.now v1.values) l13 ?_ ?_
      ·simp(config:=cS)only[go_sem,eZt h2,eZt h4,eqT h5,h8,h9,eqT h10,eZt h12]
      ·intro nb14 v46_1 bb14 b14 gb14
       unfold cz at b14
       try dsimp only at b14
       obtain ⟨h15,b14⟩|⟨h15,b14⟩:=af b14
       ·obtain ⟨x05,g16,b14⟩:=ae b14
        obtain ⟨h17,h18,h19⟩:=aq g16
        obtain ⟨h20,b14⟩|⟨h20,b14⟩:=af b14
        ·obtain ⟨r06,g21,b14⟩:=ae b14
         simp(config:=cS)only[go_sem,eZt h2,eZt h4,eqT h5,h8,h9,eqT h10,eZt h12,eqT h15,h17,h18,h19,eqT h20]
         refine ag (bL g21) ?_
         obtain ⟨h22,b14⟩|⟨h22,b14⟩:=af b14
         ·cases b14
          simp(config:=cS)only[go_sem,eZt h2,eZt h4,eqT h5,h8,h9,eqT h10,eZt h12,eqT h15,h17,h18,h19,eqT h20,eZt h22]
          refine aw gb14 ?_
          simp(config:=cS)only[go_sem,eZt h2,eZt h4,eqT h5,h8,h9,eqT h10,eZt h12,eqT h15,h17,h18,h19,eqT h20,eZt h22]
         ·cases b14
          obtain rfl:=(ak gb14).symm
          try dsimp only at h
          cases h
          simp(config:=cS)only[go_sem,eZt h2,eZt h4,eqT h5,h8,h9,eqT h10,eZt h12,eqT h15,h17,h18,h19,eqT h20,eZf h22]
        ·cases b14
         simp(config:=cS)only[go_sem,eZt h2,eZt h4,eqT h5,h8,h9,eqT h10,eZt h12,eqT h15,h17,h18,h19,eqF h20]
         refine aw gb14 ?_
         simp(config:=cS)only[go_sem,eZt h2,eZt h4,eqT h5,h8,h9,eqT h10,eZt h12,eqT h15,h17,h18,h19,eqF h20]
       ·cases b14
        obtain rfl:=(ak gb14).symm
        try dsimp only at h
        obtain ⟨q10,l25,h⟩:=ae h
        simp(config:=cS)only[go_sem,eZt h2,eZt h4,eqT h5,h8,h9,eqT h10,eZt h12,eqF h15]
        refine au (m1:=.mk) (m2:=.mk) [.nf [2,3,7] [128,192]] (iz s.nodes s.ties s.horizon v1.now v1.times v1.values) l25 ?_ ?_
        ·simp(config:=cS)only[go_sem,eZt h2,eZt h4,eqT h5,h8,h9,eqT h10,eZt h12,eqF h15]
        ·intro nb26 p_2 bb26 b26 gb26
         unfold cA at b26
         try dsimp only at b26
         obtain ⟨h27,b26⟩|⟨h27,b26⟩:=af b26
         ·obtain ⟨r07,g28,b26⟩:=ae b26
          simp(config:=cS)only[go_sem,eZt h2,eZt h4,eqT h5,h8,h9,eqT h10,eZt h12,eqF h15,eqT h27]
          refine ag (gz g28) ?_
          obtain ⟨x08,g29,b26⟩:=ae b26
          obtain ⟨h30,h31,h32⟩:=aq g29
          obtain ⟨h33,b26⟩|⟨h33,b26⟩:=af b26
          ·obtain ⟨x09,g34,b26⟩:=ae b26
           obtain ⟨h35,h36,h37⟩:=aq g34
           obtain ⟨h38,b26⟩|⟨h38,b26⟩:=af b26
           ·cases b26
            simp(config:=cS)only[go_sem,eZt h2,eZt h4,eqT h5,h8,h9,eqT h10,eZt h12,eqF h15,eqT h27,h30,h31,h32,eqT h33,h35,h36,h37,eqT h38]
            refine aw gb26 ?_
            simp(config:=cS)only[go_sem,eZt h2,eZt h4,eqT h5,h8,h9,eqT h10,eZt h12,eqF h15,eqT h27,h30,h31,h32,eqT h33,h35,h36,h37,eqT h38]
           ·cases b26
            obtain rfl:=(ak gb26).symm
            try dsimp only at h
            cases h
            simp(config:=cS)only[go_sem,eZt h2,eZt h4,eqT h5,h8,h9,eqT h10,eZt h12,eqF h15,eqT h27,h30,h31,h32,eqT h33,h35,h36,h37,eqF h38]
          ·obtain ⟨h40,b26⟩|⟨h40,b26⟩:=af b26
           ·cases b26
            simp(config:=cS)only[go_sem,eZt h2,eZt h4,eqT h5,h8,h9,eqT h10,eZt h12,eqF h15,eqT h27,h30,h31,h32,eqF h33,eqT h40]
            refine aw gb26 ?_
            simp(config:=cS)only[go_sem,eZt h2,eZt h4,eqT h5,h8,h9,eqT h10,eZt h12,eqF h15,eqT h27,h30,h31,h32,eqF h33,eqT h40]
           ·cases b26
            obtain rfl:=(ak gb26).symm
            try dsimp only at h
            cases h
            simp(config:=cS)only[go_sem,eZt h2,eZt h4,eqT h5,h8,h9,eqT h10,eZt h12,eqF h15,eqT h27,h30,h31,h32,eqF h33,eqF h40]
         ·cases b26
          obtain rfl:=(ak gb26).symm
          try dsimp only at h
          cases h
          simp(config:=cS)only[go_sem,eZt h2,eZt h4,eqT h5,h8,h9,eqT h10,eZt h12,eqF h15,eqF h27]
     ·cases h
      simp(config:=cS)only[go_sem,eZt h2,eZt h4,eqT h5,h8,h9,eqT h10,eZf h12]
    ·cases h
     simp(config:=cS)only[go_sem,eZt h2,eZt h4,eqT h5,h8,h9,eqF h10]
   ·cases h
    simp(config:=cS)only[go_sem,eZt h2,eZt h4,eqF h5]
  ·cases h
   simp(config:=cS)only[go_sem,eZt h2,eZf h4]
 ·cases h
  simp(config:=cS)only[go_sem,eZf h2]
def fW (b:List Int)(c:Int)(d:List GNode)(e:List GTie)(f:Int):(Int × (List ByteArray))→St
 | (g,a)=>⟨[(2,.ptr 128 1 0 0),(5,.ref 1216 1 0 a.length),(20,.sl (ab eI b)),(21,.lit (.int .i64 c)),(22,.lit (.int .i64 g))],[(128,1,.var [.sl (ab GNode.encS d),.sl (ab GTie.enc e),.lit (.int .i64 f)]),(1216,1,.row true (ab eS a))],2⟩
attribute [go_sem] fW
@[go_sem] def hi70_8:DT:=.i2 0 (.i1 1 (.i1 2 (.i2 3 (.i1 4 (.i1 5 (.i1 6 (.i2 7 (.i2 8 (.i0 9 [1,2,4,5,6] (.i2 10 (.i2 11 (.i2 12 (.i2 13 .nil)))))))))))))
def hi70:Hint where
 acts:=fun _=>[]
 draws:=fun
  | 8=>⟨hi70_8,[[],[],[1],[],[1,2,3],[1,2,3,4],[1,2,3,4,5],[1,2,3,4,5,6],[],[8],[1,2,3,4,5,6,7,8,9],[1,2,3,4,5,6,7,8,9,10],.range 12,.range 13],.range 14⟩
  | _=>⟨.nil,[],[]⟩
theorem Br (i:Nat):hi70.acts i=[]:=rfl
theorem Bs (i:Nat):hi70.views i=none:=rfl
attribute [go_sem] Br Bs Tryd.ntmps70 Tryd.results70
@[go_sem] theorem Cg:(hi70.draws 8).order=hi70_8:=rfl
theorem mg {s:GShow}{times:List Int}{res:ByteArray}(h:dh s times=some res):ao Tryd.prog 70 [.agg (GShow.encS s),.sl (ab eI times)] [] (.lit (.string res)) []:=by
 refine am (ra:=[]) (md:=mdT) hT (hi:=hi70) Tryd.func70 rfl rfl (by decide +kernel) (by simp) ?_
 unfold dh at h
 obtain ⟨r01,g1,h⟩:=ae h
 simp(config:=cS)only[go_sem]
 refine ag (lC g1) ?_
 obtain ⟨h2,h⟩|⟨h2,h⟩:=af h
 ·obtain ⟨h3,h⟩|⟨h3,h⟩:=af h
  ·obtain ⟨q06,l4,h⟩:=ae h
   simp(config:=cS)only[go_sem,eZt h2,eqT h3]
   refine au (m1:=.mk) (m2:=.mk) [.nf [2,5,20,21,22] [128,1216]] (fW times ((times.length:Nat):Int) s.nodes s.ties s.horizon) l4 ?_ ?_
   ·simp(config:=cS)only[go_sem]
   ·intro nb5 sb5 bb5 b5 gb5
    obtain ⟨v22_1,parts_1⟩:=sb5
    unfold cd at b5
    try dsimp only at b5
    obtain ⟨h6,b5⟩|⟨h6,b5⟩:=af b5
    ·obtain ⟨x02,g7,b5⟩:=ae b5
     obtain ⟨h8,h9,h10⟩:=aq g7
     obtain ⟨h11,b5⟩|⟨h11,b5⟩:=af b5
     ·cases b5
      simp(config:=cS)only[go_sem,eqT h6,h8,h9,h10,eqT h11]
      refine aw gb5 ?_
      simp(config:=cS)only[go_sem]
     ·obtain ⟨x03,g12,b5⟩:=ae b5
      obtain ⟨h13,h14,h15⟩:=aq g12
      obtain ⟨h16,b5⟩:=az b5
      obtain ⟨r04,g17,b5⟩:=ae b5
      simp(config:=cS)only[go_sem,eqT h6,h8,h9,h10,eqF h11,h13,h14,h15,eqT h16]
      refine ag (gO g17) ?_
      obtain ⟨h18,b5⟩:=az b5
      try simp(config:=cS)only[go_sem] at h18
      obtain ⟨h19,b5⟩:=az b5
      obtain ⟨h20,b5⟩:=az b5
      cases b5
      simp(config:=cS)only[go_sem,eZt h2,eqT h3,eqT h6,h8,h9,h10,eqF h11,h13,h14,h15,eqT h16,eqT h18,eqT h19,eqT h20]
      refine aw gb5 ?_
      simp(config:=cS)only[go_sem]
    ·cases b5
     obtain rfl:=(ak gb5).symm
     try dsimp only at h
     obtain ⟨h22,h⟩|⟨h22,h⟩:=af h
     ·cases h
      simp(config:=cS)only[go_sem,eqF h6,eqT h22]
     ·obtain ⟨r05,g23,h⟩:=ae h
      simp(config:=cS)only[go_sem,eqF h6,eqF h22]
      refine ag (ol g23) ?_
      cases h
      simp(config:=cS)only[go_sem]
  ·cases h
   simp(config:=cS)only[go_sem,eZt h2,eqF h3]
 ·cases h
  simp(config:=cS)only[go_sem,eZf h2]
def fX (b:List Int)(c:Int):(Int × (List ByteArray))→St
 | (d,a)=>⟨[(3,.ref 448 1 0 a.length),(14,.sl (ab eI b)),(15,.lit (.int .i64 c)),(16,.lit (.int .i64 d))],[(448,1,.row true (ab eS a))],2⟩
attribute [go_sem] fX
attribute [go_sem] Tryd.ntmps71 Tryd.results71
theorem mh {l:List Int}{res:ByteArray}(h:di l=some res):ao Tryd.prog 71 [.sl (ab eI l)] [] (.lit (.string res)) []:=by
 refine am (ra:=[]) (md:=mdT) hT (hi:=hi00) Tryd.func71 rfl rfl (by decide +kernel) (by simp) ?_
 unfold di at h
 obtain ⟨r01,g1,h⟩:=ae h
 simp(config:=cS)only[go_sem]
 refine ag (gr g1) ?_
 obtain ⟨h2,h⟩|⟨h2,h⟩:=af h
 ·obtain ⟨h3,h⟩|⟨h3,h⟩:=af h
  ·cases h
   simp(config:=cS)only[go_sem,eZt h2,eqT h3]
  ·obtain ⟨q06,l4,h⟩:=ae h
   simp(config:=cS)only[go_sem,eZt h2,eqF h3]
   refine au (m1:=.mk) (m2:=.mk) [.nf [3,14,15,16] [448]] (fX l ((l.length:Nat):Int)) l4 ?_ ?_
   ·simp(config:=cS)only[go_sem]
   ·intro nb5 sb5 bb5 b5 gb5
    obtain ⟨v16_1,parts_1⟩:=sb5
    unfold ce at b5
    try dsimp only at b5
    obtain ⟨h6,b5⟩|⟨h6,b5⟩:=af b5
    ·obtain ⟨x02,g7,b5⟩:=ae b5
     obtain ⟨h8,h9,h10⟩:=aq g7
     obtain ⟨r03,g11,b5⟩:=ae b5
     simp(config:=cS)only[go_sem,eqT h6,h8,h9,h10]
     refine ag (gq g11) ?_
     obtain ⟨r04,g12,b5⟩:=ae b5
     simp(config:=cS)only[go_sem]
     refine ag (gO g12) ?_
     obtain ⟨h13,b5⟩:=az b5
     obtain ⟨h14,b5⟩|⟨h14,b5⟩:=af b5
     ·obtain ⟨h15,b5⟩:=az b5
      try simp(config:=cS)only[go_sem] at h15
      obtain ⟨h16,b5⟩:=az b5
      obtain ⟨h17,b5⟩:=az b5
      cases b5
      simp(config:=cS)only[go_sem,eZt h2,eqF h3,eqT h6,h8,h9,h10,eqT h13,eqT h14,eqT h15,eqT h16,eqT h17]
      refine aw gb5 ?_
      simp(config:=cS)only[go_sem]
     ·obtain ⟨h18,b5⟩:=az b5
      obtain ⟨h19,b5⟩:=az b5
      cases b5
      simp(config:=cS)only[go_sem,eqT h13,eqF h14,eqT h18,eqT h19]
      refine aw gb5 ?_
      simp(config:=cS)only[go_sem]
    ·cases b5
     obtain rfl:=(ak gb5).symm
     try dsimp only at h
     obtain ⟨r05,g21,h⟩:=ae h
     simp(config:=cS)only[go_sem,eqF h6]
     refine ag (ol g21) ?_
     cases h
     simp(config:=cS)only[go_sem]
 ·cases h
  simp(config:=cS)only[go_sem,eZf h2]
def fY (a:List Int)(d:Int)(e:List GNode)(f:List GTie)(g b:Int)(c:List Int):(Int × (List Int))→St
 | (h,l)=>⟨[(2,.ptr 128 1 0 0),(3,.ptr 192 1 0 0),(5,.ref 768 1 0 l.length),(14,.sl (ab eI a)),(15,.lit (.int .i64 d)),(16,.lit (.int .i64 h))],[(128,1,.var [.sl (ab GNode.encS e),.sl (ab GTie.enc f),.lit (.int .i64 g)]),(192,1,.var [.lit (.int .i64 b),.sl (ab eI c),.sl (ab eI a)]),(768,1,.row true (ab eI l))],2⟩
attribute [go_sem] fY
@[go_sem] def hi35_10:DT:=.i2 0 (.i2 1 (.i1 4 (.i1 5 (.i1 6 (.i2 10 (.i0 2 [4,5,6] (.i2 3 (.i2 7 (.i2 8 (.i2 9 (.i2 11 (.i2 12 (.i2 13 .nil)))))))))))))
def hi35:Hint where
 acts:=fun _=>[]
 draws:=fun
  | 10=>⟨hi35_10,[[],[0],[0,1],[0,1,2],[],[],[5],[0,1,2,4,5,6],.range 8,.range 9,[],[0,1,2,4,5,6,7,10],.range 12,.range 13],.range 14⟩
  | _=>⟨.nil,[],[]⟩
theorem Bt (i:Nat):hi35.acts i=[]:=rfl
theorem Bu (i:Nat):hi35.views i=none:=rfl
attribute [go_sem] Bt Bu Tryd.ntmps35 Tryd.results35
@[go_sem] theorem Ca:(hi35.draws 10).order=hi35_10:=rfl
theorem mi {s:GShow}{v1:GState}{res:ByteArray}(h:dj s v1=some res):ao Tryd.prog 35 [.agg (GShow.encS s),.agg (GState.encS v1)] [] (.lit (.string res)) []:=by
 refine am (ra:=[]) (md:=mdT) hT (hi:=hi35) Tryd.func35 rfl rfl (by decide +kernel) (by simp) ?_
 unfold dj at h
 obtain ⟨r01,g1,h⟩:=ae h
 simp(config:=cS)only[go_sem]
 refine ag (rc g1) ?_
 obtain ⟨h2,h⟩|⟨h2,h⟩:=af h
 ·obtain ⟨q06,l3,h⟩:=ae h
  simp(config:=cS)only[go_sem,eZt h2]
  refine au (m1:=.mk) (m2:=.mk) [.nf [2,3,5,14,15,16] [128,192,768]] (fY v1.values ((v1.values.length:Nat):Int) s.nodes s.ties s.horizon v1.now v1.times) l3 ?_ ?_
  ·simp(config:=cS)only[go_sem]
  ·intro nb4 sb4 bb4 b4 gb4
   obtain ⟨v16_1,l_1⟩:=sb4
   unfold cf at b4
   try dsimp only at b4
   obtain ⟨h5,b4⟩|⟨h5,b4⟩:=af b4
   ·obtain ⟨x02,g6,b4⟩:=ae b4
    obtain ⟨h7,h8,h9⟩:=aq g6
    obtain ⟨h10,b4⟩|⟨h10,b4⟩:=af b4
    ·cases b4
     simp(config:=cS)only[go_sem,eqT h5,h7,h8,h9,eqT h10]
     refine aw gb4 ?_
     simp(config:=cS)only[go_sem]
    ·obtain ⟨h11,b4⟩:=az b4
     obtain ⟨h12,b4⟩:=az b4
     cases b4
     simp(config:=cS)only[go_sem,eqT h5,h7,h8,h9,eqF h10,eqT h11,eqT h12]
     refine aw gb4 ?_
     simp(config:=cS)only[go_sem]
   ·cases b4
    obtain rfl:=(ak gb4).symm
    try dsimp only at h
    obtain ⟨r03,g14,h⟩:=ae h
    simp(config:=cS)only[go_sem,eqF h5]
    refine ag (gO g14) ?_
    obtain ⟨h15,h⟩:=az h
    obtain ⟨r04,g16,h⟩:=ae h
    simp(config:=cS)only[go_sem,eqT h15]
    refine ag (mg g16) ?_
    obtain ⟨h17,h⟩:=az h
    try simp(config:=cS)only[go_sem] at h17
    obtain ⟨h18,h⟩:=az h
    try simp(config:=cS)only[go_sem] at h18
    obtain ⟨r05,g19,h⟩:=ae h
    simp(config:=cS)only[go_sem,eZt h2,eqF h5,eqT h15,eqT h17,eqT h18]
    refine ag (mh g19) ?_
    obtain ⟨h20,h⟩:=az h
    try simp(config:=cS)only[go_sem] at h20
    cases h
    simp(config:=cS)only[go_sem,eZt h2,eqF h5,eqT h15,eqT h17,eqT h18,eqT h20]
 ·cases h
  simp(config:=cS)only[go_sem,eZf h2]
def iO (s:ByteArray)(i:Int):St:=⟨[(0,.lit (.string s)),(3,.lit (.int .i64 i))],[],2⟩
attribute [go_sem] iO
@[go_sem] def hi144_4:DT:=.i2 0 (.i2 1 (.i2 2 (.i2 3 (.i2 4 (.i2 5 (.i2 6 (.i2 7 (.i2 8 (.i2 9 (.i2 10 (.i2 11 (.i2 12 (.i2 13 (.i2 14 (.i2 15 (.i2 16 (.i2 17 (.i2 18 (.i2 19 (.i2 20 (.i2 21 .nil)))))))))))))))))))))
def sU:Hint where
 acts:=fun _=>[]
 draws:=fun
  | 4=>⟨hi144_4,[[],[],[0,1],[0,1,2],[0,1,2,3],.range 5,.range 5,.range 7,.range 8,.range 9,[],[],[10,11],[10,11,12],[0,1,2,3,4,10,11,12,13],[0,1,2,3,4,10,11,12,13,14],[0,1,2,3,4,10,11,12,13,14],[0,1,2,3,4,10,11,12,13,14,15,16],[0,1,2,3,4,10,11,12,13,14,15,16,17],[0,1,2,3,4,10,11,12,13,14,15,16,17,18],.range 15,.range 21],[0,1,2,3,4,5,6,7,8,9,10,11,12,13,14,16,17,18,19,20,15,21]⟩
  | _=>⟨.nil,[],[]⟩
theorem Az (i:Nat):sU.acts i=[]:=rfl
theorem AA (i:Nat):sU.views i=none:=rfl
attribute [go_sem] Az AA Tryd.ntmps144 Tryd.results144
@[go_sem] theorem Cc:(sU.draws 4).order=hi144_4:=rfl
theorem sr {s:ByteArray}{res:Bool}(h:fy s=some res):ao Tryd.prog 144 [.lit (.string s)] [] (.lit (.bool res)) []:=by
 refine am (ra:=[]) (md:=mdT) hT (hi:=sU) Tryd.func144 rfl rfl (by decide +kernel) (by simp) ?_
 unfold fy at h
 obtain ⟨q02,l1,h⟩:=ae h
 simp(config:=cS)only[go_sem]
 refine au (m1:=.mk) (m2:=.mk) [.nf [0,3] []] (iO s) l1 ?_ ?_
 ·simp(config:=cS)only[go_sem]
 ·intro nb2 i_1 bb2 b2 gb2
  unfold cV at b2
  try dsimp only at b2
  obtain ⟨h3,b2⟩|⟨h3,b2⟩:=af b2
  ·obtain ⟨c1001,g4,b2⟩:=ae b2
   obtain ⟨h5,h6,h7⟩:=rM g4
   obtain ⟨h8,b2⟩|⟨h8,b2⟩:=af b2
   ·obtain ⟨h9,b2⟩|⟨h9,b2⟩:=af b2
    ·obtain ⟨h10,b2⟩|⟨h10,b2⟩:=af b2
     ·cases b2
      simp(config:=cS)only[go_sem,eqT h3,h5,h6,h7,eqT h8,eqT h9,eqT h10]
      refine aw gb2 ?_
      simp(config:=cS)only[go_sem]
     ·obtain ⟨h11,b2⟩|⟨h11,b2⟩:=af b2
      ·obtain ⟨h12,b2⟩|⟨h12,b2⟩:=af b2
       ·cases b2
        obtain rfl:=(ak gb2).symm
        try dsimp only at h
        cases h
        simp(config:=cS)only[go_sem,eqT h3,h5,h6,h7,eqT h8,eqT h9,eqF h10,eqT h11,eqT h12]
       ·cases b2
        simp(config:=cS)only[go_sem,eqT h3,h5,h6,h7,eqT h8,eqT h9,eqF h10,eqT h11,eqF h12]
        refine aw gb2 ?_
        simp(config:=cS)only[go_sem]
      ·cases b2
       obtain rfl:=(ak gb2).symm
       try dsimp only at h
       cases h
       simp(config:=cS)only[go_sem,eqT h3,h5,h6,h7,eqT h8,eqT h9,eqF h10,eqF h11]
    ·obtain ⟨h15,b2⟩|⟨h15,b2⟩:=af b2
     ·cases b2
      simp(config:=cS)only[go_sem,eqT h3,h5,h6,h7,eqT h8,eqF h9,eqT h15]
      refine aw gb2 ?_
      simp(config:=cS)only[go_sem]
     ·cases b2
      obtain rfl:=(ak gb2).symm
      try dsimp only at h
      cases h
      simp(config:=cS)only[go_sem,eqT h3,h5,h6,h7,eqT h8,eqF h9,eqF h15]
   ·obtain ⟨h17,b2⟩|⟨h17,b2⟩:=af b2
    ·obtain ⟨h18,b2⟩|⟨h18,b2⟩:=af b2
     ·obtain ⟨h19,b2⟩|⟨h19,b2⟩:=af b2
      ·cases b2
       obtain rfl:=(ak gb2).symm
       try dsimp only at h
       cases h
       simp(config:=cS)only[go_sem,eqT h3,h5,h6,h7,eqF h8,eqT h17,eqT h18,eqT h19]
      ·cases b2
       simp(config:=cS)only[go_sem,eqT h3,h5,h6,h7,eqF h8,eqT h17,eqT h18,eqF h19]
       refine aw gb2 ?_
       simp(config:=cS)only[go_sem]
     ·cases b2
      obtain rfl:=(ak gb2).symm
      try dsimp only at h
      cases h
      simp(config:=cS)only[go_sem,eqT h3,h5,h6,h7,eqF h8,eqT h17,eqF h18]
    ·cases b2
     obtain rfl:=(ak gb2).symm
     try dsimp only at h
     cases h
     simp(config:=cS)only[go_sem,eqT h3,h5,h6,h7,eqF h8,eqF h17]
  ·cases b2
   obtain rfl:=(ak gb2).symm
   try dsimp only at h
   obtain ⟨h24,h⟩|⟨h24,h⟩:=af h
   ·cases h
    simp(config:=cS)only[go_sem,eqF h3,eqT h24]
   ·cases h
    simp(config:=cS)only[go_sem,eqF h3,eqF h24]
attribute [go_sem] Tryd.ntmps104 Tryd.results104
theorem gM {l res:Int}(h:cF l=some res):ao Tryd.prog 104 [.lit (.int .i64 l)] [] (.lit (.int .i64 res)) []:=by
 refine am (ra:=[]) (md:=mdT) hT (hi:=hi00) Tryd.func104 rfl rfl (by decide +kernel) (by simp) ?_
 unfold cF at h
 cases h
 simp(config:=cS)only[go_sem]
def iA (l:List Int)(a b:Int):St:=⟨[(0,.sl (ab eI l)),(5,.sl (ab eI l)),(6,.lit (.int .i64 a)),(7,.lit (.int .i64 b))],[],2⟩
attribute [go_sem] iA
attribute [go_sem] Tryd.ntmps103 Tryd.results103
theorem gu {l:List Int}{res:Bool}(h:bX l=some res):ao Tryd.prog 103 [.sl (ab eI l)] [] (.lit (.bool res)) []:=by
 refine am (ra:=[]) (md:=mdT) hT (hi:=hi00) Tryd.func103 rfl rfl (by decide +kernel) (by simp) ?_
 unfold bX at h
 obtain ⟨q05,l1,h⟩:=ae h
 simp(config:=cS)only[go_sem]
 refine au (m1:=.mk) (m2:=.mk) [.nf [0,5,6,7] []] (iA l ((l.length:Nat):Int)) l1 ?_ ?_
 ·simp(config:=cS)only[go_sem]
 ·intro nb2 v7_1 bb2 b2 gb2
  unfold cw at b2
  try dsimp only at b2
  obtain ⟨h3,b2⟩|⟨h3,b2⟩:=af b2
  ·obtain ⟨x01,g4,b2⟩:=ae b2
   obtain ⟨h5,h6,h7⟩:=aq g4
   obtain ⟨h8,b2⟩|⟨h8,b2⟩:=af b2
   ·cases b2
    obtain rfl:=(ak gb2).symm
    try dsimp only at h
    cases h
    simp(config:=cS)only[go_sem,eqT h3,h5,h6,h7,eqT h8]
   ·obtain ⟨h10,b2⟩|⟨h10,b2⟩:=af b2
    ·cases b2
     obtain rfl:=(ak gb2).symm
     try dsimp only at h
     cases h
     simp(config:=cS)only[go_sem,eqT h3,h5,h6,h7,eqF h8,eqT h10]
    ·obtain ⟨h12,b2⟩|⟨h12,b2⟩:=af b2
     ·cases b2
      obtain rfl:=(ak gb2).symm
      try dsimp only at h
      cases h
      simp(config:=cS)only[go_sem,eqT h3,h5,h6,h7,eqF h8,eqF h10,eqT h12]
     ·obtain ⟨h14,b2⟩|⟨h14,b2⟩:=af b2
      ·obtain ⟨x02,g15,b2⟩:=ae b2
       obtain ⟨h16,h17,h18⟩:=aq g15
       obtain ⟨r03,g19,b2⟩:=ae b2
       simp(config:=cS)only[go_sem,eqT h3,h5,h6,h7,eqF h8,eqF h10,eqF h12,eqT h14,h16,h17,h18]
       refine ag (gM g19) ?_
       obtain ⟨r04,g20,b2⟩:=ae b2
       simp(config:=cS)only[go_sem]
       refine ag (gM g20) ?_
       obtain ⟨h21,b2⟩|⟨h21,b2⟩:=af b2
       ·cases b2
        obtain rfl:=(ak gb2).symm
        try dsimp only at h
        cases h
        simp(config:=cS)only[go_sem,eqT h21]
       ·cases b2
        simp(config:=cS)only[go_sem,eqF h21]
        refine aw gb2 ?_
        simp(config:=cS)only[go_sem]
      ·cases b2
       simp(config:=cS)only[go_sem,eqT h3,h5,h6,h7,eqF h8,eqF h10,eqF h12,eqF h14]
       refine aw gb2 ?_
       simp(config:=cS)only[go_sem]
  ·cases b2
   obtain rfl:=(ak gb2).symm
   try dsimp only at h
   cases h
   simp(config:=cS)only[go_sem,eqF h3]
attribute [go_sem] Tryd.ntmps120 Tryd.results120
theorem su {n:GNode}{res:Bool}(h:fz n=some res):ao Tryd.prog 120 [.agg (GNode.encS n)] [] (.lit (.bool res)) []:=by
 refine am (ra:=[]) (md:=mdT) hT (hi:=hi00) Tryd.func120 rfl rfl (by decide +kernel) (by simp) ?_
 unfold fz at h
 obtain ⟨r01,g1,h⟩:=ae h
 simp(config:=cS)only[go_sem]
 refine ag (sr g1) ?_
 obtain ⟨h2,h⟩|⟨h2,h⟩:=af h
 ·obtain ⟨r02,g3,h⟩:=ae h
  simp(config:=cS)only[go_sem,eZt h2]
  refine ag (gu g3) ?_
  obtain ⟨h4,h⟩|⟨h4,h⟩:=af h
  ·obtain ⟨h5,h⟩|⟨h5,h⟩:=af h
   ·cases h
    simp(config:=cS)only[go_sem,eZt h2,eZt h4,eqT h5]
   ·cases h
    simp(config:=cS)only[go_sem,eZt h2,eZt h4,eqF h5]
  ·cases h
   simp(config:=cS)only[go_sem,eZt h2,eZf h4]
 ·cases h
  simp(config:=cS)only[go_sem,eZf h2]
def hN (a:List GNode)(b c:Int)(d:List GNode)(e:Int)(f:List GTie)(g:Int)(h:ByteArray)(i:List Int)(j k:Int):St:=⟨[(1,.ptr 64 1 0 0),(4,.ptr 256 1 0 0),(35,.sl (ab GNode.encS a)),(36,.lit (.int .i64 b)),(37,.lit (.int .i64 c)),(48,.sl (ab GNode.encS d)),(49,.lit (.int .i64 e)),(50,.lit (.int .i64 k))],[(64,1,.var [.sl (ab GNode.encS a),.sl (ab GTie.enc f),.lit (.int .i64 g)]),(256,1,.var [.lit (.string h),.sl (ab eI i),.lit (.int .i64 j)])],2⟩
attribute [go_sem] hN
def hP (a:List GNode)(b:Int)(c:List GTie)(d e:Int):St:=⟨[(1,.ptr 64 1 0 0),(35,.sl (ab GNode.encS a)),(36,.lit (.int .i64 b)),(37,.lit (.int .i64 e))],[(64,1,.var [.sl (ab GNode.encS a),.sl (ab GTie.enc c),.lit (.int .i64 d)])],2⟩
attribute [go_sem] hP
attribute [go_sem] Tryd.ntmps91 Tryd.results91
theorem qh {s:GShow}{res:Bool}(h:ed s=some res):ao Tryd.prog 91 [.agg (GShow.encS s)] [] (.lit (.bool res)) []:=by
 refine am (ra:=[]) (md:=mdT) hT (hi:=hi00) Tryd.func91 rfl rfl (by decide +kernel) (by simp) ?_
 unfold ed at h
 obtain ⟨h1,h⟩|⟨h1,h⟩:=af h
 ·cases h
  simp(config:=cS)only[go_sem,eqT h1]
 ·obtain ⟨h2,h⟩|⟨h2,h⟩:=af h
  ·cases h
   simp(config:=cS)only[go_sem,eqF h1,eqT h2]
  ·obtain ⟨x01,g3,h⟩:=ae h
   obtain ⟨h5,h6⟩:=ow (k:=0) g3
   obtain ⟨h7,h⟩|⟨h7,h⟩:=af h
   ·cases h
    simp(config:=cS)only[go_sem,eqF h1,eqF h2,h5,h6,eqT h7]
   ·obtain ⟨h8,h⟩|⟨h8,h⟩:=af h
    ·obtain ⟨q06,l9,h⟩:=ae h
     simp(config:=cS)only[go_sem,eqF h1,eqF h2,h5,h6,eqF h7,eqT h8]
     refine au (m1:=.mk) (m2:=.mk) [.nf [1,35,36,37] [64]] (hP s.nodes ((s.nodes.length:Nat):Int) s.ties s.horizon) l9 ?_ ?_
     ·simp(config:=cS)only[go_sem]
     ·intro nb10 v37_1 bb10 b10 gb10
      unfold bZ at b10
      try dsimp only at b10
      obtain ⟨h11,b10⟩|⟨h11,b10⟩:=af b10
      ·obtain ⟨x02,g12,b10⟩:=ae b10
       obtain ⟨h13,h14,h15⟩:=aq g12
       obtain ⟨r03,g16,b10⟩:=ae b10
       simp(config:=cS)only[go_sem,eqT h11,h13,h14,h15]
       refine ag (su g16) ?_
       obtain ⟨h17,b10⟩|⟨h17,b10⟩:=af b10
       ·obtain ⟨h18,b10⟩:=az b10
        obtain ⟨h19,b10⟩:=az b10
        obtain ⟨q05,l20,b10⟩:=ae b10
        simp(config:=cS)only[go_sem,eZt h17,eqT h18,eqT h19]
        refine au (m1:=.mk) (m2:=.mk) [.nf [1,4,35,36,37,48,49,50] [64,256]] (hN s.nodes ((s.nodes.length:Nat):Int) v37_1 (s.nodes.take v37_1.toNat) (((s.nodes.take v37_1.toNat).length:Nat):Int) s.ties s.horizon x02.name x02.label x02.watch) l20 ?_ ?_
        ·simp(config:=cS)only[go_sem]
        ·intro nb21 v50_2 bb21 b21 gb21
         unfold bY at b21
         try dsimp only at b21
         obtain ⟨h22,b21⟩|⟨h22,b21⟩:=af b21
         ·obtain ⟨x04,g23,b21⟩:=ae b21
          obtain ⟨h24,h25,h26⟩:=aq g23
          obtain ⟨h27,b21⟩|⟨h27,b21⟩:=af b21
          ·cases b21
           obtain rfl:=(ak gb21).symm
           try dsimp only at b10
           cases b10
           obtain rfl:=(ak gb10).symm
           try dsimp only at h
           cases h
           simp(config:=cS)only[go_sem,eqT h22,h24,h25,h26,eqT h27]
          ·obtain ⟨h30,b21⟩|⟨h30,b21⟩:=af b21
           ·cases b21
            simp(config:=cS)only[go_sem,eqT h22,h24,h25,h26,eqF h27,eqT h30]
            refine aw gb21 ?_
            simp(config:=cS)only[go_sem]
           ·obtain ⟨h31,b21⟩|⟨h31,b21⟩:=af b21
            ·cases b21
             obtain rfl:=(ak gb21).symm
             try dsimp only at b10
             cases b10
             obtain rfl:=(ak gb10).symm
             try dsimp only at h
             cases h
             simp(config:=cS)only[go_sem,eqT h22,h24,h25,h26,eqF h27,eqF h30,eqT h31]
            ·cases b21
             simp(config:=cS)only[go_sem,eqT h22,h24,h25,h26,eqF h27,eqF h30,eqF h31]
             refine aw gb21 ?_
             simp(config:=cS)only[go_sem]
         ·cases b21
          obtain rfl:=(ak gb21).symm
          try dsimp only at b10
          cases b10
          simp(config:=cS)only[go_sem,eqF h22]
          refine aw gb10 ?_
          simp(config:=cS)only[go_sem]
       ·cases b10
        obtain rfl:=(ak gb10).symm
        try dsimp only at h
        cases h
        simp(config:=cS)only[go_sem,eZf h17]
      ·cases b10
       obtain rfl:=(ak gb10).symm
       try dsimp only at h
       cases h
       simp(config:=cS)only[go_sem,eqF h11]
    ·cases h
     simp(config:=cS)only[go_sem,eqF h1,eqF h2,h5,h6,eqF h7,eqF h8]
attribute [go_sem] Tryd.ntmps121 Tryd.results121
theorem lD {n node:Int}{res:Bool}(h:dX n node=some res):ao Tryd.prog 121 [.lit (.int .i64 n),.lit (.int .i64 node)] [] (.lit (.bool res)) []:=by
 refine am (ra:=[]) (md:=mdT) hT (hi:=hi00) Tryd.func121 rfl rfl (by decide +kernel) (by simp) ?_
 unfold dX at h
 obtain ⟨h1,h⟩|⟨h1,h⟩:=af h
 ·cases h
  simp(config:=cS)only[go_sem,eqT h1]
 ·cases h
  simp(config:=cS)only[go_sem,eqF h1]
attribute [go_sem] Tryd.ntmps122 Tryd.results122
theorem lE {n:Int}{res:Bool}(h:dY n=some res):ao Tryd.prog 122 [.lit (.int .i64 n)] [] (.lit (.bool res)) []:=by
 refine am (ra:=[]) (md:=mdT) hT (hi:=hi00) Tryd.func122 rfl rfl (by decide +kernel) (by simp) ?_
 unfold dY at h
 obtain ⟨h1,h⟩|⟨h1,h⟩:=af h
 ·cases h
  simp(config:=cS)only[go_sem,eqT h1]
 ·cases h
  simp(config:=cS)only[go_sem,eqF h1]
def fZ (c d:List Int)(a b:Int):St:=⟨[(0,.sl (ab eI c)),(1,.sl (ab eI d)),(12,.lit (.int .i64 a)),(13,.lit (.int .i64 b))],[],2⟩
attribute [go_sem] fZ
@[go_sem] def hi123_6:DT:=.i2 0 (.i2 1 (.i2 2 (.i2 3 (.i2 4 (.i2 5 (.i2 6 (.i2 7 (.i2 8 .nil))))))))
def sV:Hint where
 acts:=fun _=>[]
 draws:=fun
  | 6=>⟨hi123_6,[[],[],[0,1],[0,1,2],[],[],[4,5],[4,5,6],.range 8],.range 9⟩
  | _=>⟨.nil,[],[]⟩
theorem AB (i:Nat):sV.acts i=[]:=rfl
theorem AC (i:Nat):sV.views i=none:=rfl
attribute [go_sem] AB AC Tryd.ntmps123 Tryd.results123
@[go_sem] theorem Cd:(sV.draws 6).order=hi123_6:=rfl
theorem mj {v0 v1:List Int}{res:Bool}(h:df v0 v1=some res):ao Tryd.prog 123 [.sl (ab eI v0),.sl (ab eI v1)] [] (.lit (.bool res)) []:=by
 refine am (ra:=[]) (md:=mdT) hT (hi:=sV) Tryd.func123 rfl rfl (by decide +kernel) (by simp) ?_
 unfold df at h
 obtain ⟨h1,h⟩|⟨h1,h⟩:=af h
 ·obtain ⟨q03,l2,h⟩:=ae h
  simp(config:=cS)only[go_sem,eqT h1]
  refine au (m1:=.mk) (m2:=.mk) [.nf [0,1,12,13] []] (fZ v0 v1 ((v0.length:Nat):Int)) l2 ?_ ?_
  ·simp(config:=cS)only[go_sem]
  ·intro nb3 v13_1 bb3 b3 gb3
   unfold br at b3
   try dsimp only at b3
   obtain ⟨h4,b3⟩|⟨h4,b3⟩:=af b3
   ·obtain ⟨x01,g5,b3⟩:=ae b3
    obtain ⟨h6,h7,h8⟩:=aq g5
    obtain ⟨x02,g9,b3⟩:=ae b3
    obtain ⟨h10,h11,h12⟩:=aq g9
    obtain ⟨h13,b3⟩|⟨h13,b3⟩:=af b3
    ·cases b3
     simp(config:=cS)only[go_sem,eqT h4,h6,h7,h8,h10,h11,h12,eqT h13]
     refine aw gb3 ?_
     simp(config:=cS)only[go_sem]
    ·cases b3
     obtain rfl:=(ak gb3).symm
     try dsimp only at h
     cases h
     simp(config:=cS)only[go_sem,eqT h4,h6,h7,h8,h10,h11,h12,eqF h13]
   ·cases b3
    obtain rfl:=(ak gb3).symm
    try dsimp only at h
    cases h
    simp(config:=cS)only[go_sem,eqF h4]
 ·cases h
  simp(config:=cS)only[go_sem,eqF h1]
def ez (c:List GTie)(a:Nat)(b:List AV)(d e:Int):St:=⟨[(0,.sl (ab GTie.enc c)),(1,.fn a b),(7,.lit (.int .i64 d)),(8,.lit (.int .i64 e))],[],2⟩
attribute [go_sem] ez
attribute [go_sem] Tryd.ntmps145 Tryd.results145
theorem kE {v0:List GTie}{v1:GTie→Option Bool}{f_v1:Nat}{k_v1:List AV}(hp_v1:∀ y0 r,v1 y0=some r→ao Tryd.prog f_v1 ([.agg (GTie.enc y0)]++k_v1) [] (.lit (.bool r)) [])(hc_v1:KC k_v1)(hm_v1:∀ a,mdT f_v1 a=⟨[],false⟩)(hk_v1:spf f_v1=false){res:Int}(h:bM v0 v1=some res):ao Tryd.prog 145 [.sl (ab GTie.enc v0),.fn f_v1 k_v1] [] (.lit (.int .i64 res)) []:=by
 refine am (ra:=[]) (md:=mdT) hT (hi:=hi00) Tryd.func145 rfl rfl (by decide +kernel) (by simp) ?_
 unfold bM at h
 obtain ⟨q03,l1,h⟩:=ae h
 simp(config:=cS)only[go_sem,hc_v1.1,hc_v1.2,hm_v1,hk_v1]
 refine au (m1:=.mk) (m2:=.mk) [.nf [0,1,7,8] []] (ez v0 f_v1 k_v1 ((v0.length:Nat):Int)) l1 ?_ ?_
 ·simp(config:=cS)only[go_sem,hc_v1.1,hc_v1.2,hm_v1,hk_v1]
 ·intro nb2 v8_1 bb2 b2 gb2
  unfold aZ at b2
  try dsimp only at b2
  obtain ⟨h3,b2⟩|⟨h3,b2⟩:=af b2
  ·obtain ⟨x01,g4,b2⟩:=ae b2
   obtain ⟨h5,h6,h7⟩:=aq g4
   obtain ⟨r02,g8,b2⟩:=ae b2
   simp(config:=cS)only[go_sem,hc_v1.1,hc_v1.2,hm_v1,hk_v1,eqT h3,h5,h6,h7]
   refine ag (hp_v1 _ _ g8) ?_
   obtain ⟨h9,b2⟩|⟨h9,b2⟩:=af b2
   ·cases b2
    obtain rfl:=(ak gb2).symm
    try dsimp only at h
    cases h
    simp(config:=cS)only[go_sem,hc_v1.1,hc_v1.2,hm_v1,hk_v1,eqT h3,h5,h6,h7,eZt h9]
   ·cases b2
    simp(config:=cS)only[go_sem,hc_v1.1,hc_v1.2,hm_v1,hk_v1,eqT h3,h5,h6,h7,eZf h9]
    refine aw gb2 ?_
    simp(config:=cS)only[go_sem,hc_v1.1,hc_v1.2,hm_v1,hk_v1,eqT h3,h5,h6,h7,eZf h9]
  ·cases b2
   obtain rfl:=(ak gb2).symm
   try dsimp only at h
   cases h
   simp(config:=cS)only[go_sem,hc_v1.1,hc_v1.2,hm_v1,hk_v1,eqF h3]
attribute [go_sem] Tryd.ntmps124 Tryd.results124
theorem jQ {v0:List GTie}{v1:GTie→Option Bool}{f_v1:Nat}{k_v1:List AV}(hp_v1:∀ y0 r,v1 y0=some r→ao Tryd.prog f_v1 ([.agg (GTie.enc y0)]++k_v1) [] (.lit (.bool r)) [])(hc_v1:KC k_v1)(hm_v1:∀ a,mdT f_v1 a=⟨[],false⟩)(hk_v1:spf f_v1=false){res:Bool}(h:ba v0 v1=some res):ao Tryd.prog 124 [.sl (ab GTie.enc v0),.fn f_v1 k_v1] [] (.lit (.bool res)) []:=by
 refine am (ra:=[]) (md:=mdT) hT (hi:=hi00) Tryd.func124 rfl rfl (by decide +kernel) (by simp) ?_
 unfold ba at h
 obtain ⟨r01,g1,h⟩:=ae h
 simp(config:=cS)only[go_sem,hc_v1.1,hc_v1.2,hm_v1,hk_v1]
 refine ag (kE hp_v1 hc_v1 hm_v1 hk_v1 g1) ?_
 cases h
 simp(config:=cS)only[go_sem]
attribute [go_sem] Tryd.ntmps125 Tryd.results125
theorem nj {u t:GTie}{res:Bool}(h:dy u t=some res):ao Tryd.prog 125 [.agg (GTie.enc u),.loc [.lit (.int .i64 t.from_),.lit (.int .i64 t.to),.lit (.int .i64 t.low),.lit (.int .i64 t.high),.lit (.bool t.free)]] [] (.lit (.bool res)) []:=by
 refine am (ra:=[]) (md:=mdT) hT (hi:=hi00) Tryd.func125 rfl rfl (by decide +kernel) (by simp) ?_
 unfold dy at h
 obtain ⟨h1,h⟩|⟨h1,h⟩:=af h
 ·cases h
  simp(config:=cS)only[go_sem,eZt h1]
 ·cases h
  simp(config:=cS)only[go_sem,eZf h1]
def iB (a:List GTie)(d:Int)(b:List GNode)(c e:Int):St:=⟨[(1,.ptr 64 1 0 0),(6,.sl (ab GTie.enc a)),(7,.lit (.int .i64 d)),(8,.lit (.int .i64 e))],[(64,1,.var [.sl (ab GNode.encS b),.sl (ab GTie.enc a),.lit (.int .i64 c)])],2⟩
attribute [go_sem] iB
@[go_sem] def hi92_7:DT:=.i2 0 (.i2 1 (.i2 2 (.i2 3 (.i2 4 (.i2 5 (.i2 6 (.i2 7 (.i2 8 (.i2 9 (.i2 10 (.i2 11 (.i2 12 (.i2 13 (.i2 14 (.i2 15 (.i2 16 (.i2 17 (.i2 18 (.i2 19 (.i2 20 (.i2 21 (.i2 22 (.i2 23 (.i2 24 (.i2 25 (.i2 26 (.i2 27 (.i2 28 (.i2 29 (.i2 30 (.i2 31 (.i2 32 (.i2 33 (.i2 34 (.i2 35 .nil)))))))))))))))))))))))))))))))))))
def hi92:Hint where
 acts:=fun _=>[]
 draws:=fun
  | 7=>⟨hi92_7,[[],[0],[0,1],[0,1,2],[0,1,2,3],.range 5,.range 6,.range 7,.range 8,.range 9,.range 10,.range 9,[0,1,2,3,4,5,6,7,8,11],.range 13,.range 14,.range 15,.range 16,.range 17,.range 18,.range 19,.range 20,.range 19,[0,1,2,3,4,5,6,7,8,9,10,11,12,13,14,15,16,17,18,21],.range 23,.range 24,.range 25,.range 19,[0,1,2,3,4,5,6,7,8,9,10,11,12,13,14,15,16,17,18,26],.range 19,[0,1,2,3,4,5,6,7,8,9,10,11,12,13,14,15,16,17,18,28],[0,1,2,3,4,5,6,7,8,9,10,11,12,13,14,15,16,17,18,26,27,28,29],[0,1,2,3,4,5,6,7,8,9,10,11,12,13,14,15,16,17,18,26,27,28,29,30],[0,1,2,3,4,5,6,7,8,9,10,11,12,13,14,15,16,17,18,26,27,28,29,30,31],.range 33,.range 34,.range 35],.range 36⟩
  | _=>⟨.nil,[],[]⟩
theorem Bv (i:Nat):hi92.acts i=[]:=rfl
theorem Bw (i:Nat):hi92.views i=none:=rfl
attribute [go_sem] Bv Bw Tryd.ntmps92 Tryd.results92
@[go_sem] theorem Ch:(hi92.draws 7).order=hi92_7:=rfl
theorem re {s:GShow}{res:Bool}(h:eH s=some res):ao Tryd.prog 92 [.agg (GShow.encS s)] [] (.lit (.bool res)) []:=by
 refine am (ra:=[]) (md:=mdT) hT (hi:=hi92) Tryd.func92 rfl rfl (by decide +kernel) (by simp) ?_
 unfold eH at h
 obtain ⟨q10,l1,h⟩:=ae h
 simp(config:=cS)only[go_sem]
 refine au (m1:=.mk) (m2:=.mk) [.nf [1,6,7,8] [64]] (iB s.ties ((s.ties.length:Nat):Int) s.nodes s.horizon) l1 ?_ ?_
 ·simp(config:=cS)only[go_sem]
 ·intro nb2 v8_1 bb2 b2 gb2
  unfold cy at b2
  try dsimp only at b2
  obtain ⟨h3,b2⟩|⟨h3,b2⟩:=af b2
  ·obtain ⟨x01,g4,b2⟩:=ae b2
   obtain ⟨h5,h6,h7⟩:=aq g4
   obtain ⟨r02,g8,b2⟩:=ae b2
   simp(config:=cS)only[go_sem,eqT h3,h5,h6,h7]
   refine ag (lD g8) ?_
   obtain ⟨h9,b2⟩|⟨h9,b2⟩:=af b2
   ·obtain ⟨r03,g10,b2⟩:=ae b2
    simp(config:=cS)only[go_sem,eqT h3,h5,h6,h7,eZt h9]
    refine ag (lD g10) ?_
    obtain ⟨h11,b2⟩|⟨h11,b2⟩:=af b2
    ·obtain ⟨h12,b2⟩|⟨h12,b2⟩:=af b2
     ·cases b2
      obtain rfl:=(ak gb2).symm
      try dsimp only at h
      cases h
      simp(config:=cS)only[go_sem,eqT h3,h5,h6,h7,eZt h9,eZt h11,eqT h12]
     ·obtain ⟨r04,g14,b2⟩:=ae b2
      simp(config:=cS)only[go_sem,eqT h3,h5,h6,h7,eZt h9,eZt h11,eqF h12]
      refine ag (lE g14) ?_
      obtain ⟨h15,b2⟩|⟨h15,b2⟩:=af b2
      ·obtain ⟨r05,g16,b2⟩:=ae b2
       simp(config:=cS)only[go_sem,eqT h3,h5,h6,h7,eZt h9,eZt h11,eqF h12,eZt h15]
       refine ag (lE g16) ?_
       obtain ⟨h17,b2⟩|⟨h17,b2⟩:=af b2
       ·obtain ⟨h18,b2⟩|⟨h18,b2⟩:=af b2
        ·cases b2
         obtain rfl:=(ak gb2).symm
         try dsimp only at h
         cases h
         simp(config:=cS)only[go_sem,eqT h3,h5,h6,h7,eZt h9,eZt h11,eqF h12,eZt h15,eZt h17,eqT h18]
        ·obtain ⟨h20,b2⟩|⟨h20,b2⟩:=af b2
         ·obtain ⟨h21,b2⟩|⟨h21,b2⟩:=af b2
          ·cases b2
           obtain rfl:=(ak gb2).symm
           try dsimp only at h
           cases h
           simp(config:=cS)only[go_sem,eqT h3,h5,h6,h7,eZt h9,eZt h11,eqF h12,eZt h15,eZt h17,eqF h18,eZt h20,eqT h21]
          ·obtain ⟨h23,b2⟩|⟨h23,b2⟩:=af b2
           ·cases b2
            obtain rfl:=(ak gb2).symm
            try dsimp only at h
            cases h
            simp(config:=cS)only[go_sem,eqT h3,h5,h6,h7,eZt h9,eZt h11,eqF h12,eZt h15,eZt h17,eqF h18,eZt h20,eqF h21,eqT h23]
           ·obtain ⟨x06,g25,b2⟩:=ae b2
            obtain ⟨h26,h27,h28⟩:=aq g25
            obtain ⟨h29,b2⟩|⟨h29,b2⟩:=af b2
            ·obtain ⟨x07,g30,b2⟩:=ae b2
             obtain ⟨h31,h32,h33⟩:=aq g30
             obtain ⟨r08,g34,b2⟩:=ae b2
             simp(config:=cS)only[go_sem,eqT h3,h5,h6,h7,eZt h9,eZt h11,eqF h12,eZt h15,eZt h17,eqF h18,eZt h20,eqF h21,eqF h23,h26,h27,h28,eqT h29,h31,h32,h33]
             refine ag (mj g34) ?_
             obtain ⟨h35,b2⟩|⟨h35,b2⟩:=af b2
             ·obtain ⟨h36,b2⟩:=az b2
              obtain ⟨h37,b2⟩:=az b2
              obtain ⟨r09,g38,b2⟩:=ae b2
              simp(config:=cS)only[go_sem,eqT h3,h5,h6,h7,eZt h9,eZt h11,eqF h12,eZt h15,eZt h17,eqF h18,eZt h20,eqF h21,eqF h23,h26,h27,h28,eqT h29,h31,h32,h33,eZt h35,eqT h36,eqT h37]
              refine ag (jQ (by exact fun _ _ hr=>nj hr) (by refine ⟨fun _=>?_,fun _=>?_⟩ <;> simp only [go_sem]) (fun _=>rfl) rfl g38) ?_
              obtain ⟨h39,b2⟩|⟨h39,b2⟩:=af b2
              ·cases b2
               obtain rfl:=(ak gb2).symm
               try dsimp only at h
               cases h
               simp(config:=cS)only[go_sem,eqT h3,h5,h6,h7,eZt h9,eZt h11,eqF h12,eZt h15,eZt h17,eqF h18,eZt h20,eqF h21,eqF h23,h26,h27,h28,eqT h29,h31,h32,h33,eZt h35,eqT h36,eqT h37,eZt h39]
              ·cases b2
               simp(config:=cS)only[go_sem,eqT h3,h5,h6,h7,eZt h9,eZt h11,eqF h12,eZt h15,eZt h17,eqF h18,eZt h20,eqF h21,eqF h23,h26,h27,h28,eqT h29,h31,h32,h33,eZt h35,eqT h36,eqT h37,eZf h39]
               refine aw gb2 ?_
               simp(config:=cS)only[go_sem,eqT h3,h5,h6,h7,eZt h9,eZt h11,eqF h12,eZt h15,eZt h17,eqF h18,eZt h20,eqF h21,eqF h23,h26,h27,h28,eqT h29,h31,h32,h33,eZt h35,eqT h36,eqT h37,eZf h39]
             ·cases b2
              obtain rfl:=(ak gb2).symm
              try dsimp only at h
              cases h
              simp(config:=cS)only[go_sem,eqT h3,h5,h6,h7,eZt h9,eZt h11,eqF h12,eZt h15,eZt h17,eqF h18,eZt h20,eqF h21,eqF h23,h26,h27,h28,eqT h29,h31,h32,h33,eZf h35]
            ·cases b2
             obtain rfl:=(ak gb2).symm
             try dsimp only at h
             cases h
             simp(config:=cS)only[go_sem,eqT h3,h5,h6,h7,eZt h9,eZt h11,eqF h12,eZt h15,eZt h17,eqF h18,eZt h20,eqF h21,eqF h23,h26,h27,h28,eqF h29]
         ·cases b2
          simp(config:=cS)only[go_sem,eqT h3,h5,h6,h7,eZt h9,eZt h11,eqF h12,eZt h15,eZt h17,eqF h18,eZf h20]
          refine aw gb2 ?_
          simp(config:=cS)only[go_sem,eqT h3,h5,h6,h7,eZt h9,eZt h11,eqF h12,eZt h15,eZt h17,eqF h18,eZf h20]
       ·cases b2
        obtain rfl:=(ak gb2).symm
        try dsimp only at h
        cases h
        simp(config:=cS)only[go_sem,eqT h3,h5,h6,h7,eZt h9,eZt h11,eqF h12,eZt h15,eZf h17]
      ·cases b2
       obtain rfl:=(ak gb2).symm
       try dsimp only at h
       cases h
       simp(config:=cS)only[go_sem,eqT h3,h5,h6,h7,eZt h9,eZt h11,eqF h12,eZf h15]
    ·cases b2
     obtain rfl:=(ak gb2).symm
     try dsimp only at h
     cases h
     simp(config:=cS)only[go_sem,eqT h3,h5,h6,h7,eZt h9,eZf h11]
   ·cases b2
    obtain rfl:=(ak gb2).symm
    try dsimp only at h
    cases h
    simp(config:=cS)only[go_sem,eqT h3,h5,h6,h7,eZf h9]
  ·cases b2
   obtain rfl:=(ak gb2).symm
   try dsimp only at h
   cases h
   simp(config:=cS)only[go_sem,eqF h3]
def eA (c:List Int)(a:Nat)(b:List AV)(d e:Int):St:=⟨[(0,.sl (ab eI c)),(1,.fn a b),(7,.lit (.int .i64 d)),(8,.lit (.int .i64 e))],[],2⟩
attribute [go_sem] eA
attribute [go_sem] Tryd.ntmps126 Tryd.results126
theorem kF {v0:List Int}{v1:Int→Option Bool}{f_v1:Nat}{k_v1:List AV}(hp_v1:∀ y0 r,v1 y0=some r→ao Tryd.prog f_v1 ([.lit (.int .i64 y0)]++k_v1) [] (.lit (.bool r)) [])(hc_v1:KC k_v1)(hm_v1:∀ a,mdT f_v1 a=⟨[],false⟩)(hk_v1:spf f_v1=false){res:Int}(h:bN v0 v1=some res):ao Tryd.prog 126 [.sl (ab eI v0),.fn f_v1 k_v1] [] (.lit (.int .i64 res)) []:=by
 refine am (ra:=[]) (md:=mdT) hT (hi:=hi00) Tryd.func126 rfl rfl (by decide +kernel) (by simp) ?_
 unfold bN at h
 obtain ⟨q03,l1,h⟩:=ae h
 simp(config:=cS)only[go_sem,hc_v1.1,hc_v1.2,hm_v1,hk_v1]
 refine au (m1:=.mk) (m2:=.mk) [.nf [0,1,7,8] []] (eA v0 f_v1 k_v1 ((v0.length:Nat):Int)) l1 ?_ ?_
 ·simp(config:=cS)only[go_sem,hc_v1.1,hc_v1.2,hm_v1,hk_v1]
 ·intro nb2 v8_1 bb2 b2 gb2
  unfold bb at b2
  try dsimp only at b2
  obtain ⟨h3,b2⟩|⟨h3,b2⟩:=af b2
  ·obtain ⟨x01,g4,b2⟩:=ae b2
   obtain ⟨h5,h6,h7⟩:=aq g4
   obtain ⟨r02,g8,b2⟩:=ae b2
   simp(config:=cS)only[go_sem,hc_v1.1,hc_v1.2,hm_v1,hk_v1,eqT h3,h5,h6,h7]
   refine ag (hp_v1 _ _ g8) ?_
   obtain ⟨h9,b2⟩|⟨h9,b2⟩:=af b2
   ·cases b2
    obtain rfl:=(ak gb2).symm
    try dsimp only at h
    cases h
    simp(config:=cS)only[go_sem,hc_v1.1,hc_v1.2,hm_v1,hk_v1,eqT h3,h5,h6,h7,eZt h9]
   ·cases b2
    simp(config:=cS)only[go_sem,hc_v1.1,hc_v1.2,hm_v1,hk_v1,eqT h3,h5,h6,h7,eZf h9]
    refine aw gb2 ?_
    simp(config:=cS)only[go_sem,hc_v1.1,hc_v1.2,hm_v1,hk_v1,eqT h3,h5,h6,h7,eZf h9]
  ·cases b2
   obtain rfl:=(ak gb2).symm
   try dsimp only at h
   cases h
   simp(config:=cS)only[go_sem,hc_v1.1,hc_v1.2,hm_v1,hk_v1,eqF h3]
attribute [go_sem] Tryd.ntmps93 Tryd.results93
theorem dC {v0:List Int}{v1:Int→Option Bool}{f_v1:Nat}{k_v1:List AV}(hp_v1:∀ y0 r,v1 y0=some r→ao Tryd.prog f_v1 ([.lit (.int .i64 y0)]++k_v1) [] (.lit (.bool r)) [])(hc_v1:KC k_v1)(hm_v1:∀ a,mdT f_v1 a=⟨[],false⟩)(hk_v1:spf f_v1=false){res:Bool}(h:aK v0 v1=some res):ao Tryd.prog 93 [.sl (ab eI v0),.fn f_v1 k_v1] [] (.lit (.bool res)) []:=by
 refine am (ra:=[]) (md:=mdT) hT (hi:=hi00) Tryd.func93 rfl rfl (by decide +kernel) (by simp) ?_
 unfold aK at h
 obtain ⟨r01,g1,h⟩:=ae h
 simp(config:=cS)only[go_sem,hc_v1.1,hc_v1.2,hm_v1,hk_v1]
 refine ag (kF hp_v1 hc_v1 hm_v1 hk_v1 g1) ?_
 cases h
 simp(config:=cS)only[go_sem]
def eo (c:List GNode)(a:Nat)(b:List AV)(d e:Int):St:=⟨[(0,.sl (ab GNode.encS c)),(1,.fn a b),(7,.lit (.int .i64 d)),(8,.lit (.int .i64 e))],[],2⟩
attribute [go_sem] eo
attribute [go_sem] Tryd.ntmps146 Tryd.results146
theorem kk {v0:List GNode}{v1:GNode→Option Bool}{f_v1:Nat}{k_v1:List AV}(hp_v1:∀ y0 r,v1 y0=some r→ao Tryd.prog f_v1 ([.agg (GNode.encS y0)]++k_v1) [] (.lit (.bool r)) [])(hc_v1:KC k_v1)(hm_v1:∀ a,mdT f_v1 a=⟨[],false⟩)(hk_v1:spf f_v1=false){res:Int}(h:bG v0 v1=some res):ao Tryd.prog 146 [.sl (ab GNode.encS v0),.fn f_v1 k_v1] [] (.lit (.int .i64 res)) []:=by
 refine am (ra:=[]) (md:=mdT) hT (hi:=hi00) Tryd.func146 rfl rfl (by decide +kernel) (by simp) ?_
 unfold bG at h
 obtain ⟨q03,l1,h⟩:=ae h
 simp(config:=cS)only[go_sem,hc_v1.1,hc_v1.2,hm_v1,hk_v1]
 refine au (m1:=.mk) (m2:=.mk) [.nf [0,1,7,8] []] (eo v0 f_v1 k_v1 ((v0.length:Nat):Int)) l1 ?_ ?_
 ·simp(config:=cS)only[go_sem,hc_v1.1,hc_v1.2,hm_v1,hk_v1]
 ·intro nb2 v8_1 bb2 b2 gb2
  unfold aT at b2
  try dsimp only at b2
  obtain ⟨h3,b2⟩|⟨h3,b2⟩:=af b2
  ·obtain ⟨x01,g4,b2⟩:=ae b2
   obtain ⟨h5,h6,h7⟩:=aq g4
   obtain ⟨r02,g8,b2⟩:=ae b2
   simp(config:=cS)only[go_sem,hc_v1.1,hc_v1.2,hm_v1,hk_v1,eqT h3,h5,h6,h7]
   refine ag (hp_v1 _ _ g8) ?_
   obtain ⟨h9,b2⟩|⟨h9,b2⟩:=af b2
   ·cases b2
    obtain rfl:=(ak gb2).symm
    try dsimp only at h
    cases h
    simp(config:=cS)only[go_sem,hc_v1.1,hc_v1.2,hm_v1,hk_v1,eqT h3,h5,h6,h7,eZt h9]
   ·cases b2
    simp(config:=cS)only[go_sem,hc_v1.1,hc_v1.2,hm_v1,hk_v1,eqT h3,h5,h6,h7,eZf h9]
    refine aw gb2 ?_
    simp(config:=cS)only[go_sem,hc_v1.1,hc_v1.2,hm_v1,hk_v1,eqT h3,h5,h6,h7,eZf h9]
  ·cases b2
   obtain rfl:=(ak gb2).symm
   try dsimp only at h
   cases h
   simp(config:=cS)only[go_sem,hc_v1.1,hc_v1.2,hm_v1,hk_v1,eqF h3]
attribute [go_sem] Tryd.ntmps147 Tryd.results147
theorem nk {n:GNode}{p:Int}{res:Bool}(h:er n p=some res):ao Tryd.prog 147 [.agg (GNode.encS n),.loc [.lit (.int .i64 p)]] [] (.lit (.bool res)) []:=by
 refine am (ra:=[]) (md:=mdT) hT (hi:=hi00) Tryd.func147 rfl rfl (by decide +kernel) (by simp) ?_
 unfold er at h
 obtain ⟨h1,h⟩|⟨h1,h⟩:=af h
 ·cases h
  simp(config:=cS)only[go_sem,eqT h1]
 ·cases h
  simp(config:=cS)only[go_sem,eqF h1]
attribute [go_sem] Tryd.ntmps127 Tryd.results127
theorem kU {s:GShow}{p res:Int}(h:dI s p=some res):ao Tryd.prog 127 [.agg (GShow.encS s),.lit (.int .i64 p)] [] (.lit (.int .i64 res)) []:=by
 refine am (ra:=[]) (md:=mdT) hT (hi:=hi00) Tryd.func127 rfl rfl (by decide +kernel) (by simp) ?_
 unfold dI at h
 obtain ⟨r01,g1,h⟩:=ae h
 simp(config:=cS)only[go_sem]
 refine ag (kk (by exact fun _ _ hr=>nk hr) (by refine ⟨fun _=>?_,fun _=>?_⟩ <;> simp only [go_sem]) (fun _=>rfl) rfl g1) ?_
 cases h
 simp(config:=cS)only[go_sem]
def ga (a:List Int)(b c d:Int):St:=⟨[(0,.sl (ab eI a)),(1,.lit (.int .i64 b)),(7,.lit (.int .i64 c)),(8,.lit (.int .i64 d))],[],2⟩
attribute [go_sem] ga
attribute [go_sem] Tryd.ntmps148 Tryd.results148
theorem ml {v0:List Int}{v1 res:Int}(h:dg v0 v1=some res):ao Tryd.prog 148 [.sl (ab eI v0),.lit (.int .i64 v1)] [] (.lit (.int .i64 res)) []:=by
 refine am (ra:=[]) (md:=mdT) hT (hi:=hi00) Tryd.func148 rfl rfl (by decide +kernel) (by simp) ?_
 unfold dg at h
 obtain ⟨q02,l1,h⟩:=ae h
 simp(config:=cS)only[go_sem]
 refine au (m1:=.mk) (m2:=.mk) [.nf [0,1,7,8] []] (ga v0 v1 ((v0.length:Nat):Int)) l1 ?_ ?_
 ·simp(config:=cS)only[go_sem]
 ·intro nb2 v8_1 bb2 b2 gb2
  unfold bu at b2
  try dsimp only at b2
  obtain ⟨h3,b2⟩|⟨h3,b2⟩:=af b2
  ·obtain ⟨x01,g4,b2⟩:=ae b2
   obtain ⟨h5,h6,h7⟩:=aq g4
   obtain ⟨h8,b2⟩|⟨h8,b2⟩:=af b2
   ·cases b2
    obtain rfl:=(ak gb2).symm
    try dsimp only at h
    cases h
    simp(config:=cS)only[go_sem,eqT h3,h5,h6,h7,eqT h8]
   ·cases b2
    simp(config:=cS)only[go_sem,eqT h3,h5,h6,h7,eqF h8]
    refine aw gb2 ?_
    simp(config:=cS)only[go_sem]
  ·cases b2
   obtain rfl:=(ak gb2).symm
   try dsimp only at h
   cases h
   simp(config:=cS)only[go_sem,eqF h3]
attribute [go_sem] Tryd.ntmps128 Tryd.results128
theorem eC {v0:List Int}{v1:Int}{res:Bool}(h:bd v0 v1=some res):ao Tryd.prog 128 [.sl (ab eI v0),.lit (.int .i64 v1)] [] (.lit (.bool res)) []:=by
 refine am (ra:=[]) (md:=mdT) hT (hi:=hi00) Tryd.func128 rfl rfl (by decide +kernel) (by simp) ?_
 unfold bd at h
 obtain ⟨r01,g1,h⟩:=ae h
 simp(config:=cS)only[go_sem]
 refine ag (ml g1) ?_
 cases h
 simp(config:=cS)only[go_sem]
attribute [go_sem] Tryd.ntmps149 Tryd.results149
theorem kG {v0:Int}{a:List Int}{res:Bool}(h:da v0 a=some res):ao Tryd.prog 149 [.lit (.int .i64 v0),.loc [.sl (ab eI a)]] [] (.lit (.bool res)) []:=by
 refine am (ra:=[]) (md:=mdT) hT (hi:=hi00) Tryd.func149 rfl rfl (by decide +kernel) (by simp) ?_
 unfold da at h
 obtain ⟨r01,g1,h⟩:=ae h
 simp(config:=cS)only[go_sem]
 refine ag (eC g1) ?_
 cases h
 simp(config:=cS)only[go_sem]
attribute [go_sem] Tryd.ntmps129 Tryd.results129
theorem lJ {a b:List Int}{res:Bool}(h:cJ a b=some res):ao Tryd.prog 129 [.sl (ab eI a),.sl (ab eI b)] [] (.lit (.bool res)) []:=by
 refine am (ra:=[]) (md:=mdT) hT (hi:=hi00) Tryd.func129 rfl rfl (by decide +kernel) (by simp) ?_
 unfold cJ at h
 obtain ⟨r01,g1,h⟩:=ae h
 simp(config:=cS)only[go_sem]
 refine ag (gu g1) ?_
 obtain ⟨h2,h⟩|⟨h2,h⟩:=af h
 ·obtain ⟨r02,g3,h⟩:=ae h
  simp(config:=cS)only[go_sem,eZt h2]
  refine ag (gu g3) ?_
  obtain ⟨h4,h⟩|⟨h4,h⟩:=af h
  ·obtain ⟨r03,g5,h⟩:=ae h
   simp(config:=cS)only[go_sem,eZt h2,eZt h4]
   refine ag (dC (by exact fun _ _ hr=>kG hr) (by refine ⟨fun _=>?_,fun _=>?_⟩ <;> simp only [go_sem]) (fun _=>rfl) rfl g5) ?_
   cases h
   simp(config:=cS)only[go_sem,eZt h2,eZt h4]
  ·cases h
   simp(config:=cS)only[go_sem,eZt h2,eZf h4]
 ·cases h
  simp(config:=cS)only[go_sem,eZf h2]
@[go_sem] def hi95_1:DT:=.i1 0 (.i2 1 (.i0 2 [0] (.i2 3 (.i2 4 .nil))))
def hi95:Hint where
 acts:=fun _=>[]
 draws:=fun
  | 1=>⟨hi95_1,[[],[],[1],[0,1,2],[0,1,2,3]],.range 5⟩
  | _=>⟨.nil,[],[]⟩
theorem Bx (i:Nat):hi95.acts i=[]:=rfl
theorem By (i:Nat):hi95.views i=none:=rfl
attribute [go_sem] Bx By Tryd.ntmps95 Tryd.results95
@[go_sem] theorem Ci:(hi95.draws 1).order=hi95_1:=rfl
theorem oB {s:GShow}{label:List Int}{v2:Int}{res:Bool}(h:dO s label v2=some res):ao Tryd.prog 95 [.agg (GShow.encS s),.sl (ab eI label),.lit (.int .i64 v2)] [] (.lit (.bool res)) []:=by
 refine am (ra:=[]) (md:=mdT) hT (hi:=hi95) Tryd.func95 rfl rfl (by decide +kernel) (by simp) ?_
 unfold dO at h
 obtain ⟨r01,g1,h⟩:=ae h
 simp(config:=cS)only[go_sem]
 refine ag (gM g1) ?_
 obtain ⟨r02,g2,h⟩:=ae h
 simp(config:=cS)only[go_sem]
 refine ag (kU g2) ?_
 obtain ⟨h3,h⟩|⟨h3,h⟩:=af h
 ·cases h
  simp(config:=cS)only[go_sem,eqT h3]
 ·obtain ⟨x03,g4,h⟩:=ae h
  obtain ⟨h5,h6,h7⟩:=aq g4
  obtain ⟨r04,g8,h⟩:=ae h
  simp(config:=cS)only[go_sem,eqF h3,h5,h6,h7]
  refine ag (eC g8) ?_
  obtain ⟨h9,h⟩|⟨h9,h⟩:=af h
  ·cases h
   simp(config:=cS)only[go_sem,eqF h3,h5,h6,h7,eZt h9]
  ·obtain ⟨r05,g10,h⟩:=ae h
   simp(config:=cS)only[go_sem,eqF h3,h5,h6,h7,eZf h9]
   refine ag (eC g10) ?_
   obtain ⟨h11,h⟩|⟨h11,h⟩:=af h
   ·cases h
    simp(config:=cS)only[go_sem,eqF h3,h5,h6,h7,eZf h9,eZt h11]
   ·obtain ⟨r06,g12,h⟩:=ae h
    simp(config:=cS)only[go_sem,eqF h3,h5,h6,h7,eZf h9,eZf h11]
    refine ag (lJ g12) ?_
    cases h
    simp(config:=cS)only[go_sem,eqF h3,h5,h6,h7,eZf h9,eZf h11]
attribute [go_sem] Tryd.ntmps94 Tryd.results94
theorem oC {v0:Int}{s:GShow}{n:GNode}{res:Bool}(h:dP v0 s n=some res):ao Tryd.prog 94 [.lit (.int .i64 v0),.loc [.sl (ab GNode.encS s.nodes),.sl (ab GTie.enc s.ties),.lit (.int .i64 s.horizon)],.loc [.lit (.string n.name),.sl (ab eI n.label),.lit (.int .i64 n.watch)]] [] (.lit (.bool res)) []:=by
 refine am (ra:=[]) (md:=mdT) hT (hi:=hi00) Tryd.func94 rfl rfl (by decide +kernel) (by simp) ?_
 unfold dP at h
 obtain ⟨r01,g1,h⟩:=ae h
 simp(config:=cS)only[go_sem]
 refine ag (oB g1) ?_
 cases h
 simp(config:=cS)only[go_sem]
def iP (a:List GNode)(b:Int)(c:List GTie)(d e:Int):St:=⟨[(1,.ptr 64 1 0 0),(24,.sl (ab GNode.encS a)),(25,.lit (.int .i64 b)),(26,.lit (.int .i64 e))],[(64,1,.var [.sl (ab GNode.encS a),.sl (ab GTie.enc c),.lit (.int .i64 d)])],2⟩
attribute [go_sem] iP
attribute [go_sem] Tryd.ntmps63 Tryd.results63
theorem lF {s:GShow}{res:Bool}(h:dZ s=some res):ao Tryd.prog 63 [.agg (GShow.encS s)] [] (.lit (.bool res)) []:=by
 refine am (ra:=[]) (md:=mdT) hT (hi:=hi00) Tryd.func63 rfl rfl (by decide +kernel) (by simp) ?_
 unfold dZ at h
 obtain ⟨r01,g1,h⟩:=ae h
 simp(config:=cS)only[go_sem]
 refine ag (qh g1) ?_
 obtain ⟨h2,h⟩|⟨h2,h⟩:=af h
 ·obtain ⟨r02,g3,h⟩:=ae h
  simp(config:=cS)only[go_sem,eZt h2]
  refine ag (re g3) ?_
  obtain ⟨h4,h⟩|⟨h4,h⟩:=af h
  ·obtain ⟨h5,h⟩|⟨h5,h⟩:=af h
   ·cases h
    simp(config:=cS)only[go_sem,eZt h2,eZt h4,eqT h5]
   ·obtain ⟨h6,h⟩|⟨h6,h⟩:=af h
    ·cases h
     simp(config:=cS)only[go_sem,eZt h2,eZt h4,eqF h5,eqT h6]
    ·obtain ⟨q05,l7,h⟩:=ae h
     simp(config:=cS)only[go_sem,eZt h2,eZt h4,eqF h5,eqF h6]
     refine au (m1:=.mk) (m2:=.mk) [.nf [1,24,25,26] [64]] (iP s.nodes ((s.nodes.length:Nat):Int) s.ties s.horizon) l7 ?_ ?_
     ·simp(config:=cS)only[go_sem,eZt h2,eZt h4,eqF h5,eqF h6]
     ·intro nb8 v26_1 bb8 b8 gb8
      unfold cW at b8
      try dsimp only at b8
      obtain ⟨h9,b8⟩|⟨h9,b8⟩:=af b8
      ·obtain ⟨x03,g10,b8⟩:=ae b8
       obtain ⟨h11,h12,h13⟩:=aq g10
       obtain ⟨r04,g14,b8⟩:=ae b8
       simp(config:=cS)only[go_sem,eZt h2,eZt h4,eqF h5,eqF h6,eqT h9,h11,h12,h13]
       refine ag (dC (by exact fun _ _ hr=>oC hr) (by refine ⟨fun _=>?_,fun _=>?_⟩ <;> simp only [go_sem]) (fun _=>rfl) rfl g14) ?_
       obtain ⟨h15,b8⟩|⟨h15,b8⟩:=af b8
       ·cases b8
        obtain rfl:=(ak gb8).symm
        try dsimp only at h
        cases h
        simp(config:=cS)only[go_sem,eZt h2,eZt h4,eqF h5,eqF h6,eqT h9,h11,h12,h13,eZt h15]
       ·cases b8
        simp(config:=cS)only[go_sem,eZt h2,eZt h4,eqF h5,eqF h6,eqT h9,h11,h12,h13,eZf h15]
        refine aw gb8 ?_
        simp(config:=cS)only[go_sem,eZt h2,eZt h4,eqF h5,eqF h6,eqT h9,h11,h12,h13,eZf h15]
      ·cases b8
       obtain rfl:=(ak gb8).symm
       try dsimp only at h
       cases h
       simp(config:=cS)only[go_sem,eZt h2,eZt h4,eqF h5,eqF h6,eqF h9]
  ·cases h
   simp(config:=cS)only[go_sem,eZt h2,eZf h4]
 ·cases h
  simp(config:=cS)only[go_sem,eZf h2]
attribute [go_sem] Tryd.ntmps150 Tryd.results150
theorem mm {n:Int}{res:Bool}(h:eh n=some res):ao Tryd.prog 150 [.lit (.int .i64 n)] [] (.lit (.bool res)) []:=by
 refine am (ra:=[]) (md:=mdT) hT (hi:=hi00) Tryd.func150 rfl rfl (by decide +kernel) (by simp) ?_
 unfold eh at h
 obtain ⟨h1,h⟩|⟨h1,h⟩:=af h
 ·cases h
  simp(config:=cS)only[go_sem,eqT h1]
 ·cases h
  simp(config:=cS)only[go_sem,eqF h1]
attribute [go_sem] Tryd.ntmps130 Tryd.results130
theorem qi {v:List Int}{res:Bool}(h:ei v=some res):ao Tryd.prog 130 [.sl (ab eI v)] [] (.lit (.bool res)) []:=by
 refine am (ra:=[]) (md:=mdT) hT (hi:=hi00) Tryd.func130 rfl rfl (by decide +kernel) (by simp) ?_
 unfold ei at h
 obtain ⟨h1,h⟩|⟨h1,h⟩:=af h
 ·obtain ⟨r01,g2,h⟩:=ae h
  simp(config:=cS)only[go_sem,eqT h1]
  refine ag (dC (by exact fun _ _ hr=>mm hr) (by refine ⟨fun _=>?_,fun _=>?_⟩ <;> simp only [go_sem]) (fun _=>rfl) rfl g2) ?_
  cases h
  simp(config:=cS)only[go_sem]
 ·cases h
  simp(config:=cS)only[go_sem,eqF h1]
def iC (a:List Int)(d:Int)(e:List GNode)(f:List GTie)(g b:Int)(c:List Int)(h:Int):St:=⟨[(2,.ptr 128 1 0 0),(3,.ptr 192 1 0 0),(37,.sl (ab eI a)),(38,.lit (.int .i64 d)),(39,.lit (.int .i64 h))],[(128,1,.var [.sl (ab GNode.encS e),.sl (ab GTie.enc f),.lit (.int .i64 g)]),(192,1,.var [.lit (.int .i64 b),.sl (ab eI a),.sl (ab eI c)])],2⟩
attribute [go_sem] iC
def iD (a:List Int)(d:Int)(e:List GNode)(f:List GTie)(g b:Int)(c:List Int)(h:Int):St:=⟨[(2,.ptr 128 1 0 0),(3,.ptr 192 1 0 0),(67,.sl (ab eI a)),(68,.lit (.int .i64 d)),(69,.lit (.int .i64 h))],[(128,1,.var [.sl (ab GNode.encS e),.sl (ab GTie.enc f),.lit (.int .i64 g)]),(192,1,.var [.lit (.int .i64 b),.sl (ab eI c),.sl (ab eI a)])],2⟩
attribute [go_sem] iD
attribute [go_sem] Tryd.ntmps102 Tryd.results102
theorem rf {s:GShow}{v1:GState}{res:Bool}(h:eO s v1=some res):ao Tryd.prog 102 [.agg (GShow.encS s),.agg (GState.encS v1)] [] (.lit (.bool res)) []:=by
 refine am (ra:=[]) (md:=mdT) hT (hi:=hi00) Tryd.func102 rfl rfl (by decide +kernel) (by simp) ?_
 unfold eO at h
 obtain ⟨h1,h⟩|⟨h1,h⟩:=af h
 ·cases h
  simp(config:=cS)only[go_sem,eqT h1]
 ·obtain ⟨h2,h⟩|⟨h2,h⟩:=af h
  ·cases h
   simp(config:=cS)only[go_sem,eqF h1,eqT h2]
  ·obtain ⟨h3,h⟩|⟨h3,h⟩:=af h
   ·obtain ⟨r01,g4,h⟩:=ae h
    simp(config:=cS)only[go_sem,eqF h1,eqF h2,eqT h3]
    refine ag (qi g4) ?_
    obtain ⟨h5,h⟩|⟨h5,h⟩:=af h
    ·obtain ⟨q07,l6,h⟩:=ae h
     simp(config:=cS)only[go_sem,eZt h5]
     refine au (m1:=.mk) (m2:=.mk) [.nf [2,3,37,38,39] [128,192]] (iC v1.times ((v1.times.length:Nat):Int) s.nodes s.ties s.horizon v1.now v1.values) l6 ?_ ?_
     ·simp(config:=cS)only[go_sem]
     ·intro nb7 v39_1 bb7 b7 gb7
      unfold cB at b7
      try dsimp only at b7
      obtain ⟨h8,b7⟩|⟨h8,b7⟩:=af b7
      ·obtain ⟨x02,g9,b7⟩:=ae b7
       obtain ⟨h10,h11,h12⟩:=aq g9
       obtain ⟨h13,b7⟩|⟨h13,b7⟩:=af b7
       ·obtain ⟨h14,b7⟩|⟨h14,b7⟩:=af b7
        ·obtain ⟨h15,b7⟩|⟨h15,b7⟩:=af b7
         ·obtain ⟨h16,b7⟩|⟨h16,b7⟩:=af b7
          ·cases b7
           obtain rfl:=(ak gb7).symm
           try dsimp only at h
           cases h
           simp(config:=cS)only[go_sem,eqT h8,h10,h11,h12,eqT h13,eqT h14,eqT h15,eqT h16]
          ·obtain ⟨h18,b7⟩|⟨h18,b7⟩:=af b7
           ·cases b7
            obtain rfl:=(ak gb7).symm
            try dsimp only at h
            cases h
            simp(config:=cS)only[go_sem,eqT h8,h10,h11,h12,eqT h13,eqT h14,eqT h15,eqF h16,eqT h18]
           ·cases b7
            simp(config:=cS)only[go_sem,eqT h8,h10,h11,h12,eqT h13,eqT h14,eqT h15,eqF h16,eqF h18]
            refine aw gb7 ?_
            simp(config:=cS)only[go_sem]
         ·cases b7
          simp(config:=cS)only[go_sem,eqT h8,h10,h11,h12,eqT h13,eqT h14,eqF h15]
          refine aw gb7 ?_
          simp(config:=cS)only[go_sem]
        ·cases b7
         obtain rfl:=(ak gb7).symm
         try dsimp only at h
         cases h
         simp(config:=cS)only[go_sem,eqT h8,h10,h11,h12,eqT h13,eqF h14]
       ·obtain ⟨h21,b7⟩|⟨h21,b7⟩:=af b7
        ·obtain ⟨h22,b7⟩|⟨h22,b7⟩:=af b7
         ·cases b7
          obtain rfl:=(ak gb7).symm
          try dsimp only at h
          cases h
          simp(config:=cS)only[go_sem,eqT h8,h10,h11,h12,eqF h13,eqT h21,eqT h22]
         ·obtain ⟨h24,b7⟩|⟨h24,b7⟩:=af b7
          ·cases b7
           obtain rfl:=(ak gb7).symm
           try dsimp only at h
           cases h
           simp(config:=cS)only[go_sem,eqT h8,h10,h11,h12,eqF h13,eqT h21,eqF h22,eqT h24]
          ·cases b7
           simp(config:=cS)only[go_sem,eqT h8,h10,h11,h12,eqF h13,eqT h21,eqF h22,eqF h24]
           refine aw gb7 ?_
           simp(config:=cS)only[go_sem]
        ·cases b7
         simp(config:=cS)only[go_sem,eqT h8,h10,h11,h12,eqF h13,eqF h21]
         refine aw gb7 ?_
         simp(config:=cS)only[go_sem]
      ·cases b7
       obtain rfl:=(ak gb7).symm
       try dsimp only at h
       obtain ⟨q06,l27,h⟩:=ae h
       simp(config:=cS)only[go_sem,eqF h8]
       refine au (m1:=.mk) (m2:=.mk) [.nf [2,3,67,68,69] [128,192]] (iD v1.values ((v1.values.length:Nat):Int) s.nodes s.ties s.horizon v1.now v1.times) l27 ?_ ?_
       ·simp(config:=cS)only[go_sem]
       ·intro nb28 v69_2 bb28 b28 gb28
        unfold cC at b28
        try dsimp only at b28
        obtain ⟨h29,b28⟩|⟨h29,b28⟩:=af b28
        ·obtain ⟨x03,g30,b28⟩:=ae b28
         obtain ⟨h31,h32,h33⟩:=aq g30
         obtain ⟨r04,g34,b28⟩:=ae b28
         simp(config:=cS)only[go_sem,eqT h29,h31,h32,h33]
         refine ag (kU g34) ?_
         obtain ⟨h35,b28⟩|⟨h35,b28⟩:=af b28
         ·obtain ⟨x05,g36,b28⟩:=ae b28
          obtain ⟨h37,h38,h39⟩:=aq g36
          obtain ⟨h40,b28⟩|⟨h40,b28⟩:=af b28
          ·cases b28
           simp(config:=cS)only[go_sem,eqT h35,h37,h38,h39,eqT h40]
           refine aw gb28 ?_
           simp(config:=cS)only[go_sem]
          ·cases b28
           obtain rfl:=(ak gb28).symm
           try dsimp only at h
           cases h
           simp(config:=cS)only[go_sem,eqT h35,h37,h38,h39,eqF h40]
         ·obtain ⟨h42,b28⟩|⟨h42,b28⟩:=af b28
          ·cases b28
           simp(config:=cS)only[go_sem,eqF h35,eqT h42]
           refine aw gb28 ?_
           simp(config:=cS)only[go_sem]
          ·cases b28
           obtain rfl:=(ak gb28).symm
           try dsimp only at h
           cases h
           simp(config:=cS)only[go_sem,eqF h35,eqF h42]
        ·cases b28
         obtain rfl:=(ak gb28).symm
         try dsimp only at h
         cases h
         simp(config:=cS)only[go_sem,eqF h29]
    ·cases h
     simp(config:=cS)only[go_sem,eZf h5]
   ·cases h
    simp(config:=cS)only[go_sem,eqF h1,eqF h2,eqF h3]
attribute [go_sem] Tryd.ntmps72 Tryd.results72
theorem rg {s:GShow}{v1:GState}{res:Bool}(h:eP s v1=some res):ao Tryd.prog 72 [.agg (GShow.encS s),.agg (GState.encS v1)] [] (.lit (.bool res)) []:=by
 refine am (ra:=[]) (md:=mdT) hT (hi:=hi00) Tryd.func72 rfl rfl (by decide +kernel) (by simp) ?_
 unfold eP at h
 obtain ⟨r01,g1,h⟩:=ae h
 simp(config:=cS)only[go_sem]
 refine ag (lF g1) ?_
 obtain ⟨h2,h⟩|⟨h2,h⟩:=af h
 ·obtain ⟨r02,g3,h⟩:=ae h
  simp(config:=cS)only[go_sem,eZt h2]
  refine ag (rf g3) ?_
  cases h
  simp(config:=cS)only[go_sem,eZt h2]
 ·cases h
  simp(config:=cS)only[go_sem,eZf h2]
def gb (b:List Int)(c:Int)(d:List GNode)(e:List GTie)(f:Int):(Int × (List ByteArray))→St
 | (g,a)=>⟨[(2,.ptr 128 1 0 0),(5,.ref 383 1 0 a.length),(19,.sl (ab eI b)),(20,.lit (.int .i64 c)),(21,.lit (.int .i64 g))],[(128,1,.var [.sl (ab GNode.encS d),.sl (ab GTie.enc e),.lit (.int .i64 f)]),(383,1,.row true (ab eS a))],2⟩
attribute [go_sem] gb
@[go_sem] def hi73_8:DT:=.i2 0 (.i1 1 (.i1 2 (.i2 3 (.i1 4 (.i1 5 (.i1 6 (.i2 7 (.i2 8 (.i0 9 [1,2,4,5,6] (.i2 10 (.i2 11 (.i2 12 (.i2 13 .nil)))))))))))))
def hi73:Hint where
 acts:=fun _=>[]
 draws:=fun
  | 8=>⟨hi73_8,[[],[],[1],[],[1,2,3],[1,2,3,4],[1,2,3,4,5],[1,2,3,4,5,6],[],[8],[1,2,3,4,5,6,7,8,9],[1,2,3,4,5,6,7,8,9,10],.range 12,.range 13],.range 14⟩
  | _=>⟨.nil,[],[]⟩
theorem Bz (i:Nat):hi73.acts i=[]:=rfl
theorem BA (i:Nat):hi73.views i=none:=rfl
attribute [go_sem] Bz BA Tryd.ntmps73 Tryd.results73
@[go_sem] theorem Cj:(hi73.draws 8).order=hi73_8:=rfl
theorem mn {s:GShow}{times:List Int}{res:ByteArray}(h:dl s times=some res):ao Tryd.prog 73 [.agg (GShow.encS s),.sl (ab eI times)] [] (.lit (.string res)) []:=by
 refine am (ra:=[]) (md:=mdT) hT (hi:=hi73) Tryd.func73 rfl rfl (by decide +kernel) (by simp) ?_
 unfold dl at h
 obtain ⟨r01,g1,h⟩:=ae h
 simp(config:=cS)only[go_sem]
 refine ag (lF g1) ?_
 obtain ⟨h2,h⟩|⟨h2,h⟩:=af h
 ·obtain ⟨h3,h⟩|⟨h3,h⟩:=af h
  ·obtain ⟨q06,l4,h⟩:=ae h
   simp(config:=cS)only[go_sem,eZt h2,eqT h3]
   refine au (m1:=.mk) (m2:=.mk) [.home 5,.nf [2,5,19,20,21] [128,383]] (gb times ((times.length:Nat):Int) s.nodes s.ties s.horizon) l4 ?_ ?_
   ·simp(config:=cS)only[go_sem]
   ·intro nb5 sb5 bb5 b5 gb5
    obtain ⟨v21_1,parts_1⟩:=sb5
    unfold cg at b5
    try dsimp only at b5
    obtain ⟨h6,b5⟩|⟨h6,b5⟩:=af b5
    ·obtain ⟨x02,g7,b5⟩:=ae b5
     obtain ⟨h8,h9,h10⟩:=aq g7
     obtain ⟨h11,b5⟩|⟨h11,b5⟩:=af b5
     ·cases b5
      simp(config:=cS)only[go_sem,eqT h6,h8,h9,h10,eqT h11]
      refine aw gb5 ?_
      simp(config:=cS)only[go_sem]
     ·obtain ⟨x03,g12,b5⟩:=ae b5
      obtain ⟨h13,h14,h15⟩:=aq g12
      obtain ⟨h16,b5⟩:=az b5
      obtain ⟨r04,g17,b5⟩:=ae b5
      simp(config:=cS)only[go_sem,eqT h6,h8,h9,h10,eqF h11,h13,h14,h15,eqT h16]
      refine ag (gP g17) ?_
      obtain ⟨h18,b5⟩:=az b5
      try simp(config:=cS)only[go_sem] at h18
      obtain ⟨h19,b5⟩:=az b5
      obtain ⟨h20,b5⟩:=az b5
      cases b5
      simp(config:=cS)only[go_sem,eZt h2,eqT h3,eqT h6,h8,h9,h10,eqF h11,h13,h14,h15,eqT h16,eqT h18,eqT h19,eqT h20]
      refine aw gb5 ?_
      simp(config:=cS)only[go_sem]
    ·cases b5
     obtain rfl:=(ak gb5).symm
     try dsimp only at h
     obtain ⟨r05,g22,h⟩:=ae h
     simp(config:=cS)only[go_sem,eqF h6]
     refine ag (qj g22) ?_
     cases h
     simp(config:=cS)only[go_sem]
  ·cases h
   simp(config:=cS)only[go_sem,eZt h2,eqF h3]
 ·cases h
  simp(config:=cS)only[go_sem,eZf h2]
def gd (b:List Int)(c:Int):(Int × (List ByteArray))→St
 | (d,a)=>⟨[(3,.ref 255 1 0 a.length),(13,.sl (ab eI b)),(14,.lit (.int .i64 c)),(15,.lit (.int .i64 d))],[(255,1,.row true (ab eS a))],2⟩
attribute [go_sem] gd
attribute [go_sem] Tryd.ntmps74 Tryd.results74
theorem mq {l:List Int}{res:ByteArray}(h:dm l=some res):ao Tryd.prog 74 [.sl (ab eI l)] [] (.lit (.string res)) []:=by
 refine am (ra:=[]) (md:=mdT) hT (hi:=hi00) Tryd.func74 rfl rfl (by decide +kernel) (by simp) ?_
 unfold dm at h
 obtain ⟨r01,g1,h⟩:=ae h
 simp(config:=cS)only[go_sem]
 refine ag (gu g1) ?_
 obtain ⟨h2,h⟩|⟨h2,h⟩:=af h
 ·obtain ⟨h3,h⟩|⟨h3,h⟩:=af h
  ·cases h
   simp(config:=cS)only[go_sem,eZt h2,eqT h3]
  ·obtain ⟨q06,l4,h⟩:=ae h
   simp(config:=cS)only[go_sem,eZt h2,eqF h3]
   refine au (m1:=.mk) (m2:=.mk) [.home 3,.nf [3,13,14,15] [255]] (gd l ((l.length:Nat):Int)) l4 ?_ ?_
   ·simp(config:=cS)only[go_sem]
   ·intro nb5 sb5 bb5 b5 gb5
    obtain ⟨v15_1,parts_1⟩:=sb5
    unfold ch at b5
    try dsimp only at b5
    obtain ⟨h6,b5⟩|⟨h6,b5⟩:=af b5
    ·obtain ⟨x02,g7,b5⟩:=ae b5
     obtain ⟨h8,h9,h10⟩:=aq g7
     obtain ⟨r03,g11,b5⟩:=ae b5
     simp(config:=cS)only[go_sem,eqT h6,h8,h9,h10]
     refine ag (gM g11) ?_
     obtain ⟨r04,g12,b5⟩:=ae b5
     simp(config:=cS)only[go_sem]
     refine ag (gP g12) ?_
     obtain ⟨h13,b5⟩:=az b5
     obtain ⟨h14,b5⟩|⟨h14,b5⟩:=af b5
     ·obtain ⟨h15,b5⟩:=az b5
      try simp(config:=cS)only[go_sem] at h15
      obtain ⟨h16,b5⟩:=az b5
      obtain ⟨h17,b5⟩:=az b5
      cases b5
      simp(config:=cS)only[go_sem,eZt h2,eqF h3,eqT h6,h8,h9,h10,eqT h13,eqT h14,eqT h15,eqT h16,eqT h17]
      refine aw gb5 ?_
      simp(config:=cS)only[go_sem]
     ·obtain ⟨h18,b5⟩:=az b5
      obtain ⟨h19,b5⟩:=az b5
      cases b5
      simp(config:=cS)only[go_sem,eqT h13,eqF h14,eqT h18,eqT h19]
      refine aw gb5 ?_
      simp(config:=cS)only[go_sem]
    ·cases b5
     obtain rfl:=(ak gb5).symm
     try dsimp only at h
     obtain ⟨r05,g21,h⟩:=ae h
     simp(config:=cS)only[go_sem,eqF h6]
     refine ag (om g21) ?_
     cases h
     simp(config:=cS)only[go_sem]
 ·cases h
  simp(config:=cS)only[go_sem,eZf h2]
def gg (b:List Int)(e:Int)(f:List GNode)(g:List GTie)(h c:Int)(d:List Int):(Int × (List Int))→St
 | (i,a)=>⟨[(2,.ptr 128 1 0 0),(3,.ptr 192 1 0 0),(5,.ref 383 1 0 a.length),(13,.sl (ab eI b)),(14,.lit (.int .i64 e)),(15,.lit (.int .i64 i))],[(128,1,.var [.sl (ab GNode.encS f),.sl (ab GTie.enc g),.lit (.int .i64 h)]),(192,1,.var [.lit (.int .i64 c),.sl (ab eI d),.sl (ab eI b)]),(383,1,.row true (ab eI a))],2⟩
attribute [go_sem] gg
@[go_sem] def hi37_10:DT:=.i2 0 (.i2 1 (.i1 4 (.i1 5 (.i1 6 (.i2 10 (.i0 2 [4,5,6] (.i2 3 (.i2 7 (.i2 8 (.i2 9 (.i2 11 (.i2 12 (.i2 13 .nil)))))))))))))
def hi37:Hint where
 acts:=fun _=>[]
 draws:=fun
  | 10=>⟨hi37_10,[[],[0],[0,1],[0,1,2],[],[],[5],[0,1,2,4,5,6],.range 8,.range 9,[],[0,1,2,4,5,6,7,10],.range 12,.range 13],.range 14⟩
  | _=>⟨.nil,[],[]⟩
theorem BB (i:Nat):hi37.acts i=[]:=rfl
theorem BC (i:Nat):hi37.views i=none:=rfl
attribute [go_sem] BB BC Tryd.ntmps37 Tryd.results37
@[go_sem] theorem Ce:(hi37.draws 10).order=hi37_10:=rfl
theorem mr {s:GShow}{v1:GState}{res:ByteArray}(h:dn s v1=some res):ao Tryd.prog 37 [.agg (GShow.encS s),.agg (GState.encS v1)] [] (.lit (.string res)) []:=by
 refine am (ra:=[]) (md:=mdT) hT (hi:=hi37) Tryd.func37 rfl rfl (by decide +kernel) (by simp) ?_
 unfold dn at h
 obtain ⟨r01,g1,h⟩:=ae h
 simp(config:=cS)only[go_sem]
 refine ag (rg g1) ?_
 obtain ⟨h2,h⟩|⟨h2,h⟩:=af h
 ·obtain ⟨q06,l3,h⟩:=ae h
  simp(config:=cS)only[go_sem,eZt h2]
  refine au (m1:=.mk) (m2:=.mk) [.home 5,.nf [2,3,5,13,14,15] [128,192,383]] (gg v1.values ((v1.values.length:Nat):Int) s.nodes s.ties s.horizon v1.now v1.times) l3 ?_ ?_
  ·simp(config:=cS)only[go_sem]
  ·intro nb4 sb4 bb4 b4 gb4
   obtain ⟨v15_1,label_1⟩:=sb4
   unfold cj at b4
   try dsimp only at b4
   obtain ⟨h5,b4⟩|⟨h5,b4⟩:=af b4
   ·obtain ⟨x02,g6,b4⟩:=ae b4
    obtain ⟨h7,h8,h9⟩:=aq g6
    obtain ⟨h10,b4⟩|⟨h10,b4⟩:=af b4
    ·cases b4
     simp(config:=cS)only[go_sem,eqT h5,h7,h8,h9,eqT h10]
     refine aw gb4 ?_
     simp(config:=cS)only[go_sem]
    ·obtain ⟨h11,b4⟩:=az b4
     obtain ⟨h12,b4⟩:=az b4
     cases b4
     simp(config:=cS)only[go_sem,eqT h5,h7,h8,h9,eqF h10,eqT h11,eqT h12]
     refine aw gb4 ?_
     simp(config:=cS)only[go_sem]
   ·cases b4
    obtain rfl:=(ak gb4).symm
    try dsimp only at h
    obtain ⟨r03,g14,h⟩:=ae h
    simp(config:=cS)only[go_sem,eqF h5]
    refine ag (gP g14) ?_
    obtain ⟨h15,h⟩:=az h
    obtain ⟨r04,g16,h⟩:=ae h
    simp(config:=cS)only[go_sem,eqT h15]
    refine ag (mn g16) ?_
    obtain ⟨h17,h⟩:=az h
    try simp(config:=cS)only[go_sem] at h17
    obtain ⟨h18,h⟩:=az h
    try simp(config:=cS)only[go_sem] at h18
    obtain ⟨r05,g19,h⟩:=ae h
    simp(config:=cS)only[go_sem,eZt h2,eqF h5,eqT h15,eqT h17,eqT h18]
    refine ag (mq g19) ?_
    obtain ⟨h20,h⟩:=az h
    try simp(config:=cS)only[go_sem] at h20
    cases h
    simp(config:=cS)only[go_sem,eZt h2,eqF h5,eqT h15,eqT h17,eqT h18,eqT h20]
 ·cases h
  simp(config:=cS)only[go_sem,eZf h2]
attribute [go_sem] Tryd.ntmps96 Tryd.results96
theorem sv {a b:GNode}{res:Bool}(h:fA a b=some res):ao Tryd.prog 96 [.agg (GNode.encS a),.agg (GNode.encS b)] [] (.lit (.bool res)) []:=by
 refine am (ra:=[]) (md:=mdT) hT (hi:=hi00) Tryd.func96 rfl rfl (by decide +kernel) (by simp) ?_
 unfold fA at h
 obtain ⟨h1,h⟩|⟨h1,h⟩:=af h
 ·obtain ⟨r01,g2,h⟩:=ae h
  simp(config:=cS)only[go_sem,eqT h1]
  refine ag (jC g2) ?_
  obtain ⟨h3,h⟩|⟨h3,h⟩:=af h
  ·obtain ⟨h4,h⟩|⟨h4,h⟩:=af h
   ·cases h
    simp(config:=cS)only[go_sem,eZt h3,eqT h4]
   ·cases h
    simp(config:=cS)only[go_sem,eZt h3,eqF h4]
  ·cases h
   simp(config:=cS)only[go_sem,eZf h3]
 ·cases h
  simp(config:=cS)only[go_sem,eqF h1]
def iE (a b:List GNode)(i:Int):St:=⟨[(0,.sl (ab GNode.encS a)),(1,.sl (ab GNode.encS b)),(5,.lit (.int .i64 i))],[],2⟩
attribute [go_sem] iE
@[go_sem] def hi64_6:DT:=.i2 0 (.i2 1 (.i2 2 (.i2 3 (.i2 4 (.i2 5 (.i2 6 (.i2 7 (.i2 8 (.i2 9 .nil)))))))))
def hi64:Hint where
 acts:=fun _=>[]
 draws:=fun
  | 6=>⟨hi64_6,[[],[],[0,1],[0,1,2],[],[],[4,5],[4,5,6],.range 8,.range 9],.range 10⟩
  | _=>⟨.nil,[],[]⟩
theorem BD (i:Nat):hi64.acts i=[]:=rfl
theorem BE (i:Nat):hi64.views i=none:=rfl
attribute [go_sem] BD BE Tryd.ntmps64 Tryd.results64
@[go_sem] theorem Ck:(hi64.draws 6).order=hi64_6:=rfl
theorem rh {a b:List GNode}{res:Bool}(h:eJ a b=some res):ao Tryd.prog 64 [.sl (ab GNode.encS a),.sl (ab GNode.encS b)] [] (.lit (.bool res)) []:=by
 refine am (ra:=[]) (md:=mdT) hT (hi:=hi64) Tryd.func64 rfl rfl (by decide +kernel) (by simp) ?_
 unfold eJ at h
 obtain ⟨h1,h⟩|⟨h1,h⟩:=af h
 ·obtain ⟨q04,l2,h⟩:=ae h
  simp(config:=cS)only[go_sem,eqT h1]
  refine au (m1:=.mk) (m2:=.mk) [.nf [0,1,5] []] (iE a b) l2 ?_ ?_
  ·simp(config:=cS)only[go_sem]
  ·intro nb3 i_1 bb3 b3 gb3
   unfold dz at b3
   try dsimp only at b3
   obtain ⟨h4,b3⟩|⟨h4,b3⟩:=af b3
   ·obtain ⟨x01,g5,b3⟩:=ae b3
    obtain ⟨h6,h7,h8⟩:=aq g5
    obtain ⟨x02,g9,b3⟩:=ae b3
    obtain ⟨h10,h11,h12⟩:=aq g9
    obtain ⟨r03,g13,b3⟩:=ae b3
    simp(config:=cS)only[go_sem,eqT h4,h6,h7,h8,h10,h11,h12]
    refine ag (sv g13) ?_
    obtain ⟨h14,b3⟩|⟨h14,b3⟩:=af b3
    ·cases b3
     simp(config:=cS)only[go_sem,eZt h14]
     refine aw gb3 ?_
     simp(config:=cS)only[go_sem]
    ·cases b3
     obtain rfl:=(ak gb3).symm
     try dsimp only at h
     cases h
     simp(config:=cS)only[go_sem,eZf h14]
   ·cases b3
    obtain rfl:=(ak gb3).symm
    try dsimp only at h
    cases h
    simp(config:=cS)only[go_sem,eqF h4]
 ·cases h
  simp(config:=cS)only[go_sem,eqF h1]
attribute [go_sem] Tryd.ntmps97 Tryd.results97
theorem tH {a b:GTie}{res:Bool}(h:iG a b=some res):ao Tryd.prog 97 [.agg (GTie.enc a),.agg (GTie.enc b)] [] (.lit (.bool res)) []:=by
 refine am (ra:=[]) (md:=mdT) hT (hi:=hi00) Tryd.func97 rfl rfl (by decide +kernel) (by simp) ?_
 unfold iG at h
 obtain ⟨h1,h⟩|⟨h1,h⟩:=af h
 ·obtain ⟨h2,h⟩|⟨h2,h⟩:=af h
  ·obtain ⟨h3,h⟩|⟨h3,h⟩:=af h
   ·obtain ⟨h4,h⟩|⟨h4,h⟩:=af h
    ·obtain ⟨h5,h⟩|⟨h5,h⟩:=af h
     ·cases h
      simp(config:=cS)only[go_sem,eqT h1,eqT h2,eqT h3,eqT h4,eqT h5]
     ·cases h
      simp(config:=cS)only[go_sem,eqT h1,eqT h2,eqT h3,eqT h4,eqF h5]
    ·cases h
     simp(config:=cS)only[go_sem,eqT h1,eqT h2,eqT h3,eqF h4]
   ·cases h
    simp(config:=cS)only[go_sem,eqT h1,eqT h2,eqF h3]
  ·cases h
   simp(config:=cS)only[go_sem,eqT h1,eqF h2]
 ·cases h
  simp(config:=cS)only[go_sem,eqF h1]
def iQ (a b:List GTie)(i:Int):St:=⟨[(0,.sl (ab GTie.enc a)),(1,.sl (ab GTie.enc b)),(5,.lit (.int .i64 i))],[],2⟩
attribute [go_sem] iQ
@[go_sem] def hi65_6:DT:=.i2 0 (.i2 1 (.i2 2 (.i2 3 (.i2 4 (.i2 5 (.i2 6 (.i2 7 (.i2 8 (.i2 9 .nil)))))))))
def hi65:Hint where
 acts:=fun _=>[]
 draws:=fun
  | 6=>⟨hi65_6,[[],[],[0,1],[0,1,2],[],[],[4,5],[4,5,6],.range 8,.range 9],.range 10⟩
  | _=>⟨.nil,[],[]⟩
theorem BF (i:Nat):hi65.acts i=[]:=rfl
theorem BG (i:Nat):hi65.views i=none:=rfl
attribute [go_sem] BF BG Tryd.ntmps65 Tryd.results65
@[go_sem] theorem Cl:(hi65.draws 6).order=hi65_6:=rfl
theorem sw {a b:List GTie}{res:Bool}(h:fB a b=some res):ao Tryd.prog 65 [.sl (ab GTie.enc a),.sl (ab GTie.enc b)] [] (.lit (.bool res)) []:=by
 refine am (ra:=[]) (md:=mdT) hT (hi:=hi65) Tryd.func65 rfl rfl (by decide +kernel) (by simp) ?_
 unfold fB at h
 obtain ⟨h1,h⟩|⟨h1,h⟩:=af h
 ·obtain ⟨q04,l2,h⟩:=ae h
  simp(config:=cS)only[go_sem,eqT h1]
  refine au (m1:=.mk) (m2:=.mk) [.nf [0,1,5] []] (iQ a b) l2 ?_ ?_
  ·simp(config:=cS)only[go_sem]
  ·intro nb3 i_1 bb3 b3 gb3
   unfold dQ at b3
   try dsimp only at b3
   obtain ⟨h4,b3⟩|⟨h4,b3⟩:=af b3
   ·obtain ⟨x01,g5,b3⟩:=ae b3
    obtain ⟨h6,h7,h8⟩:=aq g5
    obtain ⟨x02,g9,b3⟩:=ae b3
    obtain ⟨h10,h11,h12⟩:=aq g9
    obtain ⟨r03,g13,b3⟩:=ae b3
    simp(config:=cS)only[go_sem,eqT h4,h6,h7,h8,h10,h11,h12]
    refine ag (tH g13) ?_
    obtain ⟨h14,b3⟩|⟨h14,b3⟩:=af b3
    ·cases b3
     simp(config:=cS)only[go_sem,eZt h14]
     refine aw gb3 ?_
     simp(config:=cS)only[go_sem]
    ·cases b3
     obtain rfl:=(ak gb3).symm
     try dsimp only at h
     cases h
     simp(config:=cS)only[go_sem,eZf h14]
   ·cases b3
    obtain rfl:=(ak gb3).symm
    try dsimp only at h
    cases h
    simp(config:=cS)only[go_sem,eqF h4]
 ·cases h
  simp(config:=cS)only[go_sem,eqF h1]
attribute [go_sem] Tryd.ntmps26 Tryd.results26
theorem sx {a b:GShow}{res:Bool}(h:fC a b=some res):ao Tryd.prog 26 [.agg (GShow.encS a),.agg (GShow.encS b)] [] (.lit (.bool res)) []:=by
 refine am (ra:=[]) (md:=mdT) hT (hi:=hi00) Tryd.func26 rfl rfl (by decide +kernel) (by simp) ?_
 unfold fC at h
 obtain ⟨r01,g1,h⟩:=ae h
 simp(config:=cS)only[go_sem]
 refine ag (rh g1) ?_
 obtain ⟨h2,h⟩|⟨h2,h⟩:=af h
 ·obtain ⟨r02,g3,h⟩:=ae h
  simp(config:=cS)only[go_sem,eZt h2]
  refine ag (sw g3) ?_
  obtain ⟨h4,h⟩|⟨h4,h⟩:=af h
  ·obtain ⟨h5,h⟩|⟨h5,h⟩:=af h
   ·cases h
    simp(config:=cS)only[go_sem,eZt h4,eqT h5]
   ·cases h
    simp(config:=cS)only[go_sem,eZt h4,eqF h5]
  ·cases h
   simp(config:=cS)only[go_sem,eZf h4]
 ·cases h
  simp(config:=cS)only[go_sem,eZf h2]
attribute [go_sem] Tryd.ntmps38 Tryd.results38
theorem ri {a b:GState}{res:Bool}(h:eQ a b=some res):ao Tryd.prog 38 [.agg (GState.encS a),.agg (GState.encS b)] [] (.lit (.bool res)) []:=by
 refine am (ra:=[]) (md:=mdT) hT (hi:=hi00) Tryd.func38 rfl rfl (by decide +kernel) (by simp) ?_
 unfold eQ at h
 obtain ⟨h1,h⟩|⟨h1,h⟩:=af h
 ·obtain ⟨r01,g2,h⟩:=ae h
  simp(config:=cS)only[go_sem,eqT h1]
  refine ag (jC g2) ?_
  obtain ⟨h3,h⟩|⟨h3,h⟩:=af h
  ·obtain ⟨r02,g4,h⟩:=ae h
   simp(config:=cS)only[go_sem,eZt h3]
   refine ag (jC g4) ?_
   obtain ⟨h5,h⟩|⟨h5,h⟩:=af h
   ·cases h
    simp(config:=cS)only[go_sem,eZt h5]
   ·cases h
    simp(config:=cS)only[go_sem,eZf h5]
  ·cases h
   simp(config:=cS)only[go_sem,eZf h3]
 ·cases h
  simp(config:=cS)only[go_sem,eqF h1]
@[go_sem] def hi8_16:DT:=.i1 0 (.i2 1 (.i0 2 [0] (.i2 3 (.i2 4 .nil))))
@[go_sem] def hi8_14:DT:=.i1 0 (.i2 1 (.i0 2 [0] (.i2 3 (.i2 4 .nil))))
@[go_sem] def hi8_8:DT:=.i2 0 (.i1 2 (.i0 1 [2] (.i2 3 (.i2 4 (.i2 5 .nil)))))
def hi8:Hint where
 acts:=fun _=>[]
 draws:=fun
  | 8=>⟨hi8_8,[[],[0],[],[0,1,2],[0,1,2,3],.range 5],.range 6⟩
  | 14=>⟨hi8_14,[[],[],[1],[0,1,2],[0,1,2,3]],.range 5⟩
  | 16=>⟨hi8_16,[[],[],[1],[0,1,2],[0,1,2,3]],.range 5⟩
  | _=>⟨.nil,[],[]⟩
theorem hi8a (i:Nat):hi8.acts i=[]:=rfl
theorem hi8v (i:Nat):hi8.views i=none:=rfl
attribute [go_sem] hi8a hi8v Tryd.ntmps8 Tryd.results8
@[go_sem] theorem Cz:(hi8.draws 8).order=hi8_8:=rfl
@[go_sem] theorem Cm:(hi8.draws 14).order=hi8_14:=rfl
@[go_sem] theorem Cn:(hi8.draws 16).order=hi8_16:=rfl
theorem jR {aS:GShow}{aX:GState}{res:Bool}(h:ck aS aX=some res):ao Tryd.prog 8 [.agg (GShow.encS aS),.agg (GState.encS aX)] [] (.lit (.bool res)) []:=by
 refine am (ra:=[]) (md:=mdT) hT (hi:=hi8) Tryd.func8 rfl rfl (by decide +kernel) (by simp) ?_
 unfold ck at h
 obtain ⟨r01,g1,h⟩:=ae h
 simp(config:=cS)only[go_sem]
 refine ag (sj g1) ?_
 obtain ⟨h2,h⟩|⟨h2,h⟩:=af h
 ·cases h
  simp(config:=cS)only[go_sem,eqT h2]
 ·obtain ⟨r02,g3,h⟩:=ae h
  simp(config:=cS)only[go_sem,eqF h2]
  refine ag (qX g3) ?_
  obtain ⟨h4,h⟩|⟨h4,h⟩:=af h
  ·cases h
   simp(config:=cS)only[go_sem,eqT h4]
  ·obtain ⟨r03,g5,h⟩:=ae h
   simp(config:=cS)only[go_sem,eqF h4]
   refine ag (jy g5) ?_
   obtain ⟨r04,g6,h⟩:=ae h
   simp(config:=cS)only[go_sem]
   refine ag (ja g6) ?_
   obtain ⟨r05,g7,h⟩:=ae h
   simp(config:=cS)only[go_sem]
   refine ag (mi g7) ?_
   obtain ⟨r06,g8,h⟩:=ae h
   simp(config:=cS)only[go_sem]
   refine ag (jy g8) ?_
   obtain ⟨r07,g9,h⟩:=ae h
   simp(config:=cS)only[go_sem]
   refine ag (ja g9) ?_
   obtain ⟨r08,g10,h⟩:=ae h
   simp(config:=cS)only[go_sem]
   refine ag (mr g10) ?_
   obtain ⟨h11,h⟩|⟨h11,h⟩:=af h
   ·obtain ⟨r09,g12,h⟩:=ae h
    simp(config:=cS)only[go_sem,eqT h11]
    refine ag (jy g12) ?_
    obtain ⟨r10,g13,h⟩:=ae h
    simp(config:=cS)only[go_sem]
    refine ag (sx g13) ?_
    obtain ⟨h14,h⟩|⟨h14,h⟩:=af h
    ·obtain ⟨r11,g15,h⟩:=ae h
     simp(config:=cS)only[go_sem,eZt h14]
     refine ag (ja g15) ?_
     obtain ⟨r12,g16,h⟩:=ae h
     simp(config:=cS)only[go_sem]
     refine ag (ri g16) ?_
     obtain ⟨h17,h⟩|⟨h17,h⟩:=af h
     ·cases h
      simp(config:=cS)only[go_sem,eZt h17]
     ·cases h
      simp(config:=cS)only[go_sem,eZf h17]
    ·cases h
     simp(config:=cS)only[go_sem,eZf h14]
   ·cases h
    simp(config:=cS)only[go_sem,eqF h11]
end Go.Proofs.Qa
