/- Functions. -/
import Derived.Test.YtbmkhnbjfeoggaaGreatDoorYcJ
set_option linter.all false
set_option maxRecDepth 100000
set_option maxHeartbeats 4000000
namespace Go.Proofs.Qc
open Go
attribute [go_sem] Tryz.ntmps90 Tryz.results90
theorem yK {a:GState}{left res:Int}(h:iM a left=some res):am Tryz.prog 90 [.agg (GState.encS a),.lit (.int .i64 left)] [] (.lit (.int .i64 res)) []:=by
 refine ai (ra:=[]) (md:=mdT) hT (hi:=hi00) Tryz.func90 rfl rfl (by decide +kernel) (by simp) ?_
 unfold iM at h
 obtain ⟨r01,g1,h⟩:=ae h
 simp(config:=cS)only[go_sem]
 refine ag (gD g1) ?_
 obtain ⟨h2,h⟩|⟨h2,h⟩:=af h
 ·cases h
  simp(config:=cS)only[go_sem,eqT h2]
 ·obtain ⟨r02,g3,h⟩:=ae h
  simp(config:=cS)only[go_sem,eqF h2]
  refine ag (gD g3) ?_
  obtain ⟨h4,h⟩|⟨h4,h⟩:=af h
  ·cases h
   simp(config:=cS)only[go_sem,eqT h4]
  ·cases h
   simp(config:=cS)only[go_sem,eqF h4]
attribute [go_sem] Tryz.ntmps71 Tryz.results71
theorem yL {a:GEntry}{left res:Int}(h:iz a left=some res):am Tryz.prog 71 [.agg (GEntry.encS a),.lit (.int .i64 left)] [] (.lit (.int .i64 res)) []:=by
 refine ai (ra:=[]) (md:=mdT) hT (hi:=hi00) Tryz.func71 rfl rfl (by decide +kernel) (by simp) ?_
 unfold iz at h
 obtain ⟨r01,g1,h⟩:=ae h
 simp(config:=cS)only[go_sem]
 refine ag (gD g1) ?_
 obtain ⟨h2,h⟩|⟨h2,h⟩:=af h
 ·cases h
  simp(config:=cS)only[go_sem,eqT h2]
 ·obtain ⟨r02,g3,h⟩:=ae h
  simp(config:=cS)only[go_sem,eqF h2]
  refine ag (gD g3) ?_
  obtain ⟨h4,h⟩|⟨h4,h⟩:=af h
  ·cases h
   simp(config:=cS)only[go_sem,eqT h4]
  ·obtain ⟨r03,g5,h⟩:=ae h
   simp(config:=cS)only[go_sem,eqF h4]
   refine ag (gD g5) ?_
   obtain ⟨h6,h⟩|⟨h6,h⟩:=af h
   ·cases h
    simp(config:=cS)only[go_sem,eqT h6]
   ·cases h
    simp(config:=cS)only[go_sem,eqF h6]
def lA (a:List GEntry):(Int × Int)→St
 | (b,i)=>⟨[(0,.sl (ab GEntry.encS a)),(1,.lit (.int .i64 b)),(5,.lit (.int .i64 i))],[],2⟩
attribute [go_sem] lA
attribute [go_sem] Tryz.ntmps21 Tryz.results21
theorem xn {a:List GEntry}{left res:Int}(h:gL a left=some res):am Tryz.prog 21 [.sl (ab GEntry.encS a),.lit (.int .i64 left)] [] (.lit (.int .i64 res)) []:=by
 refine ai (ra:=[]) (md:=mdT) hT (hi:=hi00) Tryz.func21 rfl rfl (by decide +kernel) (by simp) ?_
 unfold gL at h
 obtain ⟨h1,h⟩|⟨h1,h⟩:=af h
 ·cases h
  simp(config:=cS)only[go_sem,eqT h1]
 ·obtain ⟨q03,l2,h⟩:=ae h
  simp(config:=cS)only[go_sem,eqF h1]
  refine aw (m1:=.mk) (m2:=.mk) [.nf [0,1,5] []] (lA a) l2 ?_ ?_
  ·simp(config:=cS)only[go_sem]
  ·intro nb3 sb3 bb3 b3 gb3
   obtain ⟨left_1,i_1⟩:=sb3
   unfold eN at b3
   try dsimp only at b3
   obtain ⟨h4,b3⟩|⟨h4,b3⟩:=af b3
   ·obtain ⟨x01,g5,b3⟩:=ae b3
    obtain ⟨h6,h7,h8⟩:=ak g5
    obtain ⟨r02,g9,b3⟩:=ae b3
    simp(config:=cS)only[go_sem,eqT h4,h6,h7,h8]
    refine ag (yL g9) ?_
    obtain ⟨h10,b3⟩|⟨h10,b3⟩:=af b3
    ·cases b3
     obtain rfl:=(aj gb3).symm
     try dsimp only at h
     cases h
     simp(config:=cS)only[go_sem,eqT h10]
    ·cases b3
     simp(config:=cS)only[go_sem,eqF h10]
     refine au gb3 ?_
     simp(config:=cS)only[go_sem]
   ·cases b3
    obtain rfl:=(aj gb3).symm
    try dsimp only at h
    cases h
    simp(config:=cS)only[go_sem,eqF h4]
attribute [go_sem] Tryz.ntmps36 Tryz.results36
theorem Av {a:GDesk}{left res:Int}(h:jA a left=some res):am Tryz.prog 36 [.agg (GDesk.encS a),.lit (.int .i64 left)] [] (.lit (.int .i64 res)) []:=by
 refine ai (ra:=[]) (md:=mdT) hT (hi:=hi00) Tryz.func36 rfl rfl (by decide +kernel) (by simp) ?_
 unfold jA at h
 obtain ⟨r01,g1,h⟩:=ae h
 simp(config:=cS)only[go_sem]
 refine ag (AA g1) ?_
 obtain ⟨h2,h⟩|⟨h2,h⟩:=af h
 ·cases h
  simp(config:=cS)only[go_sem,eqT h2]
 ·obtain ⟨r02,g3,h⟩:=ae h
  simp(config:=cS)only[go_sem,eqF h2]
  refine ag (yK g3) ?_
  obtain ⟨h4,h⟩|⟨h4,h⟩:=af h
  ·cases h
   simp(config:=cS)only[go_sem,eqT h4]
  ·obtain ⟨r03,g5,h⟩:=ae h
   simp(config:=cS)only[go_sem,eqF h4]
   refine ag (xn g5) ?_
   obtain ⟨h6,h⟩|⟨h6,h⟩:=af h
   ·cases h
    simp(config:=cS)only[go_sem,eqT h6]
   ·cases h
    simp(config:=cS)only[go_sem,eqF h6]
attribute [go_sem] Tryz.ntmps93 Tryz.results93
theorem yM {a res:GState}(h:iN a=some res):am Tryz.prog 93 [.agg (GState.encS a)] [] (.agg [.lit (.int .i64 res.now),.ref 20000 1 0 res.times.length,.ref 20001 1 0 res.values.length]) [(20000,1,.row true (ab eI res.times)),(20001,1,.row true (ab eI res.values))]:=by
 refine ai (ra:=[.homeCell 128 1,.homeCell 128 2]) (md:=mdT) hT (hi:=hi00) Tryz.func93 rfl rfl (by decide +kernel) (by simp) ?_
 unfold iN at h
 obtain ⟨r01,g1,h⟩:=ae h
 simp(config:=cS)only[go_sem]
 refine ag (gE g1) ?_
 obtain ⟨r02,g2,h⟩:=ae h
 simp(config:=cS)only[go_sem]
 refine ag (gE g2) ?_
 cases h
 simp(config:=cS)only[go_sem]
attribute [go_sem] Tryz.ntmps75 Tryz.results75
theorem yN {a res:GEntry}(h:iB a=some res):am Tryz.prog 75 [.agg (GEntry.encS a)] [] (.agg [.lit (.int .i64 res.now),.ref 20000 1 0 res.ties.length,.ref 20001 1 0 res.nodes.length,.ref 20002 1 0 res.values.length]) [(20000,1,.row true (ab eI res.ties)),(20001,1,.row true (ab eI res.nodes)),(20002,1,.row true (ab eI res.values))]:=by
 refine ai (ra:=[.homeCell 128 1,.homeCell 128 2,.homeCell 128 3]) (md:=mdT) hT (hi:=hi00) Tryz.func75 rfl rfl (by decide +kernel) (by simp) ?_
 unfold iB at h
 obtain ⟨r01,g1,h⟩:=ae h
 simp(config:=cS)only[go_sem]
 refine ag (gE g1) ?_
 obtain ⟨r02,g2,h⟩:=ae h
 simp(config:=cS)only[go_sem]
 refine ag (gE g2) ?_
 obtain ⟨r03,g3,h⟩:=ae h
 simp(config:=cS)only[go_sem]
 refine ag (gE g3) ?_
 cases h
 simp(config:=cS)only[go_sem]
def lB (a:List GEntry):(Int × (List GEntry))→St
 | (i,b)=>⟨[(0,.sl (ab GEntry.encS a)),(3,.ref 448 1 0 b.length),(4,.lit (.int .i64 i))],[(448,1,.row true (ab GEntry.encO b))],2⟩
attribute [go_sem] lB
attribute [go_sem] Tryz.ntmps23 Tryz.results23
theorem xo {a res:List GEntry}(h:gM a=some res):am Tryz.prog 23 [.sl (ab GEntry.encS a)] [] (.ref 20000 1 0 res.length) [(20000,1,.row true (ab GEntry.encO res))]:=by
 refine ai (ra:=[.home 2]) (md:=mdT) hT (hi:=hi00) Tryz.func23 rfl rfl (by decide +kernel) (by simp) ?_
 unfold gM at h
 obtain ⟨h1,h⟩:=al h
 obtain ⟨h2,h⟩:=al h
 obtain ⟨q04,l3,h⟩:=ae h
 simp(config:=cS)only[go_sem,eqT h1,eqT h2]
 refine aw (m1:=.mk) (m2:=.mk) [.nf [0,3,4] [448]] (lB a) l3 ?_ ?_
 ·simp(config:=cS)only[go_sem]
 ·intro nb4 sb4 bb4 b4 gb4
  obtain ⟨i_1,out_1⟩:=sb4
  unfold eO at b4
  try dsimp only at b4
  obtain ⟨h5,b4⟩|⟨h5,b4⟩:=af b4
  ·obtain ⟨x01,g6,b4⟩:=ae b4
   obtain ⟨h7,h8,h9⟩:=ak g6
   obtain ⟨r02,g10,b4⟩:=ae b4
   simp(config:=cS)only[go_sem,eqT h5,h7,h8,h9]
   refine ag (yN g10) ?_
   obtain ⟨x03,g11,b4⟩:=ae b4
   obtain ⟨h12,h13,h14⟩:=ak g11
   cases b4
   simp(config:=cS)only[go_sem,h12,h13,h14]
   refine au gb4 ?_
   simp(config:=cS)only[go_sem]
  ·cases b4
   obtain rfl:=(aj gb4).symm
   try dsimp only at h
   cases h
   simp(config:=cS)only[go_sem,eqF h5]
attribute [go_sem] Tryz.ntmps38 Tryz.results38
theorem oz {a res:GDesk}(h:ff a=some res):am Tryz.prog 38 [.agg (GDesk.encS a)] [] (.agg [.ref 20000 1 0 res.show_.nodes.length,.ref 20001 1 0 res.show_.ties.length,.lit (.int .i64 res.show_.horizon),.lit (.int .i64 res.state.now),.ref 20002 1 0 res.state.times.length,.ref 20003 1 0 res.state.values.length,.lit (.bool res.lazy),.ref 20004 1 0 res.log.length]) [(20000,1,.row true (ab GNode.encO res.show_.nodes)),(20001,1,.row true (ab GTie.enc res.show_.ties)),(20002,1,.row true (ab eI res.state.times)),(20003,1,.row true (ab eI res.state.values)),(20004,1,.row true (ab GEntry.encO res.log))]:=by
 refine ai (ra:=[.homeCell 128 0,.homeCell 128 1,.homeCell 128 4,.homeCell 128 5,.homeCell 128 7]) (md:=mdT) hT (hi:=hi00) Tryz.func38 rfl rfl (by decide +kernel) (by simp) ?_
 unfold ff at h
 obtain ⟨r01,g1,h⟩:=ae h
 simp(config:=cS)only[go_sem]
 refine ag (AD g1) ?_
 obtain ⟨r02,g2,h⟩:=ae h
 simp(config:=cS)only[go_sem]
 refine ag (yM g2) ?_
 obtain ⟨r03,g3,h⟩:=ae h
 simp(config:=cS)only[go_sem]
 refine ag (xo g3) ?_
 cases h
 simp(config:=cS)only[go_sem]
attribute [go_sem] Tryz.ntmps160 Tryz.results160
theorem uc {a b:GState}{res:Bool}(h:fD a b=some res):am Tryz.prog 160 [.agg (GState.encS a),.agg (GState.encS b)] [] (.lit (.bool res)) []:=by
 refine ai (ra:=[]) (md:=mdT) hT (hi:=hi00) Tryz.func160 rfl rfl (by decide +kernel) (by simp) ?_
 unfold fD at h
 obtain ⟨h1,h⟩|⟨h1,h⟩:=af h
 ·obtain ⟨r01,g2,h⟩:=ae h
  simp(config:=cS)only[go_sem,eqT h1]
  refine ag (kl g2) ?_
  obtain ⟨h3,h⟩|⟨h3,h⟩:=af h
  ·obtain ⟨r02,g4,h⟩:=ae h
   simp(config:=cS)only[go_sem,eqT h1,eZt h3]
   refine ag (kl g4) ?_
   cases h
   simp(config:=cS)only[go_sem,eqT h1,eZt h3]
  ·cases h
   simp(config:=cS)only[go_sem,eqT h1,eZf h3]
 ·cases h
  simp(config:=cS)only[go_sem,eqF h1]
attribute [go_sem] Tryz.ntmps91 Tryz.results91
theorem Aw {d:GDesk}{res:Bool}(h:jB d=some res):am Tryz.prog 91 [.agg (GDesk.encS d)] [] (.lit (.bool res)) []:=by
 refine ai (ra:=[]) (md:=mdT) hT (hi:=hi00) Tryz.func91 rfl rfl (by decide +kernel) (by simp) ?_
 unfold jB at h
 obtain ⟨r01,g1,h⟩:=ae h
 simp(config:=cS)only[go_sem]
 refine ag (np g1) ?_
 obtain ⟨h2,h⟩|⟨h2,h⟩:=af h
 ·obtain ⟨h3,h⟩|⟨h3,h⟩:=af h
  ·obtain ⟨r02,g4,h⟩:=ae h
   simp(config:=cS)only[go_sem,eZt h2,eqT h3]
   refine ag (vC g4) ?_
   obtain ⟨h5,h⟩|⟨h5,h⟩:=af h
   ·obtain ⟨r03,g6,h⟩:=ae h
    simp(config:=cS)only[go_sem,eZt h2,eqT h3,eZt h5]
    refine ag (uc g6) ?_
    cases h
    simp(config:=cS)only[go_sem,eZt h2,eqT h3,eZt h5]
   ·cases h
    simp(config:=cS)only[go_sem,eZt h2,eqT h3,eZf h5]
  ·cases h
   simp(config:=cS)only[go_sem,eZt h2,eqF h3]
 ·cases h
  simp(config:=cS)only[go_sem,eZf h2]
def oF (a:ByteArray)(c:List ByteArray)(d:Int):(ByteArray × Int)→St
 | (s,b)=>⟨[(1,.lit (.string a)),(5,.lit (.string s)),(8,.sl (ab eS c)),(9,.lit (.int .i64 d)),(10,.lit (.int .i64 b))],[],2⟩
attribute [go_sem] oF
attribute [go_sem] Tryz.ntmps150 Tryz.results150
theorem DM {l:List ByteArray}{by_ res:ByteArray}(h:kW l by_=some res):am Tryz.prog 150 [.sl (ab eS l),.lit (.string by_)] [] (.lit (.string res)) []:=by
 refine ai (ra:=[]) (md:=mdT) hT (hi:=hi00) Tryz.func150 rfl rfl (by decide +kernel) (by simp) ?_
 unfold kW at h
 obtain ⟨q02,l1,h⟩:=ae h
 simp(config:=cS)only[go_sem]
 refine aw (m1:=.mk) (m2:=.mk) [.nf [1,5,8,9,10] []] (oF by_ l ((l.length:Nat):Int)) l1 ?_ ?_
 ·simp(config:=cS)only[go_sem]
 ·intro nb2 sb2 bb2 b2 gb2
  obtain ⟨s_1,v10_1⟩:=sb2
  unfold fU at b2
  try dsimp only at b2
  obtain ⟨h3,b2⟩|⟨h3,b2⟩:=af b2
  ·obtain ⟨x01,g4,b2⟩:=ae b2
   obtain ⟨h5,h6,h7⟩:=ak g4
   obtain ⟨h8,b2⟩|⟨h8,b2⟩:=af b2
   ·obtain ⟨h9,b2⟩:=al b2
    obtain ⟨h10,b2⟩:=al b2
    try simp(config:=cS)only[go_sem] at h10
    cases b2
    simp(config:=cS)only[go_sem,eqT h3,h5,h6,h7,eqT h8,eqT h9,eqT h10]
    refine au gb2 ?_
    simp(config:=cS)only[go_sem]
   ·obtain ⟨h11,b2⟩:=al b2
    cases b2
    simp(config:=cS)only[go_sem,eqT h3,h5,h6,h7,eqF h8,eqT h11]
    refine au gb2 ?_
    simp(config:=cS)only[go_sem]
  ·cases b2
   obtain rfl:=(aj gb2).symm
   try dsimp only at h
   cases h
   simp(config:=cS)only[go_sem,eqF h3]
def ml (b:List Int)(c:Int):(Int × (List ByteArray))→St
 | (d,a)=>⟨[(3,.ref 384 1 0 a.length),(7,.sl (ab eI b)),(8,.lit (.int .i64 c)),(9,.lit (.int .i64 d))],[(384,1,.row true (ab eS a))],2⟩
attribute [go_sem] ml
attribute [go_sem] Tryz.ntmps161 Tryz.results161
theorem nn {l:List Int}{res:ByteArray}(h:eA l=some res):am Tryz.prog 161 [.sl (ab eI l)] [] (.lit (.string res)) []:=by
 refine ai (ra:=[]) (md:=mdT) hT (hi:=hi00) Tryz.func161 rfl rfl (by decide +kernel) (by simp) ?_
 unfold eA at h
 obtain ⟨q04,l1,h⟩:=ae h
 simp(config:=cS)only[go_sem]
 refine aw (m1:=.mk) (m2:=.mk) [.nf [3,7,8,9] [384]] (ml l ((l.length:Nat):Int)) l1 ?_ ?_
 ·simp(config:=cS)only[go_sem]
 ·intro nb2 sb2 bb2 b2 gb2
  obtain ⟨v9_1,parts_1⟩:=sb2
  unfold il at b2
  try dsimp only at b2
  obtain ⟨h3,b2⟩|⟨h3,b2⟩:=af b2
  ·obtain ⟨x01,g4,b2⟩:=ae b2
   obtain ⟨h5,h6,h7⟩:=ak g4
   obtain ⟨r02,g8,b2⟩:=ae b2
   simp(config:=cS)only[go_sem,eqT h3,h5,h6,h7]
   refine ag (pn g8) ?_
   obtain ⟨h9,b2⟩:=al b2
   obtain ⟨h10,b2⟩:=al b2
   cases b2
   simp(config:=cS)only[go_sem,eqT h9,eqT h10]
   refine au gb2 ?_
   simp(config:=cS)only[go_sem]
  ·cases b2
   obtain rfl:=(aj gb2).symm
   try dsimp only at h
   obtain ⟨h12,h⟩|⟨h12,h⟩:=af h
   ·cases h
    simp(config:=cS)only[go_sem,eqF h3,eqT h12]
   ·obtain ⟨r03,g13,h⟩:=ae h
    simp(config:=cS)only[go_sem,eqF h3,eqF h12]
    refine ag (DM g13) ?_
    cases h
    simp(config:=cS)only[go_sem]
@[go_sem] def hi92_1:DT:=.i2 0 (.i2 1 (.i1 4 (.i1 5 (.i1 9 (.i1 10 (.i1 14 (.i1 15 (.i0 2 [4,5,9,10,14,15] (.i2 3 (.i0 6 [9,10,14,15] (.i2 7 (.i2 8 (.i0 11 [14,15] (.i2 12 (.i2 13 (.i2 16 (.i2 17 (.i2 18 .nil))))))))))))))))))
def hi92:Hint where
 acts:=fun _=>[]
 draws:=fun
  | 1=>⟨hi92_1,[[],[0],[0,1],[0,1,2],[],[4],[0,1,2,4,5],.range 7,.range 8,[],[9],[0,1,2,4,5,6,9,10],.range 12,.range 13,[],[14],[0,1,2,4,5,6,9,10,11,14,15],.range 17,.range 18],.range 19⟩
  | _=>⟨.nil,[],[]⟩
theorem MT (i:Nat):hi92.acts i=[]:=rfl
theorem MU (i:Nat):hi92.views i=none:=rfl
attribute [go_sem] MT MU Tryz.ntmps92 Tryz.results92
@[go_sem] theorem Og:(hi92.draws 1).order=hi92_1:=rfl
theorem sM {e:GEntry}{res:ByteArray}(h:eW e=some res):am Tryz.prog 92 [.agg (GEntry.encS e)] [] (.lit (.string res)) []:=by
 refine ai (ra:=[]) (md:=mdT) hT (hi:=hi92) Tryz.func92 rfl rfl (by decide +kernel) (by simp) ?_
 unfold eW at h
 obtain ⟨r01,g1,h⟩:=ae h
 simp(config:=cS)only[go_sem]
 refine ag (pn g1) ?_
 obtain ⟨h2,h⟩:=al h
 obtain ⟨r02,g3,h⟩:=ae h
 simp(config:=cS)only[go_sem,eqT h2]
 refine ag (nn g3) ?_
 obtain ⟨h4,h⟩:=al h
 try simp(config:=cS)only[go_sem] at h4
 obtain ⟨h5,h⟩:=al h
 try simp(config:=cS)only[go_sem] at h5
 obtain ⟨r03,g6,h⟩:=ae h
 simp(config:=cS)only[go_sem,eqT h2,eqT h4,eqT h5]
 refine ag (nn g6) ?_
 obtain ⟨h7,h⟩:=al h
 try simp(config:=cS)only[go_sem] at h7
 obtain ⟨h8,h⟩:=al h
 try simp(config:=cS)only[go_sem] at h8
 obtain ⟨r04,g9,h⟩:=ae h
 simp(config:=cS)only[go_sem,eqT h2,eqT h4,eqT h5,eqT h7,eqT h8]
 refine ag (nn g9) ?_
 obtain ⟨h10,h⟩:=al h
 try simp(config:=cS)only[go_sem] at h10
 cases h
 simp(config:=cS)only[go_sem,eqT h2,eqT h4,eqT h5,eqT h7,eqT h8,eqT h10]
def jI (a:List GEntry)(b:Int):(ByteArray × Int)→St
 | (c,d)=>⟨[(3,.lit (.string c)),(10,.sl (ab GEntry.encS a)),(11,.lit (.int .i64 b)),(12,.lit (.int .i64 d))],[],2⟩
attribute [go_sem] jI
attribute [go_sem] Tryz.ntmps37 Tryz.results37
theorem rW {d:GDesk}{res:ByteArray}(h:eb d=some res):am Tryz.prog 37 [.agg (GDesk.encS d)] [] (.lit (.string res)) []:=by
 refine ai (ra:=[]) (md:=mdT) hT (hi:=hi00) Tryz.func37 rfl rfl (by decide +kernel) (by simp) ?_
 unfold eb at h
 obtain ⟨r01,g1,h⟩:=ae h
 simp(config:=cS)only[go_sem]
 refine ag (Aw g1) ?_
 obtain ⟨h2,h⟩|⟨h2,h⟩:=af h
 ·obtain ⟨q04,l3,h⟩:=ae h
  simp(config:=cS)only[go_sem,eZt h2]
  refine aw (m1:=.mk) (m2:=.mk) [.nf [3,10,11,12] []] (jI d.log ((d.log.length:Nat):Int)) l3 ?_ ?_
  ·simp(config:=cS)only[go_sem,eZt h2]
  ·intro nb4 sb4 bb4 b4 gb4
   obtain ⟨out_1,v12_1⟩:=sb4
   unfold cO at b4
   try dsimp only at b4
   obtain ⟨h5,b4⟩|⟨h5,b4⟩:=af b4
   ·obtain ⟨x02,g6,b4⟩:=ae b4
    obtain ⟨h7,h8,h9⟩:=ak g6
    obtain ⟨r03,g10,b4⟩:=ae b4
    simp(config:=cS)only[go_sem,eZt h2,eqT h5,h7,h8,h9]
    refine ag (sM g10) ?_
    obtain ⟨h11,b4⟩:=al b4
    obtain ⟨h12,b4⟩:=al b4
    try simp(config:=cS)only[go_sem] at h12
    cases b4
    simp(config:=cS)only[go_sem,eZt h2,eqT h5,h7,h8,h9,eqT h11,eqT h12]
    refine au gb4 ?_
    simp(config:=cS)only[go_sem,eZt h2,eqT h5,h7,h8,h9,eqT h11,eqT h12]
   ·cases b4
    obtain rfl:=(aj gb4).symm
    try dsimp only at h
    cases h
    simp(config:=cS)only[go_sem,eZt h2,eqF h5]
 ·cases h
  simp(config:=cS)only[go_sem,eZf h2]
@[go_sem] def hi7_10:DT:=.i1 0 (.i2 1 (.i0 2 [0] (.i2 3 (.i2 4 .nil))))
def hi7:Hint where
 acts:=fun _=>[]
 draws:=fun
  | 10=>⟨hi7_10,[[],[],[1],[0,1,2],[0,1,2,3]],.range 5⟩
  | _=>⟨.nil,[],[]⟩
theorem hi7a (i:Nat):hi7.acts i=[]:=rfl
theorem hi7v (i:Nat):hi7.views i=none:=rfl
attribute [go_sem] hi7a hi7v Tryz.ntmps7 Tryz.results7
@[go_sem] theorem Oh:(hi7.draws 10).order=hi7_10:=rfl
theorem oA {aD:GDesk}{res:Bool}(h:cR aD=some res):am Tryz.prog 7 [.agg (GDesk.encS aD)] [] (.lit (.bool res)) []:=by
 refine ai (ra:=[]) (md:=mdT) hT (hi:=hi7) Tryz.func7 rfl rfl (by decide +kernel) (by simp) ?_
 unfold cR at h
 obtain ⟨r01,g1,h⟩:=ae h
 simp(config:=cS)only[go_sem]
 refine ag (Av g1) ?_
 obtain ⟨h2,h⟩|⟨h2,h⟩:=af h
 ·cases h
  simp(config:=cS)only[go_sem,eqT h2]
 ·obtain ⟨r02,g3,h⟩:=ae h
  simp(config:=cS)only[go_sem,eqF h2]
  refine ag (oz g3) ?_
  obtain ⟨r03,g4,h⟩:=ae h
  simp(config:=cS)only[go_sem,eqF h2]
  refine ag (rW g4) ?_
  obtain ⟨r04,g5,h⟩:=ae h
  simp(config:=cS)only[go_sem,eqF h2]
  refine ag (oz g5) ?_
  obtain ⟨r05,g6,h⟩:=ae h
  simp(config:=cS)only[go_sem,eqF h2]
  refine ag (sb g6) ?_
  obtain ⟨h7,h⟩|⟨h7,h⟩:=af h
  ·obtain ⟨r06,g8,h⟩:=ae h
   simp(config:=cS)only[go_sem,eqF h2,eqT h7]
   refine ag (oz g8) ?_
   obtain ⟨r07,g9,h⟩:=ae h
   simp(config:=cS)only[go_sem,eqF h2,eqT h7]
   refine ag (AQ g9) ?_
   obtain ⟨h10,h⟩|⟨h10,h⟩:=af h
   ·cases h
    simp(config:=cS)only[go_sem,eqF h2,eqT h7,eZt h10]
   ·cases h
    simp(config:=cS)only[go_sem,eqF h2,eqT h7,eZf h10]
  ·cases h
   simp(config:=cS)only[go_sem,eqF h2,eqF h7]
end Go.Proofs.Qc
