/- Functions. -/
import Derived.Test.YtbmkhnbjfeoggaaGreatDoorYaX
import Derived.Test.YtbmkhnbjfeoggaaGreatDoorYa37
set_option linter.all false
set_option maxRecDepth 100000
set_option maxHeartbeats 4000000
namespace Go.Proofs.Qa
open Go
attribute [go_sem] Tryz.ntmps50 Tryz.results50
theorem Cd {a:List Int}{left res:Int}(h:jR a left=some res):an Tryz.prog 50 [.sl (ab eI a),.lit (.int .i64 left)] [] (.lit (.int .i64 res)) []:=by
 refine aj (ra:=[]) (md:=mdT) hT (hi:=hi00) Tryz.func50 rfl rfl (by decide +kernel) (by simp) ?_
 unfold jR at h
 obtain ⟨h1,h⟩|⟨h1,h⟩:=af h
 ·cases h
  simp(config:=cS)only[go_sem,eqT h1]
 ·cases h
  simp(config:=cS)only[go_sem,eqF h1]
attribute [go_sem] Tryz.ntmps114 Tryz.results114
theorem Ce {a:GNode}{left res:Int}(h:jS a left=some res):an Tryz.prog 114 [.agg (GNode.encS a),.lit (.int .i64 left)] [] (.lit (.int .i64 res)) []:=by
 refine aj (ra:=[]) (md:=mdT) hT (hi:=hi00) Tryz.func114 rfl rfl (by decide +kernel) (by simp) ?_
 unfold jS at h
 obtain ⟨h1,h⟩|⟨h1,h⟩:=af h
 ·cases h
  simp(config:=cS)only[go_sem,eqT h1]
 ·obtain ⟨r01,g2,h⟩:=ae h
  simp(config:=cS)only[go_sem,eqF h1]
  refine ag (Cd g2) ?_
  obtain ⟨h3,h⟩|⟨h3,h⟩:=af h
  ·cases h
   simp(config:=cS)only[go_sem,eqT h3]
  ·cases h
   simp(config:=cS)only[go_sem,eqF h3]
def nq (a:List GNode):(Int × Int)→St
 | (b,i)=>⟨[(0,.sl (ab GNode.encS a)),(1,.lit (.int .i64 b)),(5,.lit (.int .i64 i))],[],2⟩
attribute [go_sem] nq
attribute [go_sem] Tryz.ntmps48 Tryz.results48
theorem Au {a:List GNode}{left res:Int}(h:jm a left=some res):an Tryz.prog 48 [.sl (ab GNode.encS a),.lit (.int .i64 left)] [] (.lit (.int .i64 res)) []:=by
 refine aj (ra:=[]) (md:=mdT) hT (hi:=hi00) Tryz.func48 rfl rfl (by decide +kernel) (by simp) ?_
 unfold jm at h
 obtain ⟨h1,h⟩|⟨h1,h⟩:=af h
 ·cases h
  simp(config:=cS)only[go_sem,eqT h1]
 ·obtain ⟨q03,l2,h⟩:=ae h
  simp(config:=cS)only[go_sem,eqF h1]
  refine ap (m1:=.mk) (m2:=.mk) [.nf [0,1,5] []] (nq a) l2 ?_ ?_
  ·simp(config:=cS)only[go_sem]
  ·intro nb3 sb3 bb3 b3 gb3
   obtain ⟨left_1,i_1⟩:=sb3
   unfold fX at b3
   try dsimp only at b3
   obtain ⟨h4,b3⟩|⟨h4,b3⟩:=af b3
   ·obtain ⟨x01,g5,b3⟩:=ae b3
    obtain ⟨h6,h7,h8⟩:=al g5
    obtain ⟨r02,g9,b3⟩:=ae b3
    simp(config:=cS)only[go_sem,eqT h4,h6,h7,h8]
    refine ag (Ce g9) ?_
    obtain ⟨h10,b3⟩|⟨h10,b3⟩:=af b3
    ·cases b3
     obtain rfl:=(ak gb3).symm
     try dsimp only at h
     cases h
     simp(config:=cS)only[go_sem,eqT h10]
    ·cases b3
     simp(config:=cS)only[go_sem,eqF h10]
     refine aq gb3 ?_
     simp(config:=cS)only[go_sem]
   ·cases b3
    obtain rfl:=(ak gb3).symm
    try dsimp only at h
    cases h
    simp(config:=cS)only[go_sem,eqF h4]
attribute [go_sem] Tryz.ntmps49 Tryz.results49
theorem Cf {a:List GTie}{left res:Int}(h:jT a left=some res):an Tryz.prog 49 [.sl (ab GTie.enc a),.lit (.int .i64 left)] [] (.lit (.int .i64 res)) []:=by
 refine aj (ra:=[]) (md:=mdT) hT (hi:=hi00) Tryz.func49 rfl rfl (by decide +kernel) (by simp) ?_
 unfold jT at h
 obtain ⟨h1,h⟩|⟨h1,h⟩:=af h
 ·cases h
  simp(config:=cS)only[go_sem,eqT h1]
 ·cases h
  simp(config:=cS)only[go_sem,eqF h1]
attribute [go_sem] Tryz.ntmps9 Tryz.results9
theorem Cg {a:GShow}{left res:Int}(h:jU a left=some res):an Tryz.prog 9 [.agg (GShow.encS a),.lit (.int .i64 left)] [] (.lit (.int .i64 res)) []:=by
 refine aj (ra:=[]) (md:=mdT) hT (hi:=hi00) Tryz.func9 rfl rfl (by decide +kernel) (by simp) ?_
 unfold jU at h
 obtain ⟨r01,g1,h⟩:=ae h
 simp(config:=cS)only[go_sem]
 refine ag (Au g1) ?_
 obtain ⟨h2,h⟩|⟨h2,h⟩:=af h
 ·cases h
  simp(config:=cS)only[go_sem,eqT h2]
 ·obtain ⟨r02,g3,h⟩:=ae h
  simp(config:=cS)only[go_sem,eqF h2]
  refine ag (Cf g3) ?_
  obtain ⟨h4,h⟩|⟨h4,h⟩:=af h
  ·cases h
   simp(config:=cS)only[go_sem,eqT h4]
  ·cases h
   simp(config:=cS)only[go_sem,eqF h4]
def nZ (a:List Int):(Int × (List Int))→St
 | (i,b)=>⟨[(0,.sl (ab eI a)),(3,.ref 448 1 0 b.length),(4,.lit (.int .i64 i))],[(448,1,.row true (ab eI b))],2⟩
attribute [go_sem] nZ
attribute [go_sem] Tryz.ntmps14 Tryz.results14
theorem Ch {a res:List Int}(h:jV a=some res):an Tryz.prog 14 [.sl (ab eI a)] [] (.ref 20000 1 0 res.length) [(20000,1,.row true (ab eI res))]:=by
 refine aj (ra:=[.home 2]) (md:=mdT) hT (hi:=hi00) Tryz.func14 rfl rfl (by decide +kernel) (by simp) ?_
 unfold jV at h
 obtain ⟨h1,h⟩:=ai h
 obtain ⟨h2,h⟩:=ai h
 obtain ⟨q03,l3,h⟩:=ae h
 simp(config:=cS)only[go_sem,eqT h1,eqT h2]
 refine ap (m1:=.mk) (m2:=.mk) [.nf [0,3,4] [448]] (nZ a) l3 ?_ ?_
 ·simp(config:=cS)only[go_sem]
 ·intro nb4 sb4 bb4 b4 gb4
  obtain ⟨i_1,out_1⟩:=sb4
  unfold gM at b4
  try dsimp only at b4
  obtain ⟨h5,b4⟩|⟨h5,b4⟩:=af b4
  ·obtain ⟨x01,g6,b4⟩:=ae b4
   obtain ⟨h7,h8,h9⟩:=al g6
   obtain ⟨x02,g10,b4⟩:=ae b4
   obtain ⟨h11,h12,h13⟩:=al g10
   cases b4
   simp(config:=cS)only[go_sem,eqT h5,h7,h8,h9,h11,h12,h13]
   refine aq gb4 ?_
   simp(config:=cS)only[go_sem]
  ·cases b4
   obtain rfl:=(ak gb4).symm
   try dsimp only at h
   cases h
   simp(config:=cS)only[go_sem,eqF h5]
attribute [go_sem] Tryz.ntmps124 Tryz.results124
theorem Ci {a res:GNode}(h:jW a=some res):an Tryz.prog 124 [.agg (GNode.encS a)] [] (.agg [.lit (.string res.name),.ref 20000 1 0 res.label.length,.lit (.int .i64 res.watch)]) [(20000,1,.row true (ab eI res.label))]:=by
 refine aj (ra:=[.homeCell 128 1]) (md:=mdT) hT (hi:=hi00) Tryz.func124 rfl rfl (by decide +kernel) (by simp) ?_
 unfold jW at h
 obtain ⟨r01,g1,h⟩:=ae h
 simp(config:=cS)only[go_sem]
 refine ag (Ch g1) ?_
 cases h
 simp(config:=cS)only[go_sem]
def nr (a:List GNode):(Int × (List GNode))→St
 | (i,b)=>⟨[(0,.sl (ab GNode.encS a)),(3,.ref 448 1 0 b.length),(4,.lit (.int .i64 i))],[(448,1,.row true (ab GNode.encO b))],2⟩
attribute [go_sem] nr
attribute [go_sem] Tryz.ntmps54 Tryz.results54
theorem Av {a res:List GNode}(h:jn a=some res):an Tryz.prog 54 [.sl (ab GNode.encS a)] [] (.ref 20000 1 0 res.length) [(20000,1,.row true (ab GNode.encO res))]:=by
 refine aj (ra:=[.home 2]) (md:=mdT) hT (hi:=hi00) Tryz.func54 rfl rfl (by decide +kernel) (by simp) ?_
 unfold jn at h
 obtain ⟨h1,h⟩:=ai h
 obtain ⟨h2,h⟩:=ai h
 obtain ⟨q04,l3,h⟩:=ae h
 simp(config:=cS)only[go_sem,eqT h1,eqT h2]
 refine ap (m1:=.mk) (m2:=.mk) [.nf [0,3,4] [448]] (nr a) l3 ?_ ?_
 ·simp(config:=cS)only[go_sem]
 ·intro nb4 sb4 bb4 b4 gb4
  obtain ⟨i_1,out_1⟩:=sb4
  unfold fY at b4
  try dsimp only at b4
  obtain ⟨h5,b4⟩|⟨h5,b4⟩:=af b4
  ·obtain ⟨x01,g6,b4⟩:=ae b4
   obtain ⟨h7,h8,h9⟩:=al g6
   obtain ⟨r02,g10,b4⟩:=ae b4
   simp(config:=cS)only[go_sem,eqT h5,h7,h8,h9]
   refine ag (Ci g10) ?_
   obtain ⟨x03,g11,b4⟩:=ae b4
   obtain ⟨h12,h13,h14⟩:=al g11
   cases b4
   simp(config:=cS)only[go_sem,h12,h13,h14]
   refine aq gb4 ?_
   simp(config:=cS)only[go_sem]
  ·cases b4
   obtain rfl:=(ak gb4).symm
   try dsimp only at h
   cases h
   simp(config:=cS)only[go_sem,eqF h5]
attribute [go_sem] Tryz.ntmps125 Tryz.results125
theorem Ed {a res:GTie}(h:nQ a=some res):an Tryz.prog 125 [.agg (GTie.enc a)] [] (.agg (GTie.enc res)) []:=by
 refine aj (ra:=[]) (md:=mdT) hT (hi:=hi00) Tryz.func125 rfl rfl (by decide +kernel) (by simp) ?_
 unfold nQ at h
 cases h
 simp(config:=cS)only[go_sem]
def oa (a:List GTie):(Int × (List GTie))→St
 | (i,b)=>⟨[(0,.sl (ab GTie.enc a)),(3,.ref 448 1 0 b.length),(4,.lit (.int .i64 i))],[(448,1,.row true (ab GTie.enc b))],2⟩
attribute [go_sem] oa
attribute [go_sem] Tryz.ntmps55 Tryz.results55
theorem Cj {a res:List GTie}(h:jX a=some res):an Tryz.prog 55 [.sl (ab GTie.enc a)] [] (.ref 20000 1 0 res.length) [(20000,1,.row true (ab GTie.enc res))]:=by
 refine aj (ra:=[.home 2]) (md:=mdT) hT (hi:=hi00) Tryz.func55 rfl rfl (by decide +kernel) (by simp) ?_
 unfold jX at h
 obtain ⟨h1,h⟩:=ai h
 obtain ⟨h2,h⟩:=ai h
 obtain ⟨q04,l3,h⟩:=ae h
 simp(config:=cS)only[go_sem,eqT h1,eqT h2]
 refine ap (m1:=.mk) (m2:=.mk) [.nf [0,3,4] [448]] (oa a) l3 ?_ ?_
 ·simp(config:=cS)only[go_sem]
 ·intro nb4 sb4 bb4 b4 gb4
  obtain ⟨i_1,out_1⟩:=sb4
  unfold gN at b4
  try dsimp only at b4
  obtain ⟨h5,b4⟩|⟨h5,b4⟩:=af b4
  ·obtain ⟨x01,g6,b4⟩:=ae b4
   obtain ⟨h7,h8,h9⟩:=al g6
   obtain ⟨r02,g10,b4⟩:=ae b4
   simp(config:=cS)only[go_sem,eqT h5,h7,h8,h9]
   refine ag (Ed g10) ?_
   obtain ⟨x03,g11,b4⟩:=ae b4
   obtain ⟨h12,h13,h14⟩:=al g11
   cases b4
   simp(config:=cS)only[go_sem,h12,h13,h14]
   refine aq gb4 ?_
   simp(config:=cS)only[go_sem]
  ·cases b4
   obtain rfl:=(ak gb4).symm
   try dsimp only at h
   cases h
   simp(config:=cS)only[go_sem,eqF h5]
attribute [go_sem] Tryz.ntmps12 Tryz.results12
theorem lX {a res:GShow}(h:ej a=some res):an Tryz.prog 12 [.agg (GShow.encS a)] [] (.agg [.ref 20000 1 0 res.nodes.length,.ref 20001 1 0 res.ties.length,.lit (.int .i64 res.horizon)]) [(20000,1,.row true (ab GNode.encO res.nodes)),(20001,1,.row true (ab GTie.enc res.ties))]:=by
 refine aj (ra:=[.homeCell 128 0,.homeCell 128 1]) (md:=mdT) hT (hi:=hi00) Tryz.func12 rfl rfl (by decide +kernel) (by simp) ?_
 unfold ej at h
 obtain ⟨r01,g1,h⟩:=ae h
 simp(config:=cS)only[go_sem]
 refine ag (Av g1) ?_
 obtain ⟨r02,g2,h⟩:=ae h
 simp(config:=cS)only[go_sem]
 refine ag (Cj g2) ?_
 cases h
 simp(config:=cS)only[go_sem]
def mt (s c:ByteArray)(a i:Int)(b:List ByteArray)(k:Int):St:=⟨[(0,.lit (.string s)),(1,.lit (.string c)),(5,.ref 576 1 0 b.length),(6,.lit (.int .i64 a)),(7,.lit (.int .i64 i)),(8,.lit (.int .i64 k))],[(576,1,.row true (ab eS b))],2⟩
attribute [go_sem] mt
def mu (s c:ByteArray):(Int × Int × (List ByteArray))→St
 | (a,i,b)=>⟨[(0,.lit (.string s)),(1,.lit (.string c)),(5,.ref 576 1 0 b.length),(6,.lit (.int .i64 a)),(7,.lit (.int .i64 i))],[(576,1,.row true (ab eS b))],2⟩
attribute [go_sem] mu
@[go_sem] def hi153_9:DT:=.i2 0 (.i2 1 (.i2 2 (.i2 3 (.i2 4 (.i2 5 (.i2 6 .nil))))))
def CZ:Hint where
 acts:=fun _=>[]
 draws:=fun
  | 9=>⟨hi153_9,[[],[],[0,1],[],[],[3,4],.range 6],.range 7⟩
  | _=>⟨.nil,[],[]⟩
theorem Nr (i:Nat):CZ.acts i=[]:=rfl
theorem Ns (i:Nat):CZ.views i=none:=rfl
attribute [go_sem] Nr Ns Tryz.ntmps153 Tryz.results153
@[go_sem] theorem PN:(CZ.draws 9).order=hi153_9:=rfl
theorem nu {s by_:ByteArray}{res:List ByteArray}(h:dQ s by_=some res):an Tryz.prog 153 [.lit (.string s),.lit (.string by_)] [] (.ref 20000 1 0 res.length) [(20000,1,.row true (ab eS res))]:=by
 refine aj (ra:=[.home 4]) (md:=mdT) hT (hi:=CZ) Tryz.func153 rfl rfl (by decide +kernel) (by simp) ?_
 unfold dQ at h
 obtain ⟨q04,l1,h⟩:=ae h
 simp(config:=cS)only[go_sem]
 refine ap (m1:=.mk) (m2:=.mk) [.nf [0,1,5,6,7] [576]] (mu s by_) l1 ?_ ?_
 ·simp(config:=cS)only[go_sem]
 ·intro nb2 sb2 bb2 b2 gb2
  obtain ⟨from__1,i_1,out_1⟩:=sb2
  unfold fz at b2
  try dsimp only at b2
  obtain ⟨h3,b2⟩|⟨h3,b2⟩:=af b2
  ·obtain ⟨q03,l4,b2⟩:=ae b2
   simp(config:=cS)only[go_sem,eqT h3]
   refine ap (m1:=.mk) (m2:=.mk) [.nf [0,1,5,6,7,8] [576]] (mt s by_ from__1 i_1 out_1) l4 ?_ ?_
   ·simp(config:=cS)only[go_sem]
   ·intro nb5 k_2 bb5 b5 gb5
    unfold co at b5
    try dsimp only at b5
    obtain ⟨h6,b5⟩|⟨h6,b5⟩:=af b5
    ·obtain ⟨c1001,g7,b5⟩:=ae b5
     obtain ⟨h8,h9,h10⟩:=bD g7
     obtain ⟨c1002,g11,b5⟩:=ae b5
     obtain ⟨h12,h13,h14⟩:=bD g11
     obtain ⟨h15,b5⟩|⟨h15,b5⟩:=af b5
     ·obtain ⟨h16,b5⟩:=ai b5
      obtain ⟨h17,b5⟩:=ai b5
      obtain ⟨h18,b5⟩:=ai b5
      obtain ⟨h19,b5⟩:=ai b5
      obtain ⟨h20,b5⟩:=ai b5
      obtain ⟨h21,b5⟩:=ai b5
      cases b5
      obtain rfl:=(ak gb5).symm
      try dsimp only at b2
      cases b2
      simp(config:=cS)only[go_sem,eqT h6,h8,h9,h10,h12,h13,h14,eqT h15,eqT h16,eqT h17,eqT h18,eqT h19,eqT h20,eqT h21]
      refine aq gb2 ?_
      simp(config:=cS)only[go_sem]
     ·cases b5
      simp(config:=cS)only[go_sem,eqT h6,h8,h9,h10,h12,h13,h14,eqF h15]
      refine aq gb5 ?_
      simp(config:=cS)only[go_sem]
    ·cases b5
     obtain rfl:=(ak gb5).symm
     try dsimp only at b2
     cases b2
     simp(config:=cS)only[go_sem,eqF h6]
     refine aq gb2 ?_
     simp(config:=cS)only[go_sem]
  ·cases b2
   obtain rfl:=(ak gb2).symm
   try dsimp only at h
   obtain ⟨h25,h⟩:=ai h
   obtain ⟨h26,h⟩:=ai h
   obtain ⟨h27,h⟩:=ai h
   obtain ⟨h28,h⟩:=ai h
   cases h
   simp(config:=cS)only[go_sem,eqF h3,eqT h25,eqT h26,eqT h27,eqT h28]
def mv (s:ByteArray)(i:Int):St:=⟨[(0,.lit (.string s)),(3,.lit (.int .i64 i))],[],2⟩
attribute [go_sem] mv
attribute [go_sem] Tryz.ntmps284 Tryz.results284
theorem nw {s:ByteArray}{res:Bool}(h:cU s=some res):an Tryz.prog 284 [.lit (.string s)] [] (.lit (.bool res)) []:=by
 refine aj (ra:=[]) (md:=mdT) hT (hi:=hi00) Tryz.func284 rfl rfl (by decide +kernel) (by simp) ?_
 unfold cU at h
 obtain ⟨q02,l1,h⟩:=ae h
 simp(config:=cS)only[go_sem]
 refine ap (m1:=.mk) (m2:=.mk) [.nf [0,3] []] (mv s) l1 ?_ ?_
 ·simp(config:=cS)only[go_sem]
 ·intro nb2 i_1 bb2 b2 gb2
  unfold cp at b2
  try dsimp only at b2
  obtain ⟨h3,b2⟩|⟨h3,b2⟩:=af b2
  ·obtain ⟨c1001,g4,b2⟩:=ae b2
   obtain ⟨h5,h6,h7⟩:=bD g4
   obtain ⟨h8,b2⟩|⟨h8,b2⟩:=af b2
   ·cases b2
    obtain rfl:=(ak gb2).symm
    try dsimp only at h
    cases h
    simp(config:=cS)only[go_sem,eqT h3,h5,h6,h7,eqT h8]
   ·obtain ⟨h10,b2⟩|⟨h10,b2⟩:=af b2
    ·cases b2
     obtain rfl:=(ak gb2).symm
     try dsimp only at h
     cases h
     simp(config:=cS)only[go_sem,eqT h3,h5,h6,h7,eqF h8,eqT h10]
    ·cases b2
     simp(config:=cS)only[go_sem,eqT h3,h5,h6,h7,eqF h8,eqF h10]
     refine aq gb2 ?_
     simp(config:=cS)only[go_sem]
  ·cases b2
   obtain rfl:=(ak gb2).symm
   try dsimp only at h
   cases h
   simp(config:=cS)only[go_sem,eqF h3]
def ly  : (Int × ByteArray)→St
 | (n,s)=>⟨[(0,.lit (.int .i64 n)),(3,.lit (.string s))],[],2⟩
attribute [go_sem] ly
@[go_sem] def hi73_4:DT:=.i2 0 (.i2 1 (.i2 3 (.i2 4 (.i2 5 (.i1 6 (.fork (.i0 2 [6] (.i2 7 (.i1 8 (.i2 9 (.i2 10 .nil))))) (.i2 7 (.i1 8 (.i0 2 [6,8] (.i2 9 (.i2 10 .nil)))))))))))
def hi73:Hint where
 acts:=fun _=>[]
 draws:=fun
  | 4=>⟨hi73_4,[[],[0],[0,1],[],[3],[3,4],[3,4,5],[3,4,5,6],[3,4,5,6,7],.range 9,.range 10],.range 11⟩
  | _=>⟨.nil,[],[]⟩
theorem Pa (i:Nat):hi73.acts i=[]:=rfl
theorem Pb (i:Nat):hi73.views i=none:=rfl
attribute [go_sem] Pa Pb Tryz.ntmps73 Tryz.results73
@[go_sem] theorem Ql:(hi73.draws 4).order=hi73_4:=rfl
theorem tZ {rec:Int→Option ByteArray}(hrec:∀ {n:Int} {res:ByteArray},rec n=some res→an Tryz.prog 73 [.lit (.int .i64 n)] [] (.lit (.string res)) []){n:Int}{res:ByteArray}(h:bP rec n=some res):an Tryz.prog 73 [.lit (.int .i64 n)] [] (.lit (.string res)) []:=by
 refine aj (ra:=[]) (md:=mdT) hT (hi:=hi73) Tryz.func73 rfl rfl (by decide +kernel) (by simp) ?_
 unfold bP at h
 obtain ⟨h1,h⟩|⟨h1,h⟩:=af h
 ·obtain ⟨h2,h⟩|⟨h2,h⟩:=af h
  ·obtain ⟨h3,h⟩:=ai h
   cases h
   simp(config:=cS)only[go_sem,eqT h1,eqT h2,eqT h3]
  ·try simp(config:=cS)only[go_sem,eqT h1,eqF h2]
   refine fi ?_ ?_
   ·obtain ⟨r01,g4,h⟩:=ae h
    simp(config:=cS)only[go_sem]
    refine ag (hrec g4) ?_
    obtain ⟨h5,h⟩:=ai h
    cases h
    simp(config:=cS)only[go_sem,eqT h5]
   ·obtain ⟨r02,g6,h⟩:=ae h
    simp(config:=cS)only[go_sem]
    refine ag (hrec g6) ?_
    obtain ⟨h7,h⟩:=ai h
    cases h
    simp(config:=cS)only[go_sem,eqT h7]
 ·obtain ⟨q03,l8,h⟩:=ae h
  simp(config:=cS)only[go_sem,eqF h1]
  refine ap (m1:=.mk) (m2:=.mk) [.nf [0,3] []] (ly) l8 ?_ ?_
  ·simp(config:=cS)only[go_sem]
  ·intro nb9 sb9 bb9 b9 gb9
   obtain ⟨n_1,s_1⟩:=sb9
   unfold eC at b9
   try dsimp only at b9
   obtain ⟨h10,b9⟩|⟨h10,b9⟩:=af b9
   ·obtain ⟨h11,b9⟩:=ai b9
    cases b9
    simp(config:=cS)only[go_sem,eqT h10,eqT h11]
    refine aq gb9 ?_
    simp(config:=cS)only[go_sem]
   ·cases b9
    obtain rfl:=(ak gb9).symm
    try dsimp only at h
    obtain ⟨h13,h⟩:=ai h
    cases h
    simp(config:=cS)only[go_sem,eqF h10,eqT h13]
theorem rC (fu:Nat):∀ {n:Int} {res:ByteArray},cf fu n=some res→an Tryz.prog 73 [.lit (.int .i64 n)] [] (.lit (.string res)) []:=by
 induction fu with
 | zero=>intro _ _ h;cases h
 | succ fu ih=>intro _ _ h;exact tZ (@ih) h
theorem mg {n:Int}{res:ByteArray}(h:dh n=some res):an Tryz.prog 73 [.lit (.int .i64 n)] [] (.lit (.string res)) []:=rC 40 h
def jg (s:ByteArray)(a:Bool)(t:ByteArray):(Int × Int)→St
 | (n,i)=>⟨[(0,.lit (.string s)),(4,.lit (.bool a)),(5,.lit (.string t)),(6,.lit (.int .i64 n)),(7,.lit (.int .i64 i))],[],2⟩
attribute [go_sem] jg
def mw (s:ByteArray):(Int × Int)→St
 | (n,i)=>⟨[(0,.lit (.string s)),(4,.lit (.bool false)),(5,.lit (.string s)),(6,.lit (.int .i64 n)),(7,.lit (.int .i64 i))],[],2⟩
attribute [go_sem] mw
attribute [go_sem] Tryz.ntmps237 Tryz.results237
theorem qO {s:ByteArray}{res:Int × Bool}(h:fM s=some res):an Tryz.prog 237 [.lit (.string s)] [] (.tup [.lit (.int .i64 res.1),.lit (.bool res.2)]) []:=by
 refine aj (ra:=[]) (md:=mdT) hT (hi:=hi00) Tryz.func237 rfl rfl (by decide +kernel) (by simp) ?_
 unfold fM at h
 obtain ⟨h1,h⟩|⟨h1,h⟩:=af h
 ·obtain ⟨c1001,g2,h⟩:=ae h
  obtain ⟨h4,h5⟩:=JD (k:=0) g2
  obtain ⟨h6,h⟩|⟨h6,h⟩:=af h
  ·obtain ⟨h7,h⟩:=ai h
   obtain ⟨r02,g8,h⟩:=ae h
   simp(config:=cS)only[go_sem,eqT h1,h4,h5,eqT h6,eqT h7]
   refine ag (nw g8) ?_
   obtain ⟨h9,h⟩|⟨h9,h⟩:=af h
   ·obtain ⟨h10,h⟩|⟨h10,h⟩:=af h
    ·cases h
     simp(config:=cS)only[go_sem,eqT h1,h4,h5,eqT h6,eqT h7,eZt h9,eqT h10]
    ·obtain ⟨q05,l11,h⟩:=ae h
     simp(config:=cS)only[go_sem,eqT h1,h4,h5,eqT h6,eqT h7,eZt h9,eqF h10]
     refine ap (m1:=.mk) (m2:=.mk) [.nf [0,4,5,6,7] []] (jg s (decide (((c1001.toNat:Nat):Int)=45)) (s.extract 1 s.size)) l11 ?_ ?_
     ·simp(config:=cS)only[go_sem,eqT h1,h4,h5,eqT h6,eqT h7,eZt h9,eqF h10]
     ·intro nb12 sb12 bb12 b12 gb12
      obtain ⟨n_1,i_1⟩:=sb12
      unfold dC at b12
      try dsimp only at b12
      obtain ⟨h13,b12⟩|⟨h13,b12⟩:=af b12
      ·obtain ⟨c1003,g14,b12⟩:=ae b12
       obtain ⟨h15,h16,h17⟩:=bD g14
       obtain ⟨h18,b12⟩|⟨h18,b12⟩:=af b12
       ·cases b12
        obtain rfl:=(ak gb12).symm
        try dsimp only at h
        cases h
        simp(config:=cS)only[go_sem,eqT h1,h4,h5,eqT h6,eqT h7,eZt h9,eqF h10,eqT h13,h15,h16,h17,eqT h18]
       ·cases b12
        simp(config:=cS)only[go_sem,eqT h1,h4,h5,eqT h6,eqT h7,eZt h9,eqF h10,eqT h13,h15,h16,h17,eqF h18]
        refine aq gb12 ?_
        simp(config:=cS)only[go_sem,eqT h1,h4,h5,eqT h6,eqT h7,eZt h9,eqF h10,eqT h13,h15,h16,h17,eqF h18]
      ·cases b12
       obtain rfl:=(ak gb12).symm
       try dsimp only at h
       obtain ⟨r04,g21,h⟩:=ae h
       simp(config:=cS)only[go_sem,eqT h1,h4,h5,eqT h6,eqT h7,eZt h9,eqF h10,eqF h13]
       refine ag (mg g21) ?_
       obtain ⟨h22,h⟩|⟨h22,h⟩:=af h
       ·cases h
        simp(config:=cS)only[go_sem,eqT h1,h4,h5,eqT h6,eqT h7,eZt h9,eqF h10,eqF h13,eqT h22]
       ·cases h
        simp(config:=cS)only[go_sem,eqT h1,h4,h5,eqT h6,eqT h7,eZt h9,eqF h10,eqF h13,eqF h22]
   ·cases h
    simp(config:=cS)only[go_sem,eqT h1,h4,h5,eqT h6,eqT h7,eZf h9]
  ·obtain ⟨r06,g23,h⟩:=ae h
   simp(config:=cS)only[go_sem,eqT h1,h4,h5,eqF h6]
   refine ag (nw g23) ?_
   obtain ⟨h24,h⟩|⟨h24,h⟩:=af h
   ·obtain ⟨h25,h⟩|⟨h25,h⟩:=af h
    ·cases h
     simp(config:=cS)only[go_sem,eqT h1,h4,h5,eqF h6,eZt h24,eqT h25]
    ·obtain ⟨q09,l26,h⟩:=ae h
     simp(config:=cS)only[go_sem,eqT h1,h4,h5,eqF h6,eZt h24,eqF h25]
     refine ap (m1:=.mk) (m2:=.mk) [.nf [0,4,5,6,7] []] (jg s (decide (((c1001.toNat:Nat):Int)=45)) s) l26 ?_ ?_
     ·simp(config:=cS)only[go_sem,eqT h1,h4,h5,eqF h6,eZt h24,eqF h25]
     ·intro nb27 sb27 bb27 b27 gb27
      obtain ⟨n_2,i_2⟩:=sb27
      unfold dC at b27
      try dsimp only at b27
      obtain ⟨h28,b27⟩|⟨h28,b27⟩:=af b27
      ·obtain ⟨c1007,g29,b27⟩:=ae b27
       obtain ⟨h30,h31,h32⟩:=bD g29
       obtain ⟨h33,b27⟩|⟨h33,b27⟩:=af b27
       ·cases b27
        obtain rfl:=(ak gb27).symm
        try dsimp only at h
        cases h
        simp(config:=cS)only[go_sem,eqT h1,h4,h5,eqF h6,eZt h24,eqF h25,eqT h28,h30,h31,h32,eqT h33]
       ·cases b27
        simp(config:=cS)only[go_sem,eqT h1,h4,h5,eqF h6,eZt h24,eqF h25,eqT h28,h30,h31,h32,eqF h33]
        refine aq gb27 ?_
        simp(config:=cS)only[go_sem,eqT h1,h4,h5,eqF h6,eZt h24,eqF h25,eqT h28,h30,h31,h32,eqF h33]
      ·cases b27
       obtain rfl:=(ak gb27).symm
       try dsimp only at h
       obtain ⟨h36,h⟩|⟨h36,h⟩:=af h
       ·cases h
        simp(config:=cS)only[go_sem,eqT h1,h4,h5,eqF h6,eZt h24,eqF h25,eqF h28,eqT h36]
       ·obtain ⟨r08,g37,h⟩:=ae h
        simp(config:=cS)only[go_sem,eqT h1,h4,h5,eqF h6,eZt h24,eqF h25,eqF h28,eqF h36]
        refine ag (mg g37) ?_
        obtain ⟨h38,h⟩|⟨h38,h⟩:=af h
        ·cases h
         simp(config:=cS)only[go_sem,eqT h1,h4,h5,eqF h6,eZt h24,eqF h25,eqF h28,eqF h36,eqT h38]
        ·cases h
         simp(config:=cS)only[go_sem,eqT h1,h4,h5,eqF h6,eZt h24,eqF h25,eqF h28,eqF h36,eqF h38]
   ·cases h
    simp(config:=cS)only[go_sem,eqT h1,h4,h5,eqF h6,eZf h24]
 ·obtain ⟨r10,g39,h⟩:=ae h
  simp(config:=cS)only[go_sem,eqF h1]
  refine ag (nw g39) ?_
  obtain ⟨h40,h⟩|⟨h40,h⟩:=af h
  ·obtain ⟨h41,h⟩|⟨h41,h⟩:=af h
   ·cases h
    simp(config:=cS)only[go_sem,eqF h1,eZt h40,eqT h41]
   ·obtain ⟨q13,l42,h⟩:=ae h
    simp(config:=cS)only[go_sem,eqF h1,eZt h40,eqF h41]
    refine ap (m1:=.mk) (m2:=.mk) [.nf [0,4,5,6,7] []] (mw s) l42 ?_ ?_
    ·simp(config:=cS)only[go_sem,eqF h1,eZt h40,eqF h41]
    ·intro nb43 sb43 bb43 b43 gb43
     obtain ⟨n_3,i_3⟩:=sb43
     unfold kQ at b43
     try dsimp only at b43
     obtain ⟨h44,b43⟩|⟨h44,b43⟩:=af b43
     ·obtain ⟨c1011,g45,b43⟩:=ae b43
      obtain ⟨h46,h47,h48⟩:=bD g45
      obtain ⟨h49,b43⟩|⟨h49,b43⟩:=af b43
      ·cases b43
       obtain rfl:=(ak gb43).symm
       try dsimp only at h
       cases h
       simp(config:=cS)only[go_sem,eqF h1,eZt h40,eqF h41,eqT h44,h46,h47,h48,eqT h49]
      ·cases b43
       simp(config:=cS)only[go_sem,eqF h1,eZt h40,eqF h41,eqT h44,h46,h47,h48,eqF h49]
       refine aq gb43 ?_
       simp(config:=cS)only[go_sem,eqF h1,eZt h40,eqF h41,eqT h44,h46,h47,h48,eqF h49]
     ·cases b43
      obtain rfl:=(ak gb43).symm
      try dsimp only at h
      obtain ⟨h52,h⟩|⟨h52,h⟩:=af h
      ·cases h
       simp(config:=cS)only[go_sem,eqF h1,eZt h40,eqF h41,eqF h44,eqT h52]
      ·obtain ⟨r12,g53,h⟩:=ae h
       simp(config:=cS)only[go_sem,eqF h1,eZt h40,eqF h41,eqF h44,eqF h52]
       refine ag (mg g53) ?_
       obtain ⟨h54,h⟩|⟨h54,h⟩:=af h
       ·cases h
        simp(config:=cS)only[go_sem,eqF h1,eZt h40,eqF h41,eqF h44,eqF h52,eqT h54]
       ·cases h
        simp(config:=cS)only[go_sem,eqF h1,eZt h40,eqF h41,eqF h44,eqF h52,eqF h54]
  ·cases h
   simp(config:=cS)only[go_sem,eqF h1,eZf h40]
def my (c:Int)(a:List ByteArray):(Int × (List Int))→St
 | (d,b)=>⟨[(4,.ref 576 1 0 b.length),(14,.ref 896 1 0 a.length),(15,.lit (.int .i64 c)),(16,.lit (.int .i64 d))],[(576,1,.row true (ab eI b)),(896,1,.row true (ab eS a))],2⟩
attribute [go_sem] my
attribute [go_sem] Tryz.ntmps238 Tryz.results238
theorem nx {s:ByteArray}{res:(List Int) × Bool}(h:dR s=some res):an Tryz.prog 238 [.lit (.string s)] [] (.tup [.ref 20000 1 0 res.1.length,.lit (.bool res.2)]) [(20000,1,.row true (ab eI res.1))]:=by
 refine aj (ra:=[.home 2]) (md:=mdT) hT (hi:=hi00) Tryz.func238 rfl rfl (by decide +kernel) (by simp) ?_
 unfold dR at h
 obtain ⟨h1,h⟩|⟨h1,h⟩:=af h
 ·cases h
  simp(config:=cS)only[go_sem,eqT h1]
 ·obtain ⟨r01,g2,h⟩:=ae h
  simp(config:=cS)only[go_sem,eqF h1]
  refine ag (nu g2) ?_
  obtain ⟨q04,l3,h⟩:=ae h
  simp(config:=cS)only[go_sem]
  refine ap (m1:=.mk) (m2:=.mk) [.nf [4,14,15,16] [576,896]] (my ((r01.length:Nat):Int) r01) l3 ?_ ?_
  ·simp(config:=cS)only[go_sem]
  ·intro nb4 sb4 bb4 b4 gb4
   obtain ⟨v16_1,out_1⟩:=sb4
   unfold iD at b4
   try dsimp only at b4
   obtain ⟨h5,b4⟩|⟨h5,b4⟩:=af b4
   ·obtain ⟨x02,g6,b4⟩:=ae b4
    obtain ⟨h7,h8,h9⟩:=al g6
    obtain ⟨r03,g10,b4⟩:=ae b4
    simp(config:=cS)only[go_sem,eqT h5,h7,h8,h9]
    refine ag (qO g10) ?_
    obtain ⟨h11,b4⟩|⟨h11,b4⟩:=af b4
    ·obtain ⟨h12,b4⟩:=ai b4
     obtain ⟨h13,b4⟩:=ai b4
     cases b4
     simp(config:=cS)only[go_sem,eZt h11,eqT h12,eqT h13]
     refine aq gb4 ?_
     simp(config:=cS)only[go_sem]
    ·cases b4
     obtain rfl:=(ak gb4).symm
     try dsimp only at h
     cases h
     simp(config:=cS)only[go_sem,eZf h11]
   ·cases b4
    obtain rfl:=(ak gb4).symm
    try dsimp only at h
    cases h
    simp(config:=cS)only[go_sem,eqF h5]
attribute [go_sem] Tryz.ntmps154 Tryz.results154
theorem vq {line:ByteArray}{res:GEntry × Bool}(h:gr line=some res):an Tryz.prog 154 [.lit (.string line)] [] (.tup [.agg [.lit (.int .i64 res.1.now),.ref 20000 1 0 res.1.ties.length,.ref 20001 1 0 res.1.nodes.length,.ref 20002 1 0 res.1.values.length],.lit (.bool res.2)]) [(20000,1,.row true (ab eI res.1.ties)),(20001,1,.row true (ab eI res.1.nodes)),(20002,1,.row true (ab eI res.1.values))]:=by
 refine aj (ra:=[.homeCell 128 1,.homeCell 128 2,.homeCell 128 3]) (md:=mdT) hT (hi:=hi00) Tryz.func154 rfl rfl (by decide +kernel) (by simp) ?_
 unfold gr at h
 obtain ⟨r01,g1,h⟩:=ae h
 simp(config:=cS)only[go_sem]
 refine ag (nu g1) ?_
 obtain ⟨h2,h⟩|⟨h2,h⟩:=af h
 ·obtain ⟨x02,g3,h⟩:=ae h
  obtain ⟨h5,h6⟩:=bo (k:=0) g3
  obtain ⟨r03,g7,h⟩:=ae h
  simp(config:=cS)only[go_sem,eqT h2,h5,h6]
  refine ag (qO g7) ?_
  obtain ⟨x04,g8,h⟩:=ae h
  obtain ⟨h10,h11⟩:=bo (k:=1) g8
  obtain ⟨r05,g12,h⟩:=ae h
  simp(config:=cS)only[go_sem,h10,h11]
  refine ag (nx g12) ?_
  obtain ⟨x06,g13,h⟩:=ae h
  obtain ⟨h15,h16⟩:=bo (k:=2) g13
  obtain ⟨r07,g17,h⟩:=ae h
  simp(config:=cS)only[go_sem,h15,h16]
  refine ag (nx g17) ?_
  obtain ⟨x08,g18,h⟩:=ae h
  obtain ⟨h20,h21⟩:=bo (k:=3) g18
  obtain ⟨r09,g22,h⟩:=ae h
  simp(config:=cS)only[go_sem,h20,h21]
  refine ag (nx g22) ?_
  obtain ⟨h23,h⟩|⟨h23,h⟩:=af h
  ·obtain ⟨h24,h⟩|⟨h24,h⟩:=af h
   ·obtain ⟨h25,h⟩|⟨h25,h⟩:=af h
    ·obtain ⟨h26,h⟩|⟨h26,h⟩:=af h
     ·cases h
      simp(config:=cS)only[go_sem,eZt h23,eZt h24,eZt h25,eZt h26]
     ·cases h
      simp(config:=cS)only[go_sem,eZt h23,eZt h24,eZt h25,eZf h26]
    ·cases h
     simp(config:=cS)only[go_sem,eZt h23,eZt h24,eZf h25]
   ·cases h
    simp(config:=cS)only[go_sem,eZt h23,eZf h24]
  ·cases h
   simp(config:=cS)only[go_sem,eZf h23]
 ·cases h
  simp(config:=cS)only[go_sem,eqF h2]
def kG (c:Int)(a:List ByteArray):(Int × (List GEntry))→St
 | (d,b)=>⟨[(4,.ref 640 1 0 b.length),(5,.ref 768 1 0 a.length),(13,.ref 768 1 0 a.length),(14,.lit (.int .i64 c)),(15,.lit (.int .i64 d))],[(640,1,.row true (ab GEntry.encO b)),(768,1,.row true (ab eS a))],2⟩
attribute [go_sem] kG
attribute [go_sem] Tryz.ntmps82 Tryz.results82
theorem ua {text:ByteArray}{res:(List GEntry) × Int}(h:fA text=some res):an Tryz.prog 82 [.lit (.string text)] [] (.tup [.ref 20000 1 0 res.1.length,.lit (.int .i64 res.2)]) [(20000,1,.row true (ab GEntry.encO res.1))]:=by
 refine aj (ra:=[.home 2]) (md:=mdT) hT (hi:=hi00) Tryz.func82 rfl rfl (by decide +kernel) (by simp) ?_
 unfold fA at h
 obtain ⟨r01,g1,h⟩:=ae h
 simp(config:=cS)only[go_sem]
 refine ag (nu g1) ?_
 obtain ⟨q04,l2,h⟩:=ae h
 simp(config:=cS)only[go_sem]
 refine ap (m1:=.mk) (m2:=.mk) [.nf [4,5,13,14,15] [640,768]] (kG ((r01.length:Nat):Int) r01) l2 ?_ ?_
 ·simp(config:=cS)only[go_sem]
 ·intro nb3 sb3 bb3 b3 gb3
  obtain ⟨v15_1,out_1⟩:=sb3
  unfold dD at b3
  try dsimp only at b3
  obtain ⟨h4,b3⟩|⟨h4,b3⟩:=af b3
  ·obtain ⟨x02,g5,b3⟩:=ae b3
   obtain ⟨h6,h7,h8⟩:=al g5
   obtain ⟨r03,g9,b3⟩:=ae b3
   simp(config:=cS)only[go_sem,eqT h4,h6,h7,h8]
   refine ag (vq g9) ?_
   obtain ⟨h10,b3⟩|⟨h10,b3⟩:=af b3
   ·obtain ⟨h11,b3⟩|⟨h11,b3⟩:=af b3
    ·cases b3
     obtain rfl:=(ak gb3).symm
     try dsimp only at h
     cases h
     simp(config:=cS)only[go_sem,eZt h10,eqT h11]
    ·obtain ⟨h13,b3⟩:=ai b3
     obtain ⟨h14,b3⟩:=ai b3
     cases b3
     simp(config:=cS)only[go_sem,eZt h10,eqF h11,eqT h13,eqT h14]
     refine aq gb3 ?_
     simp(config:=cS)only[go_sem]
   ·cases b3
    obtain rfl:=(ak gb3).symm
    try dsimp only at h
    cases h
    simp(config:=cS)only[go_sem,eZf h10]
  ·cases b3
   obtain rfl:=(ak gb3).symm
   try dsimp only at h
   cases h
   simp(config:=cS)only[go_sem,eqF h4]
attribute [go_sem] Tryz.ntmps121 Tryz.results121
theorem ck {n lo hi:Int}{res:Bool}(h:bp n lo hi=some res):an Tryz.prog 121 [.lit (.int .i64 n),.lit (.int .i64 lo),.lit (.int .i64 hi)] [] (.lit (.bool res)) []:=by
 refine aj (ra:=[]) (md:=mdT) hT (hi:=hi00) Tryz.func121 rfl rfl (by decide +kernel) (by simp) ?_
 unfold bp at h
 obtain ⟨h1,h⟩|⟨h1,h⟩:=af h
 ·cases h
  simp(config:=cS)only[go_sem,eqT h1]
 ·cases h
  simp(config:=cS)only[go_sem,eqF h1]
def ob (s:ByteArray)(i:Int):St:=⟨[(0,.lit (.string s)),(3,.lit (.int .i64 i))],[],2⟩
attribute [go_sem] ob
attribute [go_sem] Tryz.ntmps273 Tryz.results273
theorem Ck {s:ByteArray}{res:Bool}(h:jY s=some res):an Tryz.prog 273 [.lit (.string s)] [] (.lit (.bool res)) []:=by
 refine aj (ra:=[]) (md:=mdT) hT (hi:=hi00) Tryz.func273 rfl rfl (by decide +kernel) (by simp) ?_
 unfold jY at h
 obtain ⟨q03,l1,h⟩:=ae h
 simp(config:=cS)only[go_sem]
 refine ap (m1:=.mk) (m2:=.mk) [.nf [0,3] []] (ob s) l1 ?_ ?_
 ·simp(config:=cS)only[go_sem]
 ·intro nb2 i_1 bb2 b2 gb2
  unfold eQ at b2
  try dsimp only at b2
  obtain ⟨h3,b2⟩|⟨h3,b2⟩:=af b2
  ·obtain ⟨c1001,g4,b2⟩:=ae b2
   obtain ⟨h5,h6,h7⟩:=bD g4
   obtain ⟨h8,b2⟩|⟨h8,b2⟩:=af b2
   ·obtain ⟨h9,b2⟩|⟨h9,b2⟩:=af b2
    ·cases b2
     simp(config:=cS)only[go_sem,eqT h3,h5,h6,h7,eqT h8,eqT h9]
     refine aq gb2 ?_
     simp(config:=cS)only[go_sem]
    ·obtain ⟨h10,b2⟩|⟨h10,b2⟩:=af b2
     ·cases b2
      obtain rfl:=(ak gb2).symm
      try dsimp only at h
      cases h
      simp(config:=cS)only[go_sem,eqT h3,h5,h6,h7,eqT h8,eqF h9,eqT h10]
     ·obtain ⟨h12,b2⟩|⟨h12,b2⟩:=af b2
      ·cases b2
       obtain rfl:=(ak gb2).symm
       try dsimp only at h
       cases h
       simp(config:=cS)only[go_sem,eqT h3,h5,h6,h7,eqT h8,eqF h9,eqF h10,eqT h12]
      ·obtain ⟨h14,b2⟩|⟨h14,b2⟩:=af b2
       ·cases b2
        obtain rfl:=(ak gb2).symm
        try dsimp only at h
        cases h
        simp(config:=cS)only[go_sem,eqT h3,h5,h6,h7,eqT h8,eqF h9,eqF h10,eqF h12,eqT h14]
       ·cases b2
        simp(config:=cS)only[go_sem,eqT h3,h5,h6,h7,eqT h8,eqF h9,eqF h10,eqF h12,eqF h14]
        refine aq gb2 ?_
        simp(config:=cS)only[go_sem]
   ·obtain ⟨h16,b2⟩|⟨h16,b2⟩:=af b2
    ·cases b2
     obtain rfl:=(ak gb2).symm
     try dsimp only at h
     cases h
     simp(config:=cS)only[go_sem,eqT h3,h5,h6,h7,eqF h8,eqT h16]
    ·obtain ⟨h18,b2⟩|⟨h18,b2⟩:=af b2
     ·cases b2
      obtain rfl:=(ak gb2).symm
      try dsimp only at h
      cases h
      simp(config:=cS)only[go_sem,eqT h3,h5,h6,h7,eqF h8,eqF h16,eqT h18]
     ·obtain ⟨h20,b2⟩|⟨h20,b2⟩:=af b2
      ·cases b2
       obtain rfl:=(ak gb2).symm
       try dsimp only at h
       cases h
       simp(config:=cS)only[go_sem,eqT h3,h5,h6,h7,eqF h8,eqF h16,eqF h18,eqT h20]
      ·cases b2
       simp(config:=cS)only[go_sem,eqT h3,h5,h6,h7,eqF h8,eqF h16,eqF h18,eqF h20]
       refine aq gb2 ?_
       simp(config:=cS)only[go_sem]
  ·cases b2
   obtain rfl:=(ak gb2).symm
   try dsimp only at h
   obtain ⟨r02,g23,h⟩:=ae h
   simp(config:=cS)only[go_sem,eqF h3]
   refine ag (ck g23) ?_
   cases h
   simp(config:=cS)only[go_sem]
attribute [go_sem] Tryz.ntmps119 Tryz.results119
theorem kX {n res:Int}(h:cA n=some res):an Tryz.prog 119 [.lit (.int .i64 n)] [] (.lit (.int .i64 res)) []:=by
 refine aj (ra:=[]) (md:=mdT) hT (hi:=hi00) Tryz.func119 rfl rfl (by decide +kernel) (by simp) ?_
 unfold cA at h
 obtain ⟨h1,h⟩|⟨h1,h⟩:=af h
 ·cases h
  simp(config:=cS)only[go_sem,eqT h1]
 ·cases h
  simp(config:=cS)only[go_sem,eqF h1]
def ny (l:List Int)(a b:Int):St:=⟨[(0,.sl (ab eI l)),(5,.sl (ab eI l)),(6,.lit (.int .i64 a)),(7,.lit (.int .i64 b))],[],2⟩
attribute [go_sem] ny
attribute [go_sem] Tryz.ntmps149 Tryz.results149
theorem kY {l:List Int}{res:Bool}(h:dq l=some res):an Tryz.prog 149 [.sl (ab eI l)] [] (.lit (.bool res)) []:=by
 refine aj (ra:=[]) (md:=mdT) hT (hi:=hi00) Tryz.func149 rfl rfl (by decide +kernel) (by simp) ?_
 unfold dq at h
 obtain ⟨q06,l1,h⟩:=ae h
 simp(config:=cS)only[go_sem]
 refine ap (m1:=.mk) (m2:=.mk) [.nf [0,5,6,7] []] (ny l ((l.length:Nat):Int)) l1 ?_ ?_
 ·simp(config:=cS)only[go_sem]
 ·intro nb2 v7_1 bb2 b2 gb2
  unfold dV at b2
  try dsimp only at b2
  obtain ⟨h3,b2⟩|⟨h3,b2⟩:=af b2
  ·obtain ⟨x01,g4,b2⟩:=ae b2
   obtain ⟨h5,h6,h7⟩:=al g4
   obtain ⟨h8,b2⟩|⟨h8,b2⟩:=af b2
   ·cases b2
    obtain rfl:=(ak gb2).symm
    try dsimp only at h
    cases h
    simp(config:=cS)only[go_sem,eqT h3,h5,h6,h7,eqT h8]
   ·obtain ⟨r02,g10,b2⟩:=ae b2
    simp(config:=cS)only[go_sem,eqT h3,h5,h6,h7,eqF h8]
    refine ag (ck g10) ?_
    obtain ⟨h11,b2⟩|⟨h11,b2⟩:=af b2
    ·obtain ⟨h12,b2⟩|⟨h12,b2⟩:=af b2
     ·obtain ⟨x03,g13,b2⟩:=ae b2
      obtain ⟨h14,h15,h16⟩:=al g13
      obtain ⟨r04,g17,b2⟩:=ae b2
      simp(config:=cS)only[go_sem,eqT h3,h5,h6,h7,eqF h8,eZt h11,eqT h12,h14,h15,h16]
      refine ag (kX g17) ?_
      obtain ⟨r05,g18,b2⟩:=ae b2
      simp(config:=cS)only[go_sem,eqT h3,h5,h6,h7,eqF h8,eZt h11,eqT h12,h14,h15,h16]
      refine ag (kX g18) ?_
      obtain ⟨h19,b2⟩|⟨h19,b2⟩:=af b2
      ·cases b2
       obtain rfl:=(ak gb2).symm
       try dsimp only at h
       cases h
       simp(config:=cS)only[go_sem,eqT h3,h5,h6,h7,eqF h8,eZt h11,eqT h12,h14,h15,h16,eqT h19]
      ·cases b2
       simp(config:=cS)only[go_sem,eqT h3,h5,h6,h7,eqF h8,eZt h11,eqT h12,h14,h15,h16,eqF h19]
       refine aq gb2 ?_
       simp(config:=cS)only[go_sem,eqT h3,h5,h6,h7,eqF h8,eZt h11,eqT h12,h14,h15,h16,eqF h19]
     ·cases b2
      simp(config:=cS)only[go_sem,eqT h3,h5,h6,h7,eqF h8,eZt h11,eqF h12]
      refine aq gb2 ?_
      simp(config:=cS)only[go_sem,eqT h3,h5,h6,h7,eqF h8,eZt h11,eqF h12]
    ·cases b2
     obtain rfl:=(ak gb2).symm
     try dsimp only at h
     cases h
     simp(config:=cS)only[go_sem,eqT h3,h5,h6,h7,eqF h8,eZf h11]
  ·cases b2
   obtain rfl:=(ak gb2).symm
   try dsimp only at h
   cases h
   simp(config:=cS)only[go_sem,eqF h3]
attribute [go_sem] Tryz.ntmps218 Tryz.results218
theorem Cl {n:GNode}{res:Bool}(h:jZ n=some res):an Tryz.prog 218 [.agg (GNode.encS n)] [] (.lit (.bool res)) []:=by
 refine aj (ra:=[]) (md:=mdT) hT (hi:=hi00) Tryz.func218 rfl rfl (by decide +kernel) (by simp) ?_
 unfold jZ at h
 obtain ⟨r01,g1,h⟩:=ae h
 simp(config:=cS)only[go_sem]
 refine ag (Ck g1) ?_
 obtain ⟨h2,h⟩|⟨h2,h⟩:=af h
 ·obtain ⟨r02,g3,h⟩:=ae h
  simp(config:=cS)only[go_sem,eZt h2]
  refine ag (kY g3) ?_
  obtain ⟨h4,h⟩|⟨h4,h⟩:=af h
  ·obtain ⟨r03,g5,h⟩:=ae h
   simp(config:=cS)only[go_sem,eZt h2,eZt h4]
   refine ag (ck g5) ?_
   cases h
   simp(config:=cS)only[go_sem,eZt h2,eZt h4]
  ·cases h
   simp(config:=cS)only[go_sem,eZt h2,eZf h4]
 ·cases h
  simp(config:=cS)only[go_sem,eZf h2]
def lz (a:ByteArray)(c:List GNode)(d b:Int):St:=⟨[(1,.lit (.string a)),(8,.sl (ab GNode.encS c)),(9,.lit (.int .i64 d)),(10,.lit (.int .i64 b))],[],2⟩
attribute [go_sem] lz
attribute [go_sem] Tryz.ntmps219 Tryz.results219
theorem wR {s:GShow}{name:ByteArray}{res:Int}(h:gO s name=some res):an Tryz.prog 219 [.agg (GShow.encS s),.lit (.string name)] [] (.lit (.int .i64 res)) []:=by
 refine aj (ra:=[]) (md:=mdT) hT (hi:=hi00) Tryz.func219 rfl rfl (by decide +kernel) (by simp) ?_
 unfold gO at h
 obtain ⟨q02,l1,h⟩:=ae h
 simp(config:=cS)only[go_sem]
 refine ap (m1:=.mk) (m2:=.mk) [.nf [1,8,9,10] []] (lz name s.nodes ((s.nodes.length:Nat):Int)) l1 ?_ ?_
 ·simp(config:=cS)only[go_sem]
 ·intro nb2 v10_1 bb2 b2 gb2
  unfold cW at b2
  try dsimp only at b2
  obtain ⟨h3,b2⟩|⟨h3,b2⟩:=af b2
  ·obtain ⟨x01,g4,b2⟩:=ae b2
   obtain ⟨h5,h6,h7⟩:=al g4
   obtain ⟨h8,b2⟩|⟨h8,b2⟩:=af b2
   ·cases b2
    obtain rfl:=(ak gb2).symm
    try dsimp only at h
    cases h
    simp(config:=cS)only[go_sem,eqT h3,h5,h6,h7,eqT h8]
   ·cases b2
    simp(config:=cS)only[go_sem,eqT h3,h5,h6,h7,eqF h8]
    refine aq gb2 ?_
    simp(config:=cS)only[go_sem]
  ·cases b2
   obtain rfl:=(ak gb2).symm
   try dsimp only at h
   cases h
   simp(config:=cS)only[go_sem,eqF h3]
def lk (p:Int)(b:List GNode)(c a:Int):St:=⟨[(1,.lit (.int .i64 p)),(8,.sl (ab GNode.encS b)),(9,.lit (.int .i64 c)),(10,.lit (.int .i64 a))],[],2⟩
attribute [go_sem] lk
attribute [go_sem] Tryz.ntmps118 Tryz.results118
theorem iW {s:GShow}{p res:Int}(h:bG s p=some res):an Tryz.prog 118 [.agg (GShow.encS s),.lit (.int .i64 p)] [] (.lit (.int .i64 res)) []:=by
 refine aj (ra:=[]) (md:=mdT) hT (hi:=hi00) Tryz.func118 rfl rfl (by decide +kernel) (by simp) ?_
 unfold bG at h
 obtain ⟨q02,l1,h⟩:=ae h
 simp(config:=cS)only[go_sem]
 refine ap (m1:=.mk) (m2:=.mk) [.nf [1,8,9,10] []] (lk p s.nodes ((s.nodes.length:Nat):Int)) l1 ?_ ?_
 ·simp(config:=cS)only[go_sem]
 ·intro nb2 v10_1 bb2 b2 gb2
  unfold cB at b2
  try dsimp only at b2
  obtain ⟨h3,b2⟩|⟨h3,b2⟩:=af b2
  ·obtain ⟨x01,g4,b2⟩:=ae b2
   obtain ⟨h5,h6,h7⟩:=al g4
   obtain ⟨h8,b2⟩|⟨h8,b2⟩:=af b2
   ·cases b2
    obtain rfl:=(ak gb2).symm
    try dsimp only at h
    cases h
    simp(config:=cS)only[go_sem,eqT h3,h5,h6,h7,eqT h8]
   ·cases b2
    simp(config:=cS)only[go_sem,eqT h3,h5,h6,h7,eqF h8]
    refine aq gb2 ?_
    simp(config:=cS)only[go_sem]
  ·cases b2
   obtain rfl:=(ak gb2).symm
   try dsimp only at h
   cases h
   simp(config:=cS)only[go_sem,eqF h3]
def oc (n:Int)(a:List Int)(b c:Int):St:=⟨[(1,.lit (.int .i64 n)),(7,.sl (ab eI a)),(8,.lit (.int .i64 b)),(9,.lit (.int .i64 c))],[],2⟩
attribute [go_sem] oc
attribute [go_sem] Tryz.ntmps220 Tryz.results220
theorem lY {l:List Int}{n:Int}{res:Bool}(h:cv l n=some res):an Tryz.prog 220 [.sl (ab eI l),.lit (.int .i64 n)] [] (.lit (.bool res)) []:=by
 refine aj (ra:=[]) (md:=mdT) hT (hi:=hi00) Tryz.func220 rfl rfl (by decide +kernel) (by simp) ?_
 unfold cv at h
 obtain ⟨q02,l1,h⟩:=ae h
 simp(config:=cS)only[go_sem]
 refine ap (m1:=.mk) (m2:=.mk) [.nf [1,7,8,9] []] (oc n l ((l.length:Nat):Int)) l1 ?_ ?_
 ·simp(config:=cS)only[go_sem]
 ·intro nb2 v9_1 bb2 b2 gb2
  unfold eR at b2
  try dsimp only at b2
  obtain ⟨h3,b2⟩|⟨h3,b2⟩:=af b2
  ·obtain ⟨x01,g4,b2⟩:=ae b2
   obtain ⟨h5,h6,h7⟩:=al g4
   obtain ⟨h8,b2⟩|⟨h8,b2⟩:=af b2
   ·cases b2
    obtain rfl:=(ak gb2).symm
    try dsimp only at h
    cases h
    simp(config:=cS)only[go_sem,eqT h3,h5,h6,h7,eqT h8]
   ·cases b2
    simp(config:=cS)only[go_sem,eqT h3,h5,h6,h7,eqF h8]
    refine aq gb2 ?_
    simp(config:=cS)only[go_sem]
  ·cases b2
   obtain rfl:=(ak gb2).symm
   try dsimp only at h
   cases h
   simp(config:=cS)only[go_sem,eqF h3]
def kr (a b:List Int)(c d:Int):St:=⟨[(0,.sl (ab eI a)),(15,.sl (ab eI b)),(16,.lit (.int .i64 c)),(17,.lit (.int .i64 d))],[],2⟩
attribute [go_sem] kr
attribute [go_sem] Tryz.ntmps221 Tryz.results221
theorem tc {a b:List Int}{res:Bool}(h:cX a b=some res):an Tryz.prog 221 [.sl (ab eI a),.sl (ab eI b)] [] (.lit (.bool res)) []:=by
 refine aj (ra:=[]) (md:=mdT) hT (hi:=hi00) Tryz.func221 rfl rfl (by decide +kernel) (by simp) ?_
 unfold cX at h
 obtain ⟨r01,g1,h⟩:=ae h
 simp(config:=cS)only[go_sem]
 refine ag (kY g1) ?_
 obtain ⟨h2,h⟩|⟨h2,h⟩:=af h
 ·obtain ⟨r02,g3,h⟩:=ae h
  simp(config:=cS)only[go_sem,eZt h2]
  refine ag (kY g3) ?_
  obtain ⟨h4,h⟩|⟨h4,h⟩:=af h
  ·obtain ⟨q05,l5,h⟩:=ae h
   simp(config:=cS)only[go_sem,eZt h2,eZt h4]
   refine ap (m1:=.mk) (m2:=.mk) [.nf [0,15,16,17] []] (kr a b ((b.length:Nat):Int)) l5 ?_ ?_
   ·simp(config:=cS)only[go_sem,eZt h2,eZt h4]
   ·intro nb6 v17_1 bb6 b6 gb6
    unfold bV at b6
    try dsimp only at b6
    obtain ⟨h7,b6⟩|⟨h7,b6⟩:=af b6
    ·obtain ⟨x03,g8,b6⟩:=ae b6
     obtain ⟨h9,h10,h11⟩:=al g8
     obtain ⟨r04,g12,b6⟩:=ae b6
     simp(config:=cS)only[go_sem,eZt h2,eZt h4,eqT h7,h9,h10,h11]
     refine ag (lY g12) ?_
     obtain ⟨h13,b6⟩|⟨h13,b6⟩:=af b6
     ·cases b6
      simp(config:=cS)only[go_sem,eZt h2,eZt h4,eqT h7,h9,h10,h11,eZt h13]
      refine aq gb6 ?_
      simp(config:=cS)only[go_sem,eZt h2,eZt h4,eqT h7,h9,h10,h11,eZt h13]
     ·cases b6
      obtain rfl:=(ak gb6).symm
      try dsimp only at h
      cases h
      simp(config:=cS)only[go_sem,eZt h2,eZt h4,eqT h7,h9,h10,h11,eZf h13]
    ·cases b6
     obtain rfl:=(ak gb6).symm
     try dsimp only at h
     cases h
     simp(config:=cS)only[go_sem,eZt h2,eZt h4,eqF h7]
  ·cases h
   simp(config:=cS)only[go_sem,eZt h2,eZf h4]
 ·cases h
  simp(config:=cS)only[go_sem,eZf h2]
def mz (a:List GNode)(b:Int)(c:List GTie)(d e:Int):St:=⟨[(1,.ptr 64 1 0 0),(33,.sl (ab GNode.encS a)),(34,.lit (.int .i64 b)),(35,.lit (.int .i64 e))],[(64,1,.var [.sl (ab GNode.encS a),.sl (ab GTie.enc c),.lit (.int .i64 d)])],2⟩
attribute [go_sem] mz
def mA (a:List GNode)(c d:Int)(b:List Int)(e:Int)(f:List GTie)(g:Int)(h:ByteArray)(i j:Int):St:=⟨[(1,.ptr 64 1 0 0),(6,.ptr 384 1 0 0),(66,.sl (ab GNode.encS a)),(67,.lit (.int .i64 c)),(68,.lit (.int .i64 d)),(73,.sl (ab eI b)),(74,.lit (.int .i64 e)),(75,.lit (.int .i64 j))],[(64,1,.var [.sl (ab GNode.encS a),.sl (ab GTie.enc f),.lit (.int .i64 g)]),(384,1,.var [.lit (.string h),.sl (ab eI b),.lit (.int .i64 i)])],2⟩
attribute [go_sem] mA
def mB (a:List GNode)(b:Int)(c:List GTie)(d e:Int):St:=⟨[(1,.ptr 64 1 0 0),(66,.sl (ab GNode.encS a)),(67,.lit (.int .i64 b)),(68,.lit (.int .i64 e))],[(64,1,.var [.sl (ab GNode.encS a),.sl (ab GTie.enc c),.lit (.int .i64 d)])],2⟩
attribute [go_sem] mB
@[go_sem] def hi137_16:DT:=.i2 0 (.i2 1 (.i2 2 (.i2 3 (.i2 4 (.i2 5 (.i2 6 (.i2 7 (.i2 8 (.i2 9 (.i2 10 (.i2 11 (.i2 12 (.i2 13 (.i2 14 (.i2 15 (.i2 16 (.i2 17 (.i2 18 (.i2 19 (.i2 20 (.i2 21 (.i2 22 (.i2 23 (.i2 24 (.i2 25 (.i2 26 (.i2 27 (.i2 28 (.i2 29 (.i2 30 (.i2 31 (.i2 32 (.i2 33 (.i2 34 .nil))))))))))))))))))))))))))))))))))
@[go_sem] def hi137_15:DT:=.i1 0 (.i2 1 (.i0 2 [0] (.i2 3 (.i2 4 .nil))))
def yR:Hint where
 acts:=fun _=>[]
 draws:=fun
  | 15=>⟨hi137_15,[[],[],[1],[0,1,2],[0,1,2,3]],.range 5⟩
  | 16=>⟨hi137_16,[[],[0],[0,1],[0,1,2],[0,1,2,3],[0,1,2],.range 6,.range 7,.range 8,[0,1,2],.range 10,.range 11,.range 12,.range 13,.range 14,.range 13,.range 16,.range 17,.range 18,.range 13,[0,1,2,3,4,5,6,7,8,9,10,11,12,19],.range 21,.range 22,.range 23,.range 24,.range 25,.range 24,[0,1,2,3,4,5,6,7,8,9,10,11,12,13,14,15,16,17,18,19,20,21,22,23,26],.range 24,[0,1,2,3,4,5,6,7,8,9,10,11,12,13,14,15,16,17,18,19,20,21,22,23,26,27,28],[0,1,2,3,4,5,6,7,8,9,10,11,12,13,14,15,16,17,18,19,20,21,22,23,26,27,28,29],[0,1,2,3,4,5,6,7,8,9,10,11,12,13,14,15,16,17,18,19,20,21,22,23,26,27,28,29,30],.range 32,.range 33,.range 34],.range 35⟩
  | _=>⟨.nil,[],[]⟩
theorem Nt (i:Nat):yR.acts i=[]:=rfl
theorem Nu (i:Nat):yR.views i=none:=rfl
attribute [go_sem] Nt Nu Tryz.ntmps137 Tryz.results137
@[go_sem] theorem PI:(yR.draws 15).order=hi137_15:=rfl
@[go_sem] theorem PJ:(yR.draws 16).order=hi137_16:=rfl
theorem yS {s:GShow}{res:Bool}(h:ip s=some res):an Tryz.prog 137 [.agg (GShow.encS s)] [] (.lit (.bool res)) []:=by
 refine aj (ra:=[]) (md:=mdT) hT (hi:=yR) Tryz.func137 rfl rfl (by decide +kernel) (by simp) ?_
 unfold ip at h
 obtain ⟨r01,g1,h⟩:=ae h
 simp(config:=cS)only[go_sem]
 refine ag (ck g1) ?_
 obtain ⟨h2,h⟩|⟨h2,h⟩:=af h
 ·obtain ⟨x02,g3,h⟩:=ae h
  obtain ⟨h5,h6⟩:=bo (k:=0) g3
  obtain ⟨h7,h⟩|⟨h7,h⟩:=af h
  ·cases h
   simp(config:=cS)only[go_sem,eZt h2,h5,h6,eqT h7]
  ·obtain ⟨h8,h⟩|⟨h8,h⟩:=af h
   ·obtain ⟨q17,l9,h⟩:=ae h
    simp(config:=cS)only[go_sem,eZt h2,h5,h6,eqF h7,eqT h8]
    refine ap (m1:=.mk) (m2:=.mk) [.nf [1,33,34,35] [64]] (mz s.nodes ((s.nodes.length:Nat):Int) s.ties s.horizon) l9 ?_ ?_
    ·simp(config:=cS)only[go_sem,eZt h2,h5,h6,eqF h7,eqT h8]
    ·intro nb10 v35_1 bb10 b10 gb10
     unfold dr at b10
     try dsimp only at b10
     obtain ⟨h11,b10⟩|⟨h11,b10⟩:=af b10
     ·obtain ⟨x03,g12,b10⟩:=ae b10
      obtain ⟨h13,h14,h15⟩:=al g12
      obtain ⟨r04,g16,b10⟩:=ae b10
      simp(config:=cS)only[go_sem,eZt h2,h5,h6,eqF h7,eqT h8,eqT h11,h13,h14,h15]
      refine ag (Cl g16) ?_
      obtain ⟨h17,b10⟩|⟨h17,b10⟩:=af b10
      ·obtain ⟨r05,g18,b10⟩:=ae b10
       simp(config:=cS)only[go_sem,eZt h2,h5,h6,eqF h7,eqT h8,eqT h11,h13,h14,h15,eZt h17]
       refine ag (wR g18) ?_
       obtain ⟨h19,b10⟩|⟨h19,b10⟩:=af b10
       ·obtain ⟨h20,b10⟩|⟨h20,b10⟩:=af b10
        ·cases b10
         simp(config:=cS)only[go_sem,eZt h2,h5,h6,eqF h7,eqT h8,eqT h11,h13,h14,h15,eZt h17,eqT h19,eqT h20]
         refine aq gb10 ?_
         simp(config:=cS)only[go_sem,eZt h2,h5,h6,eqF h7,eqT h8,eqT h11,h13,h14,h15,eZt h17,eqT h19,eqT h20]
        ·obtain ⟨r06,g21,b10⟩:=ae b10
         simp(config:=cS)only[go_sem,eZt h2,h5,h6,eqF h7,eqT h8,eqT h11,h13,h14,h15,eZt h17,eqT h19,eqF h20]
         refine ag (iW g21) ?_
         obtain ⟨h22,b10⟩|⟨h22,b10⟩:=af b10
         ·cases b10
          simp(config:=cS)only[go_sem,eZt h2,h5,h6,eqF h7,eqT h8,eqT h11,h13,h14,h15,eZt h17,eqT h19,eqF h20,eqT h22]
          refine aq gb10 ?_
          simp(config:=cS)only[go_sem,eZt h2,h5,h6,eqF h7,eqT h8,eqT h11,h13,h14,h15,eZt h17,eqT h19,eqF h20,eqT h22]
         ·cases b10
          obtain rfl:=(ak gb10).symm
          try dsimp only at h
          cases h
          simp(config:=cS)only[go_sem,eZt h2,h5,h6,eqF h7,eqT h8,eqT h11,h13,h14,h15,eZt h17,eqT h19,eqF h20,eqF h22]
       ·cases b10
        obtain rfl:=(ak gb10).symm
        try dsimp only at h
        cases h
        simp(config:=cS)only[go_sem,eZt h2,h5,h6,eqF h7,eqT h8,eqT h11,h13,h14,h15,eZt h17,eqF h19]
      ·cases b10
       obtain rfl:=(ak gb10).symm
       try dsimp only at h
       cases h
       simp(config:=cS)only[go_sem,eZt h2,h5,h6,eqF h7,eqT h8,eqT h11,h13,h14,h15,eZf h17]
     ·cases b10
      obtain rfl:=(ak gb10).symm
      try dsimp only at h
      obtain ⟨q16,l27,h⟩:=ae h
      simp(config:=cS)only[go_sem,eZt h2,h5,h6,eqF h7,eqT h8,eqF h11]
      refine ap (m1:=.mk) (m2:=.mk) [.nf [1,66,67,68] [64]] (mB s.nodes ((s.nodes.length:Nat):Int) s.ties s.horizon) l27 ?_ ?_
      ·simp(config:=cS)only[go_sem,eZt h2,h5,h6,eqF h7,eqT h8,eqF h11]
      ·intro nb28 v68_2 bb28 b28 gb28
       unfold du at b28
       try dsimp only at b28
       obtain ⟨h29,b28⟩|⟨h29,b28⟩:=af b28
       ·obtain ⟨x07,g30,b28⟩:=ae b28
        obtain ⟨h31,h32,h33⟩:=al g30
        obtain ⟨q15,l34,b28⟩:=ae b28
        simp(config:=cS)only[go_sem,eZt h2,h5,h6,eqF h7,eqT h8,eqF h11,eqT h29,h31,h32,h33]
        refine ap (m1:=.mk) (m2:=.mk) [.nf [1,6,66,67,68,73,74,75] [64,384]] (mA s.nodes ((s.nodes.length:Nat):Int) v68_2 x07.label ((x07.label.length:Nat):Int) s.ties s.horizon x07.name x07.watch) l34 ?_ ?_
        ·simp(config:=cS)only[go_sem,eZt h2,h5,h6,eqF h7,eqT h8,eqF h11,eqT h29,h31,h32,h33]
        ·intro nb35 v75_3 bb35 b35 gb35
         unfold dt at b35
         try dsimp only at b35
         obtain ⟨h36,b35⟩|⟨h36,b35⟩:=af b35
         ·obtain ⟨x08,g37,b35⟩:=ae b35
          obtain ⟨h38,h39,h40⟩:=al g37
          obtain ⟨r09,g41,b35⟩:=ae b35
          simp(config:=cS)only[go_sem,eZt h2,h5,h6,eqF h7,eqT h8,eqF h11,eqT h29,h31,h32,h33,eqT h36,h38,h39,h40]
          refine ag (kX g41) ?_
          obtain ⟨r10,g42,b35⟩:=ae b35
          simp(config:=cS)only[go_sem,eZt h2,h5,h6,eqF h7,eqT h8,eqF h11,eqT h29,h31,h32,h33,eqT h36,h38,h39,h40]
          refine ag (iW g42) ?_
          obtain ⟨h43,b35⟩|⟨h43,b35⟩:=af b35
          ·cases b35
           obtain rfl:=(ak gb35).symm
           try dsimp only at b28
           cases b28
           obtain rfl:=(ak gb28).symm
           try dsimp only at h
           cases h
           simp(config:=cS)only[go_sem,eZt h2,h5,h6,eqF h7,eqT h8,eqF h11,eqT h29,h31,h32,h33,eqT h36,h38,h39,h40,eqT h43]
          ·obtain ⟨x11,g46,b35⟩:=ae b35
           obtain ⟨h47,h48,h49⟩:=al g46
           obtain ⟨r12,g50,b35⟩:=ae b35
           simp(config:=cS)only[go_sem,eZt h2,h5,h6,eqF h7,eqT h8,eqF h11,eqT h29,h31,h32,h33,eqT h36,h38,h39,h40,eqF h43,h47,h48,h49]
           refine ag (lY g50) ?_
           obtain ⟨h51,b35⟩|⟨h51,b35⟩:=af b35
           ·cases b35
            obtain rfl:=(ak gb35).symm
            try dsimp only at b28
            cases b28
            obtain rfl:=(ak gb28).symm
            try dsimp only at h
            cases h
            simp(config:=cS)only[go_sem,eZt h2,h5,h6,eqF h7,eqT h8,eqF h11,eqT h29,h31,h32,h33,eqT h36,h38,h39,h40,eqF h43,h47,h48,h49,eZt h51]
           ·obtain ⟨r13,g54,b35⟩:=ae b35
            simp(config:=cS)only[go_sem,eZt h2,h5,h6,eqF h7,eqT h8,eqF h11,eqT h29,h31,h32,h33,eqT h36,h38,h39,h40,eqF h43,h47,h48,h49,eZf h51]
            refine ag (lY g54) ?_
            obtain ⟨h55,b35⟩|⟨h55,b35⟩:=af b35
            ·cases b35
             obtain rfl:=(ak gb35).symm
             try dsimp only at b28
             cases b28
             obtain rfl:=(ak gb28).symm
             try dsimp only at h
             cases h
             simp(config:=cS)only[go_sem,eZt h2,h5,h6,eqF h7,eqT h8,eqF h11,eqT h29,h31,h32,h33,eqT h36,h38,h39,h40,eqF h43,h47,h48,h49,eZf h51,eZt h55]
            ·obtain ⟨r14,g58,b35⟩:=ae b35
             simp(config:=cS)only[go_sem,eZt h2,h5,h6,eqF h7,eqT h8,eqF h11,eqT h29,h31,h32,h33,eqT h36,h38,h39,h40,eqF h43,h47,h48,h49,eZf h51,eZf h55]
             refine ag (tc g58) ?_
             obtain ⟨h59,b35⟩|⟨h59,b35⟩:=af b35
             ·cases b35
              simp(config:=cS)only[go_sem,eZt h2,h5,h6,eqF h7,eqT h8,eqF h11,eqT h29,h31,h32,h33,eqT h36,h38,h39,h40,eqF h43,h47,h48,h49,eZf h51,eZf h55,eZt h59]
              refine aq gb35 ?_
              simp(config:=cS)only[go_sem,eZt h2,h5,h6,eqF h7,eqT h8,eqF h11,eqT h29,h31,h32,h33,eqT h36,h38,h39,h40,eqF h43,h47,h48,h49,eZf h51,eZf h55,eZt h59]
             ·cases b35
              obtain rfl:=(ak gb35).symm
              try dsimp only at b28
              cases b28
              obtain rfl:=(ak gb28).symm
              try dsimp only at h
              cases h
              simp(config:=cS)only[go_sem,eZt h2,h5,h6,eqF h7,eqT h8,eqF h11,eqT h29,h31,h32,h33,eqT h36,h38,h39,h40,eqF h43,h47,h48,h49,eZf h51,eZf h55,eZf h59]
         ·cases b35
          obtain rfl:=(ak gb35).symm
          try dsimp only at b28
          cases b28
          simp(config:=cS)only[go_sem,eZt h2,h5,h6,eqF h7,eqT h8,eqF h11,eqT h29,h31,h32,h33,eqF h36]
          refine aq gb28 ?_
          simp(config:=cS)only[go_sem,eZt h2,h5,h6,eqF h7,eqT h8,eqF h11,eqT h29,h31,h32,h33,eqF h36]
       ·cases b28
        obtain rfl:=(ak gb28).symm
        try dsimp only at h
        cases h
        simp(config:=cS)only[go_sem,eZt h2,h5,h6,eqF h7,eqT h8,eqF h11,eqF h29]
   ·cases h
    simp(config:=cS)only[go_sem,eZt h2,h5,h6,eqF h7,eqF h8]
 ·cases h
  simp(config:=cS)only[go_sem,eZf h2]
def nz (b a:List Int)(c d:Int):St:=⟨[(1,.sl (ab eI b)),(12,.sl (ab eI a)),(13,.lit (.int .i64 c)),(14,.lit (.int .i64 d))],[],2⟩
attribute [go_sem] nz
attribute [go_sem] Tryz.ntmps222 Tryz.results222
theorem rD {a b:List Int}{res:Bool}(h:gH a b=some res):an Tryz.prog 222 [.sl (ab eI a),.sl (ab eI b)] [] (.lit (.bool res)) []:=by
 refine aj (ra:=[]) (md:=mdT) hT (hi:=hi00) Tryz.func222 rfl rfl (by decide +kernel) (by simp) ?_
 unfold gH at h
 obtain ⟨h1,h⟩|⟨h1,h⟩:=af h
 ·obtain ⟨q03,l2,h⟩:=ae h
  simp(config:=cS)only[go_sem,eqT h1]
  refine ap (m1:=.mk) (m2:=.mk) [.nf [1,12,13,14] []] (nz b a ((a.length:Nat):Int)) l2 ?_ ?_
  ·simp(config:=cS)only[go_sem]
  ·intro nb3 v14_1 bb3 b3 gb3
   unfold dW at b3
   try dsimp only at b3
   obtain ⟨h4,b3⟩|⟨h4,b3⟩:=af b3
   ·obtain ⟨x01,g5,b3⟩:=ae b3
    obtain ⟨h6,h7,h8⟩:=al g5
    obtain ⟨x02,g9,b3⟩:=ae b3
    obtain ⟨h10,h11,h12⟩:=al g9
    obtain ⟨h13,b3⟩|⟨h13,b3⟩:=af b3
    ·cases b3
     simp(config:=cS)only[go_sem,eqT h4,h6,h7,h8,h10,h11,h12,eqT h13]
     refine aq gb3 ?_
     simp(config:=cS)only[go_sem]
    ·cases b3
     obtain rfl:=(ak gb3).symm
     try dsimp only at h
     cases h
     simp(config:=cS)only[go_sem,eqT h4,h6,h7,h8,h10,h11,h12,eqF h13]
   ·cases b3
    obtain rfl:=(ak gb3).symm
    try dsimp only at h
    cases h
    simp(config:=cS)only[go_sem,eqF h4]
 ·cases h
  simp(config:=cS)only[go_sem,eqF h1]
def nD (a:Int)(c:List GTie)(d b:Int):St:=⟨[(1,.lit (.int .i64 a)),(8,.sl (ab GTie.enc c)),(9,.lit (.int .i64 d)),(10,.lit (.int .i64 b))],[],2⟩
attribute [go_sem] nD
attribute [go_sem] Tryz.ntmps223 Tryz.results223
theorem rE {s:GShow}{node res:Int}(h:gI s node=some res):an Tryz.prog 223 [.agg (GShow.encS s),.lit (.int .i64 node)] [] (.lit (.int .i64 res)) []:=by
 refine aj (ra:=[]) (md:=mdT) hT (hi:=hi00) Tryz.func223 rfl rfl (by decide +kernel) (by simp) ?_
 unfold gI at h
 obtain ⟨q02,l1,h⟩:=ae h
 simp(config:=cS)only[go_sem]
 refine ap (m1:=.mk) (m2:=.mk) [.nf [1,8,9,10] []] (nD node s.ties ((s.ties.length:Nat):Int)) l1 ?_ ?_
 ·simp(config:=cS)only[go_sem]
 ·intro nb2 v10_1 bb2 b2 gb2
  unfold dX at b2
  try dsimp only at b2
  obtain ⟨h3,b2⟩|⟨h3,b2⟩:=af b2
  ·obtain ⟨x01,g4,b2⟩:=ae b2
   obtain ⟨h5,h6,h7⟩:=al g4
   obtain ⟨h8,b2⟩|⟨h8,b2⟩:=af b2
   ·obtain ⟨h9,b2⟩|⟨h9,b2⟩:=af b2
    ·cases b2
     obtain rfl:=(ak gb2).symm
     try dsimp only at h
     cases h
     simp(config:=cS)only[go_sem,eqT h3,h5,h6,h7,eZt h8,eqT h9]
    ·cases b2
     simp(config:=cS)only[go_sem,eqT h3,h5,h6,h7,eZt h8,eqF h9]
     refine aq gb2 ?_
     simp(config:=cS)only[go_sem]
   ·cases b2
    simp(config:=cS)only[go_sem,eqT h3,h5,h6,h7,eZf h8]
    refine aq gb2 ?_
    simp(config:=cS)only[go_sem]
  ·cases b2
   obtain rfl:=(ak gb2).symm
   try dsimp only at h
   cases h
   simp(config:=cS)only[go_sem,eqF h3]
@[go_sem] def hi138_5:DT:=.i2 0 (.i2 1 (.i2 2 (.i2 3 (.i2 4 (.i2 5 (.i2 6 (.i2 7 (.i2 8 (.i2 9 (.i2 10 (.i2 11 (.i2 12 (.i2 13 (.i2 14 (.i2 15 (.i2 16 (.i2 17 (.i2 18 (.i2 19 (.i2 20 (.i2 21 (.i2 22 (.i2 23 (.i2 24 (.i2 25 (.i2 26 (.i2 27 (.i2 28 (.i2 29 (.i2 30 (.i2 31 (.i2 32 (.i2 33 (.i2 34 (.i2 35 (.i2 36 (.i2 37 (.i2 38 (.i2 39 (.i2 40 (.i2 41 (.i2 42 (.i2 44 (.i2 43 (.i2 45 (.i2 46 (.i2 47 (.i2 48 .nil))))))))))))))))))))))))))))))))))))))))))))))))
def Da:Hint where
 acts:=fun _=>[]
 draws:=fun
  | 5=>⟨hi138_5,[[],[0],[0,1],[0,1,2],[0,1,2,3],.range 5,.range 6,.range 7,.range 8,.range 9,.range 10,.range 11,.range 12,.range 13,.range 14,.range 13,[0,1,2,3,4,5,6,7,8,9,10,11,12,15],.range 17,.range 18,.range 19,.range 20,.range 21,.range 22,.range 23,.range 24,.range 23,[0,1,2,3,4,5,6,7,8,9,10,11,12,13,14,15,16,17,18,19,20,21,22,25],.range 27,.range 28,.range 29,.range 23,[0,1,2,3,4,5,6,7,8,9,10,11,12,13,14,15,16,17,18,19,20,21,22,30],.range 23,[0,1,2,3,4,5,6,7,8,9,10,11,12,13,14,15,16,17,18,19,20,21,22,32],[0,1,2,3,4,5,6,7,8,9,10,11,12,13,14,15,16,17,18,19,20,21,22,30,31,32,33],[0,1,2,3,4,5,6,7,8,9,10,11,12,13,14,15,16,17,18,19,20,21,22,30,31,32,33,34],[0,1,2,3,4,5,6,7,8,9,10,11,12,13,14,15,16,17,18,19,20,21,22,30,31,32,33,34,35],.range 37,.range 38,.range 39,.range 40,.range 40,[0,1,2,3,4,5,6,7,8,9,10,11,12,13,14,15,16,17,18,19,20,21,22,23,24,25,26,27,28,29,30,31,32,33,34,35,36,37,38,39,41],.range 43,.range 40,.range 45,.range 46,.range 47,.range 48],.range 49⟩
  | _=>⟨.nil,[],[]⟩
theorem Nv (i:Nat):Da.acts i=[]:=rfl
theorem Nw (i:Nat):Da.views i=none:=rfl
attribute [go_sem] Nv Nw Tryz.ntmps138 Tryz.results138
@[go_sem] theorem PO:(Da.draws 5).order=hi138_5:=rfl
theorem Cm {s:GShow}{i:Int}{res:Bool}(h:ka s i=some res):an Tryz.prog 138 [.agg (GShow.encS s),.lit (.int .i64 i)] [] (.lit (.bool res)) []:=by
 refine aj (ra:=[]) (md:=mdT) hT (hi:=Da) Tryz.func138 rfl rfl (by decide +kernel) (by simp) ?_
 unfold ka at h
 obtain ⟨x01,g1,h⟩:=ae h
 obtain ⟨h2,h3,h4⟩:=al g1
 obtain ⟨r02,g5,h⟩:=ae h
 simp(config:=cS)only[go_sem,h2,h3,h4]
 refine ag (ck g5) ?_
 obtain ⟨h6,h⟩|⟨h6,h⟩:=af h
 ·obtain ⟨r03,g7,h⟩:=ae h
  simp(config:=cS)only[go_sem,h2,h3,h4,eZt h6]
  refine ag (ck g7) ?_
  obtain ⟨h8,h⟩|⟨h8,h⟩:=af h
  ·obtain ⟨h9,h⟩|⟨h9,h⟩:=af h
   ·cases h
    simp(config:=cS)only[go_sem,h2,h3,h4,eZt h6,eZt h8,eqT h9]
   ·obtain ⟨h10,h⟩|⟨h10,h⟩:=af h
    ·cases h
     simp(config:=cS)only[go_sem,h2,h3,h4,eZt h6,eZt h8,eqF h9,eqT h10]
    ·obtain ⟨h11,h⟩|⟨h11,h⟩:=af h
     ·cases h
      simp(config:=cS)only[go_sem,h2,h3,h4,eZt h6,eZt h8,eqF h9,eqF h10,eqT h11]
     ·obtain ⟨h12,h⟩|⟨h12,h⟩:=af h
      ·cases h
       simp(config:=cS)only[go_sem,h2,h3,h4,eZt h6,eZt h8,eqF h9,eqF h10,eqF h11,eqT h12]
      ·obtain ⟨h13,h⟩|⟨h13,h⟩:=af h
       ·obtain ⟨h14,h⟩|⟨h14,h⟩:=af h
        ·obtain ⟨h15,h⟩|⟨h15,h⟩:=af h
         ·cases h
          simp(config:=cS)only[go_sem,h2,h3,h4,eZt h6,eZt h8,eqF h9,eqF h10,eqF h11,eqF h12,eZt h13,eqT h14,eqT h15]
         ·obtain ⟨x04,g16,h⟩:=ae h
          obtain ⟨h17,h18,h19⟩:=al g16
          obtain ⟨h20,h⟩|⟨h20,h⟩:=af h
          ·obtain ⟨x05,g21,h⟩:=ae h
           obtain ⟨h22,h23,h24⟩:=al g21
           obtain ⟨r06,g25,h⟩:=ae h
           simp(config:=cS)only[go_sem,h2,h3,h4,eZt h6,eZt h8,eqF h9,eqF h10,eqF h11,eqF h12,eZt h13,eqT h14,eqF h15,h17,h18,h19,eqT h20,h22,h23,h24]
           refine ag (rD g25) ?_
           obtain ⟨h26,h⟩|⟨h26,h⟩:=af h
           ·obtain ⟨r07,g27,h⟩:=ae h
            simp(config:=cS)only[go_sem,h2,h3,h4,eZt h6,eZt h8,eqF h9,eqF h10,eqF h11,eqF h12,eZt h13,eqT h14,eqF h15,h17,h18,h19,eqT h20,h22,h23,h24,eZt h26]
            refine ag (rE g27) ?_
            cases h
            simp(config:=cS)only[go_sem,h2,h3,h4,eZt h6,eZt h8,eqF h9,eqF h10,eqF h11,eqF h12,eZt h13,eqT h14,eqF h15,h17,h18,h19,eqT h20,h22,h23,h24,eZt h26]
           ·cases h
            simp(config:=cS)only[go_sem,h2,h3,h4,eZt h6,eZt h8,eqF h9,eqF h10,eqF h11,eqF h12,eZt h13,eqT h14,eqF h15,h17,h18,h19,eqT h20,h22,h23,h24,eZf h26]
          ·cases h
           simp(config:=cS)only[go_sem,h2,h3,h4,eZt h6,eZt h8,eqF h9,eqF h10,eqF h11,eqF h12,eZt h13,eqT h14,eqF h15,h17,h18,h19,eqF h20]
        ·cases h
         simp(config:=cS)only[go_sem,h2,h3,h4,eZt h6,eZt h8,eqF h9,eqF h10,eqF h11,eqF h12,eZt h13,eqF h14]
       ·cases h
        simp(config:=cS)only[go_sem,h2,h3,h4,eZt h6,eZt h8,eqF h9,eqF h10,eqF h11,eqF h12,eZf h13]
  ·cases h
   simp(config:=cS)only[go_sem,h2,h3,h4,eZt h6,eZf h8]
 ·cases h
  simp(config:=cS)only[go_sem,h2,h3,h4,eZf h6]
def oe (a:Int)(b:List GNode)(c:List GTie)(d e:Int):St:=⟨[(1,.ptr 64 1 0 0),(21,.lit (.int .i64 a)),(22,.lit (.int .i64 e))],[(64,1,.var [.sl (ab GNode.encS b),.sl (ab GTie.enc c),.lit (.int .i64 d)])],2⟩
attribute [go_sem] oe
attribute [go_sem] Tryz.ntmps66 Tryz.results66
theorem lZ {s:GShow}{res:Bool}(h:ek s=some res):an Tryz.prog 66 [.agg (GShow.encS s)] [] (.lit (.bool res)) []:=by
 refine aj (ra:=[]) (md:=mdT) hT (hi:=hi00) Tryz.func66 rfl rfl (by decide +kernel) (by simp) ?_
 unfold ek at h
 obtain ⟨r01,g1,h⟩:=ae h
 simp(config:=cS)only[go_sem]
 refine ag (yS g1) ?_
 obtain ⟨h2,h⟩|⟨h2,h⟩:=af h
 ·obtain ⟨h3,h⟩|⟨h3,h⟩:=af h
  ·cases h
   simp(config:=cS)only[go_sem,eZt h2,eqT h3]
  ·obtain ⟨r02,g4,h⟩:=ae h
   simp(config:=cS)only[go_sem,eZt h2,eqF h3]
   refine ag (ck g4) ?_
   obtain ⟨h5,h⟩|⟨h5,h⟩:=af h
   ·obtain ⟨q04,l6,h⟩:=ae h
    simp(config:=cS)only[go_sem,eZt h5]
    refine ap (m1:=.mk) (m2:=.mk) [.nf [1,21,22] [64]] (oe ((s.ties.length:Nat):Int) s.nodes s.ties s.horizon) l6 ?_ ?_
    ·simp(config:=cS)only[go_sem]
    ·intro nb7 v22_1 bb7 b7 gb7
     unfold eT at b7
     try dsimp only at b7
     obtain ⟨h8,b7⟩|⟨h8,b7⟩:=af b7
     ·obtain ⟨r03,g9,b7⟩:=ae b7
      simp(config:=cS)only[go_sem,eqT h8]
      refine ag (Cm g9) ?_
      obtain ⟨h10,b7⟩|⟨h10,b7⟩:=af b7
      ·cases b7
       simp(config:=cS)only[go_sem,eZt h10]
       refine aq gb7 ?_
       simp(config:=cS)only[go_sem]
      ·cases b7
       obtain rfl:=(ak gb7).symm
       try dsimp only at h
       cases h
       simp(config:=cS)only[go_sem,eZf h10]
     ·cases b7
      obtain rfl:=(ak gb7).symm
      try dsimp only at h
      cases h
      simp(config:=cS)only[go_sem,eqF h8]
   ·cases h
    simp(config:=cS)only[go_sem,eZf h5]
 ·cases h
  simp(config:=cS)only[go_sem,eZf h2]
def ll (c:Int)(b:List Int):(Int × (List Int))→St
 | (d,a)=>⟨[(2,.ptr 128 1 0 0),(3,.ptr 192 1 0 0),(14,.lit (.int .i64 c)),(15,.lit (.int .i64 d))],[(128,1,.var [.lit (.int .i64 0),.lit (.slice none 0 0),.lit (.slice none 0 0)]),(192,1,.var [.lit (.int .i64 0),.ref 100012289 1 0 a.length,.ref 640 1 0 b.length]),(100012289,1,.row true (ab eI a)),(640,1,.row true (ab eI b))],2⟩
attribute [go_sem] ll
attribute [go_sem] Tryz.ntmps213 Tryz.results213
theorem vt {s:GShow}{res:GState}(h:cK s=some res):an Tryz.prog 213 [.agg (GShow.encS s)] [] (.agg [.lit (.int .i64 res.now),.ref 20000 1 0 res.times.length,.ref 20001 1 0 res.values.length]) [(20000,1,.row true (ab eI res.times)),(20001,1,.row true (ab eI res.values))]:=by
 refine aj (ra:=[.homeCell 128 1,.homeCell 128 2]) (md:=mdT) hT (hi:=hi00) Tryz.func213 rfl rfl (by decide +kernel) (by simp) ?_
 unfold cK at h
 obtain ⟨r01,g1,h⟩:=ae h
 simp(config:=cS)only[go_sem]
 refine ag (lZ g1) ?_
 obtain ⟨h2,h⟩|⟨h2,h⟩:=af h
 ·obtain ⟨q02,l3,h⟩:=ae h
  simp(config:=cS)only[go_sem,eZt h2]
  refine ap (m1:=.mk) (m2:=.mk) [.homeCell 192 1,.nf [2,3,14,15] [128,192,100012289,640]] (ll ((s.nodes.length:Nat):Int) (List.replicate 3 0)) l3 ?_ ?_
  ·simp(config:=cS)only[go_sem]
  ·intro nb4 sb4 bb4 b4 gb4
   obtain ⟨v15_1,h100012289_1⟩:=sb4
   unfold cC at b4
   try dsimp only at b4
   obtain ⟨h5,b4⟩|⟨h5,b4⟩:=af b4
   ·obtain ⟨h6,b4⟩|⟨h6,b4⟩:=af b4
    ·obtain ⟨h7,b4⟩:=ai b4
     obtain ⟨h8,b4⟩:=ai b4
     cases b4
     simp(config:=cS)only[go_sem,eqT h5,eqT h6,eqT h7,eqT h8]
     refine aq gb4 ?_
     simp(config:=cS)only[go_sem]
    ·obtain ⟨h9,b4⟩:=ai b4
     obtain ⟨h10,b4⟩:=ai b4
     cases b4
     simp(config:=cS)only[go_sem,eqT h5,eqF h6,eqT h9,eqT h10]
     refine aq gb4 ?_
     simp(config:=cS)only[go_sem]
   ·cases b4
    obtain rfl:=(ak gb4).symm
    try dsimp only at h
    cases h
    simp(config:=cS)only[go_sem,eqF h5]
 ·cases h
  simp(config:=cS)only[go_sem,eZf h2]
def mC (v:List Int)(a b:Int):St:=⟨[(0,.sl (ab eI v)),(5,.sl (ab eI v)),(6,.lit (.int .i64 a)),(7,.lit (.int .i64 b))],[],2⟩
attribute [go_sem] mC
attribute [go_sem] Tryz.ntmps239 Tryz.results239
theorem yT {v:List Int}{res:Bool}(h:iq v=some res):an Tryz.prog 239 [.sl (ab eI v)] [] (.lit (.bool res)) []:=by
 refine aj (ra:=[]) (md:=mdT) hT (hi:=hi00) Tryz.func239 rfl rfl (by decide +kernel) (by simp) ?_
 unfold iq at h
 obtain ⟨q03,l1,h⟩:=ae h
 simp(config:=cS)only[go_sem]
 refine ap (m1:=.mk) (m2:=.mk) [.nf [0,5,6,7] []] (mC v ((v.length:Nat):Int)) l1 ?_ ?_
 ·simp(config:=cS)only[go_sem]
 ·intro nb2 v7_1 bb2 b2 gb2
  unfold dv at b2
  try dsimp only at b2
  obtain ⟨h3,b2⟩|⟨h3,b2⟩:=af b2
  ·obtain ⟨x01,g4,b2⟩:=ae b2
   obtain ⟨h5,h6,h7⟩:=al g4
   obtain ⟨r02,g8,b2⟩:=ae b2
   simp(config:=cS)only[go_sem,eqT h3,h5,h6,h7]
   refine ag (ck g8) ?_
   obtain ⟨h9,b2⟩|⟨h9,b2⟩:=af b2
   ·cases b2
    simp(config:=cS)only[go_sem,eZt h9]
    refine aq gb2 ?_
    simp(config:=cS)only[go_sem]
   ·cases b2
    obtain rfl:=(ak gb2).symm
    try dsimp only at h
    cases h
    simp(config:=cS)only[go_sem,eZf h9]
  ·cases b2
   obtain rfl:=(ak gb2).symm
   try dsimp only at h
   cases h
   simp(config:=cS)only[go_sem,eqF h3]
def nE (a:List Int)(d:Int)(e:List GNode)(f:List GTie)(g b:Int)(c:List Int)(h:Int):St:=⟨[(2,.ptr 128 1 0 0),(3,.ptr 192 1 0 0),(44,.sl (ab eI a)),(45,.lit (.int .i64 d)),(46,.lit (.int .i64 h))],[(128,1,.var [.sl (ab GNode.encS e),.sl (ab GTie.enc f),.lit (.int .i64 g)]),(192,1,.var [.lit (.int .i64 b),.sl (ab eI a),.sl (ab eI c)])],2⟩
attribute [go_sem] nE
def nF (d:List GNode)(e:List GTie)(f a:Int)(b c:List Int)(p:Int):St:=⟨[(2,.ptr 128 1 0 0),(3,.ptr 192 1 0 0),(7,.lit (.int .i64 p))],[(128,1,.var [.sl (ab GNode.encS d),.sl (ab GTie.enc e),.lit (.int .i64 f)]),(192,1,.var [.lit (.int .i64 a),.sl (ab eI b),.sl (ab eI c)])],2⟩
attribute [go_sem] nF
@[go_sem] def hi159_13:DT:=.i2 0 (.i2 1 (.i2 2 (.i2 3 (.i2 4 (.i2 5 (.i2 6 (.i2 7 (.i2 8 (.i2 9 (.i2 10 (.i2 11 (.i2 12 (.i2 13 (.i2 14 (.i2 15 (.i2 16 (.i2 17 .nil)))))))))))))))))
def Db:Hint where
 acts:=fun _=>[]
 draws:=fun
  | 13=>⟨hi159_13,[[],[0],[],[2],[0,1,2,3],.range 5,.range 6,[],[7],[7,8],[7,8,9],[7,8,9,10],[7,8,9],[7,8,9,10,11,12],[7,8,9,10,11,12,13],[7,8,9,10,11,12,13,14],[7,8,9,10,11,12,13,14,15],.range 17],.range 18⟩
  | _=>⟨.nil,[],[]⟩
theorem Nx (i:Nat):Db.acts i=[]:=rfl
theorem Ny (i:Nat):Db.views i=none:=rfl
attribute [go_sem] Nx Ny Tryz.ntmps159 Tryz.results159
@[go_sem] theorem PK:(Db.draws 13).order=hi159_13:=rfl
theorem rG {s:GShow}{v1:GState}{res:Bool}(h:eU s v1=some res):an Tryz.prog 159 [.agg (GShow.encS s),.agg (GState.encS v1)] [] (.lit (.bool res)) []:=by
 refine aj (ra:=[]) (md:=mdT) hT (hi:=Db) Tryz.func159 rfl rfl (by decide +kernel) (by simp) ?_
 unfold eU at h
 obtain ⟨r01,g1,h⟩:=ae h
 simp(config:=cS)only[go_sem]
 refine ag (lZ g1) ?_
 obtain ⟨h2,h⟩|⟨h2,h⟩:=af h
 ·obtain ⟨r02,g3,h⟩:=ae h
  simp(config:=cS)only[go_sem,eZt h2]
  refine ag (ck g3) ?_
  obtain ⟨h4,h⟩|⟨h4,h⟩:=af h
  ·obtain ⟨h5,h⟩|⟨h5,h⟩:=af h
   ·obtain ⟨x03,g6,h⟩:=ae h
    obtain ⟨h8,h9⟩:=bo (k:=0) g6
    obtain ⟨h10,h⟩|⟨h10,h⟩:=af h
    ·obtain ⟨r04,g11,h⟩:=ae h
     simp(config:=cS)only[go_sem,eZt h2,eZt h4,eqT h5,h8,h9,eqT h10]
     refine ag (yT g11) ?_
     obtain ⟨h12,h⟩|⟨h12,h⟩:=af h
     ·obtain ⟨q11,l13,h⟩:=ae h
      simp(config:=cS)only[go_sem,eZt h2,eZt h4,eqT h5,h8,h9,eqT h10,eZt h12]
      refine ap (m1:=.mk) (m2:=.mk) [.nf [2,3,44,45,46] [128,192]] (nE v1.times ((v1.times.length:Nat):Int) s.nodes s.ties s.horizon v1.now v1.values) l13 ?_ ?_
      ·simp(config:=cS)only[go_sem,eZt h2,eZt h4,eqT h5,h8,h9,eqT h10,eZt h12]
      ·intro nb14 v46_1 bb14 b14 gb14
       unfold dY at b14
       try dsimp only at b14
       obtain ⟨h15,b14⟩|⟨h15,b14⟩:=af b14
       ·obtain ⟨x05,g16,b14⟩:=ae b14
        obtain ⟨h17,h18,h19⟩:=al g16
        obtain ⟨h20,b14⟩|⟨h20,b14⟩:=af b14
        ·obtain ⟨r06,g21,b14⟩:=ae b14
         simp(config:=cS)only[go_sem,eZt h2,eZt h4,eqT h5,h8,h9,eqT h10,eZt h12,eqT h15,h17,h18,h19,eqT h20]
         refine ag (ck g21) ?_
         obtain ⟨h22,b14⟩|⟨h22,b14⟩:=af b14
         ·cases b14
          simp(config:=cS)only[go_sem,eZt h2,eZt h4,eqT h5,h8,h9,eqT h10,eZt h12,eqT h15,h17,h18,h19,eqT h20,eZt h22]
          refine aq gb14 ?_
          simp(config:=cS)only[go_sem,eZt h2,eZt h4,eqT h5,h8,h9,eqT h10,eZt h12,eqT h15,h17,h18,h19,eqT h20,eZt h22]
         ·cases b14
          obtain rfl:=(ak gb14).symm
          try dsimp only at h
          cases h
          simp(config:=cS)only[go_sem,eZt h2,eZt h4,eqT h5,h8,h9,eqT h10,eZt h12,eqT h15,h17,h18,h19,eqT h20,eZf h22]
        ·cases b14
         simp(config:=cS)only[go_sem,eZt h2,eZt h4,eqT h5,h8,h9,eqT h10,eZt h12,eqT h15,h17,h18,h19,eqF h20]
         refine aq gb14 ?_
         simp(config:=cS)only[go_sem,eZt h2,eZt h4,eqT h5,h8,h9,eqT h10,eZt h12,eqT h15,h17,h18,h19,eqF h20]
       ·cases b14
        obtain rfl:=(ak gb14).symm
        try dsimp only at h
        obtain ⟨q10,l25,h⟩:=ae h
        simp(config:=cS)only[go_sem,eZt h2,eZt h4,eqT h5,h8,h9,eqT h10,eZt h12,eqF h15]
        refine ap (m1:=.mk) (m2:=.mk) [.nf [2,3,7] [128,192]] (nF s.nodes s.ties s.horizon v1.now v1.times v1.values) l25 ?_ ?_
        ·simp(config:=cS)only[go_sem,eZt h2,eZt h4,eqT h5,h8,h9,eqT h10,eZt h12,eqF h15]
        ·intro nb26 p_2 bb26 b26 gb26
         unfold dZ at b26
         try dsimp only at b26
         obtain ⟨h27,b26⟩|⟨h27,b26⟩:=af b26
         ·obtain ⟨r07,g28,b26⟩:=ae b26
          simp(config:=cS)only[go_sem,eZt h2,eZt h4,eqT h5,h8,h9,eqT h10,eZt h12,eqF h15,eqT h27]
          refine ag (iW g28) ?_
          obtain ⟨x08,g29,b26⟩:=ae b26
          obtain ⟨h30,h31,h32⟩:=al g29
          obtain ⟨h33,b26⟩|⟨h33,b26⟩:=af b26
          ·obtain ⟨x09,g34,b26⟩:=ae b26
           obtain ⟨h35,h36,h37⟩:=al g34
           obtain ⟨h38,b26⟩|⟨h38,b26⟩:=af b26
           ·cases b26
            simp(config:=cS)only[go_sem,eZt h2,eZt h4,eqT h5,h8,h9,eqT h10,eZt h12,eqF h15,eqT h27,h30,h31,h32,eqT h33,h35,h36,h37,eqT h38]
            refine aq gb26 ?_
            simp(config:=cS)only[go_sem,eZt h2,eZt h4,eqT h5,h8,h9,eqT h10,eZt h12,eqF h15,eqT h27,h30,h31,h32,eqT h33,h35,h36,h37,eqT h38]
           ·cases b26
            obtain rfl:=(ak gb26).symm
            try dsimp only at h
            cases h
            simp(config:=cS)only[go_sem,eZt h2,eZt h4,eqT h5,h8,h9,eqT h10,eZt h12,eqF h15,eqT h27,h30,h31,h32,eqT h33,h35,h36,h37,eqF h38]
          ·obtain ⟨h40,b26⟩|⟨h40,b26⟩:=af b26
           ·cases b26
            simp(config:=cS)only[go_sem,eZt h2,eZt h4,eqT h5,h8,h9,eqT h10,eZt h12,eqF h15,eqT h27,h30,h31,h32,eqF h33,eqT h40]
            refine aq gb26 ?_
            simp(config:=cS)only[go_sem,eZt h2,eZt h4,eqT h5,h8,h9,eqT h10,eZt h12,eqF h15,eqT h27,h30,h31,h32,eqF h33,eqT h40]
           ·cases b26
            obtain rfl:=(ak gb26).symm
            try dsimp only at h
            cases h
            simp(config:=cS)only[go_sem,eZt h2,eZt h4,eqT h5,h8,h9,eqT h10,eZt h12,eqF h15,eqT h27,h30,h31,h32,eqF h33,eqF h40]
         ·cases b26
          obtain rfl:=(ak gb26).symm
          try dsimp only at h
          cases h
          simp(config:=cS)only[go_sem,eZt h2,eZt h4,eqT h5,h8,h9,eqT h10,eZt h12,eqF h15,eqF h27]
     ·cases h
      simp(config:=cS)only[go_sem,eZt h2,eZt h4,eqT h5,h8,h9,eqT h10,eZf h12]
    ·cases h
     simp(config:=cS)only[go_sem,eZt h2,eZt h4,eqT h5,h8,h9,eqF h10]
   ·cases h
    simp(config:=cS)only[go_sem,eZt h2,eZt h4,eqF h5]
  ·cases h
   simp(config:=cS)only[go_sem,eZt h2,eZf h4]
 ·cases h
  simp(config:=cS)only[go_sem,eZf h2]
def lA (e:List GTie)(f b:Int)(c d:List Int):(Int × (List Int))→St
 | (g,a)=>⟨[(3,.ptr 192 1 0 0),(5,.ref 512 1 0 a.length),(10,.sl (ab GTie.enc e)),(11,.lit (.int .i64 f)),(12,.lit (.int .i64 g))],[(192,1,.var [.lit (.int .i64 b),.sl (ab eI c),.sl (ab eI d)]),(512,1,.row true (ab eI a))],2⟩
attribute [go_sem] lA
attribute [go_sem] Tryz.ntmps271 Tryz.results271
theorem wS {s:GShow}{v1:GState}{res:List Int}(h:gP s v1=some res):an Tryz.prog 271 [.agg (GShow.encS s),.agg (GState.encS v1)] [] (.ref 20000 1 0 res.length) [(20000,1,.row true (ab eI res))]:=by
 refine aj (ra:=[.home 4]) (md:=mdT) hT (hi:=hi00) Tryz.func271 rfl rfl (by decide +kernel) (by simp) ?_
 unfold gP at h
 obtain ⟨q04,l1,h⟩:=ae h
 simp(config:=cS)only[go_sem]
 refine ap (m1:=.mk) (m2:=.mk) [.nf [3,5,10,11,12] [192,512]] (lA s.ties ((s.ties.length:Nat):Int) v1.now v1.times v1.values) l1 ?_ ?_
 ·simp(config:=cS)only[go_sem]
 ·intro nb2 sb2 bb2 b2 gb2
  obtain ⟨v12_1,out_1⟩:=sb2
  unfold eu at b2
  try dsimp only at b2
  obtain ⟨h3,b2⟩|⟨h3,b2⟩:=af b2
  ·obtain ⟨x01,g4,b2⟩:=ae b2
   obtain ⟨h5,h6,h7⟩:=al g4
   obtain ⟨h8,b2⟩|⟨h8,b2⟩:=af b2
   ·obtain ⟨x02,g9,b2⟩:=ae b2
    obtain ⟨h10,h11,h12⟩:=al g9
    obtain ⟨h13,b2⟩|⟨h13,b2⟩:=af b2
    ·cases b2
     simp(config:=cS)only[go_sem,eqT h3,h5,h6,h7,eZt h8,h10,h11,h12,eqT h13]
     refine aq gb2 ?_
     simp(config:=cS)only[go_sem]
    ·obtain ⟨x03,g14,b2⟩:=ae b2
     obtain ⟨h15,h16,h17⟩:=al g14
     obtain ⟨h18,b2⟩|⟨h18,b2⟩:=af b2
     ·obtain ⟨h19,b2⟩:=ai b2
      obtain ⟨h20,b2⟩:=ai b2
      cases b2
      simp(config:=cS)only[go_sem,eqT h3,h5,h6,h7,eZt h8,h10,h11,h12,eqF h13,h15,h16,h17,eqT h18,eqT h19,eqT h20]
      refine aq gb2 ?_
      simp(config:=cS)only[go_sem]
     ·cases b2
      simp(config:=cS)only[go_sem,eqT h3,h5,h6,h7,eZt h8,h10,h11,h12,eqF h13,h15,h16,h17,eqF h18]
      refine aq gb2 ?_
      simp(config:=cS)only[go_sem]
   ·cases b2
    simp(config:=cS)only[go_sem,eqT h3,h5,h6,h7,eZf h8]
    refine aq gb2 ?_
    simp(config:=cS)only[go_sem]
  ·cases b2
   obtain rfl:=(ak gb2).symm
   try dsimp only at h
   cases h
   simp(config:=cS)only[go_sem,eqF h3]
def lm (g:Int)(h:List GNode)(i:List GTie)(j d:Int)(e f b:List Int):(Int × (List Int) × (List Int))→St
 | (k,a,c)=>⟨[(2,.ptr 128 1 0 0),(3,.ptr 192 1 0 0),(6,.ref 704 1 0 a.length),(7,.ref 768 1 0 c.length),(15,.ref 960 1 0 b.length),(16,.lit (.int .i64 g)),(17,.lit (.int .i64 k))],[(128,1,.var [.sl (ab GNode.encS h),.sl (ab GTie.enc i),.lit (.int .i64 j)]),(192,1,.var [.lit (.int .i64 d),.sl (ab eI e),.sl (ab eI f)]),(704,1,.row true (ab eI a)),(768,1,.row true (ab eI c)),(960,1,.row true (ab eI b))],2⟩
attribute [go_sem] lm
@[go_sem] def hi246_6:DT:=.i2 0 (.i2 1 (.i2 2 (.i2 3 (.i2 4 (.i2 5 (.i2 6 (.i2 7 (.i2 8 (.i2 9 (.i2 10 (.i2 11 (.i2 12 (.i2 13 .nil)))))))))))))
def Dc:Hint where
 acts:=fun _=>[]
 draws:=fun
  | 6=>⟨hi246_6,[[],[0],[],[2],[],[4],[],[4,5,6],[4,5,6,7],[4,5,6,7,8],[2,3,4,5,6,7,8,9],[2,3,4,5,6,7,8,9,10],.range 12,.range 13],.range 14⟩
  | _=>⟨.nil,[],[]⟩
theorem Nz (i:Nat):Dc.acts i=[]:=rfl
theorem NA (i:Nat):Dc.views i=none:=rfl
attribute [go_sem] Nz NA Tryz.ntmps246 Tryz.results246
@[go_sem] theorem PP:(Dc.draws 6).order=hi246_6:=rfl
theorem vu {s:GShow}{v1:GState}{res:(List Int) × (List Int)}(h:fZ s v1=some res):an Tryz.prog 246 [.agg (GShow.encS s),.agg (GState.encS v1)] [] (.tup [.ref 20000 1 0 res.1.length,.ref 20001 1 0 res.2.length]) [(20000,1,.row true (ab eI res.1)),(20001,1,.row true (ab eI res.2))]:=by
 refine aj (ra:=[.home 4,.home 5]) (md:=mdT) hT (hi:=Dc) Tryz.func246 rfl rfl (by decide +kernel) (by simp) ?_
 unfold fZ at h
 obtain ⟨r01,g1,h⟩:=ae h
 simp(config:=cS)only[go_sem]
 refine ag (wS g1) ?_
 obtain ⟨q05,l2,h⟩:=ae h
 simp(config:=cS)only[go_sem]
 refine ap (m1:=.mk) (m2:=.mk) [.nf [2,3,6,7,15,16,17] [128,192,704,768,960]] (lm ((r01.length:Nat):Int) s.nodes s.ties s.horizon v1.now v1.times v1.values r01) l2 ?_ ?_
 ·simp(config:=cS)only[go_sem]
 ·intro nb3 sb3 bb3 b3 gb3
  obtain ⟨v17_1,must_1,may_1⟩:=sb3
  unfold dK at b3
  try dsimp only at b3
  obtain ⟨h4,b3⟩|⟨h4,b3⟩:=af b3
  ·obtain ⟨x02,g5,b3⟩:=ae b3
   obtain ⟨h6,h7,h8⟩:=al g5
   obtain ⟨x03,g9,b3⟩:=ae b3
   obtain ⟨h10,h11,h12⟩:=al g9
   obtain ⟨x04,g13,b3⟩:=ae b3
   obtain ⟨h14,h15,h16⟩:=al g13
   obtain ⟨h17,b3⟩|⟨h17,b3⟩:=af b3
   ·obtain ⟨h18,b3⟩:=ai b3
    obtain ⟨h19,b3⟩:=ai b3
    cases b3
    simp(config:=cS)only[go_sem,eqT h4,h6,h7,h8,h10,h11,h12,h14,h15,h16,eqT h17,eqT h18,eqT h19]
    refine aq gb3 ?_
    simp(config:=cS)only[go_sem]
   ·obtain ⟨h20,b3⟩|⟨h20,b3⟩:=af b3
    ·obtain ⟨h21,b3⟩:=ai b3
     obtain ⟨h22,b3⟩:=ai b3
     cases b3
     simp(config:=cS)only[go_sem,eqT h4,h6,h7,h8,h10,h11,h12,h14,h15,h16,eqF h17,eqT h20,eqT h21,eqT h22]
     refine aq gb3 ?_
     simp(config:=cS)only[go_sem]
    ·cases b3
     simp(config:=cS)only[go_sem,eqT h4,h6,h7,h8,h10,h11,h12,h14,h15,h16,eqF h17,eqF h20]
     refine aq gb3 ?_
     simp(config:=cS)only[go_sem]
  ·cases b3
   obtain rfl:=(ak gb3).symm
   try dsimp only at h
   cases h
   simp(config:=cS)only[go_sem,eqF h4]
def nG (n:Int)(d:List Int)(b:Int):(Int × (List Int))→St
 | (c,a)=>⟨[(1,.lit (.int .i64 n)),(5,.ref 512 1 0 a.length),(9,.sl (ab eI d)),(10,.lit (.int .i64 b)),(11,.lit (.int .i64 c))],[(512,1,.row true (ab eI a))],2⟩
attribute [go_sem] nG
attribute [go_sem] Tryz.ntmps248 Tryz.results248
theorem rH {l:List Int}{n:Int}{res:List Int}(h:gJ l n=some res):an Tryz.prog 248 [.sl (ab eI l),.lit (.int .i64 n)] [] (.ref 20000 1 0 res.length) [(20000,1,.row true (ab eI res))]:=by
 refine aj (ra:=[.home 4]) (md:=mdT) hT (hi:=hi00) Tryz.func248 rfl rfl (by decide +kernel) (by simp) ?_
 unfold gJ at h
 obtain ⟨q02,l1,h⟩:=ae h
 simp(config:=cS)only[go_sem]
 refine ap (m1:=.mk) (m2:=.mk) [.nf [1,5,9,10,11] [512]] (nG n l ((l.length:Nat):Int)) l1 ?_ ?_
 ·simp(config:=cS)only[go_sem]
 ·intro nb2 sb2 bb2 b2 gb2
  obtain ⟨v11_1,out_1⟩:=sb2
  unfold ga at b2
  try dsimp only at b2
  obtain ⟨h3,b2⟩|⟨h3,b2⟩:=af b2
  ·obtain ⟨x01,g4,b2⟩:=ae b2
   obtain ⟨h5,h6,h7⟩:=al g4
   obtain ⟨h8,b2⟩:=ai b2
   obtain ⟨h9,b2⟩|⟨h9,b2⟩:=af b2
   ·obtain ⟨h10,b2⟩:=ai b2
    obtain ⟨h11,b2⟩:=ai b2
    cases b2
    simp(config:=cS)only[go_sem,eqT h3,h5,h6,h7,eqF h8,eqT h9,eqT h10,eqT h11]
    refine aq gb2 ?_
    simp(config:=cS)only[go_sem]
   ·cases b2
    simp(config:=cS)only[go_sem,eqT h3,h5,h6,h7,eqF h8,eqF h9]
    refine aq gb2 ?_
    simp(config:=cS)only[go_sem]
  ·cases b2
   obtain rfl:=(ak gb2).symm
   try dsimp only at h
   cases h
   simp(config:=cS)only[go_sem,eqF h3]
def mD (a b:List Int):(Int × Int × (List Int))→St
 | (i,k,c)=>⟨[(0,.sl (ab eI a)),(1,.sl (ab eI b)),(5,.ref 512 1 0 c.length),(6,.lit (.int .i64 i)),(7,.lit (.int .i64 k))],[(512,1,.row true (ab eI c))],2⟩
attribute [go_sem] mD
@[go_sem] def hi247_5:DT:=.i2 0 (.i2 1 (.i2 2 (.i2 3 (.i2 4 (.i2 5 (.i2 6 (.i2 7 (.i2 8 (.i2 9 (.i2 10 (.i2 11 (.i2 12 (.i2 13 (.i2 14 (.i2 15 (.i2 16 (.i2 17 (.i2 18 (.i2 19 (.i2 20 .nil))))))))))))))))))))
def Dd:Hint where
 acts:=fun _=>[]
 draws:=fun
  | 5=>⟨hi247_5,[[],[],[1],[0,1,2],[0,1,2,3],.range 5,.range 5,[0,1,2,3,4,6],.range 8,.range 9,.range 10,.range 10,.range 12,.range 13,.range 10,.range 10,[0,1,2,3,4,5,6,7,8,9,14,15],[0,1,2,3,4,5,6,7,8,9,14,15,16],.range 18,.range 19,.range 20],.range 21⟩
  | _=>⟨.nil,[],[]⟩
theorem NB (i:Nat):Dd.acts i=[]:=rfl
theorem NC (i:Nat):Dd.views i=none:=rfl
attribute [go_sem] NB NC Tryz.ntmps247 Tryz.results247
@[go_sem] theorem PQ:(Dd.draws 5).order=hi247_5:=rfl
theorem yU {a b res:List Int}(h:fK a b=some res):an Tryz.prog 247 [.sl (ab eI a),.sl (ab eI b)] [] (.ref 20000 1 0 res.length) [(20000,1,.row true (ab eI res))]:=by
 refine aj (ra:=[.home 4]) (md:=mdT) hT (hi:=Dd) Tryz.func247 rfl rfl (by decide +kernel) (by simp) ?_
 unfold fK at h
 obtain ⟨q06,l1,h⟩:=ae h
 simp(config:=cS)only[go_sem]
 refine ap (m1:=.mk) (m2:=.mk) [.nf [0,1,5,6,7] [512]] (mD a b) l1 ?_ ?_
 ·simp(config:=cS)only[go_sem]
 ·intro nb2 sb2 bb2 b2 gb2
  obtain ⟨i_1,k_1,out_1⟩:=sb2
  unfold fm at b2
  try dsimp only at b2
  obtain ⟨h3,b2⟩|⟨h3,b2⟩:=af b2
  ·obtain ⟨h4,b2⟩|⟨h4,b2⟩:=af b2
   ·obtain ⟨x01,g5,b2⟩:=ae b2
    obtain ⟨h6,h7,h8⟩:=al g5
    obtain ⟨h9,b2⟩:=ai b2
    obtain ⟨h10,b2⟩:=ai b2
    cases b2
    simp(config:=cS)only[go_sem,eqT h3,eqT h4,h6,h7,h8,eqT h9,eqT h10]
    refine aq gb2 ?_
    simp(config:=cS)only[go_sem]
   ·obtain ⟨x02,g11,b2⟩:=ae b2
    obtain ⟨h12,h13,h14⟩:=al g11
    obtain ⟨x03,g15,b2⟩:=ae b2
    obtain ⟨h16,h17,h18⟩:=al g15
    obtain ⟨h19,b2⟩|⟨h19,b2⟩:=af b2
    ·obtain ⟨h20,b2⟩:=ai b2
     obtain ⟨h21,b2⟩:=ai b2
     cases b2
     simp(config:=cS)only[go_sem,eqT h3,eqF h4,h12,h13,h14,h16,h17,h18,eqT h19,eqT h20,eqT h21]
     refine aq gb2 ?_
     simp(config:=cS)only[go_sem]
    ·obtain ⟨h22,b2⟩:=ai b2
     obtain ⟨h23,b2⟩:=ai b2
     cases b2
     simp(config:=cS)only[go_sem,eqT h3,eqF h4,h12,h13,h14,h16,h17,h18,eqF h19,eqT h22,eqT h23]
     refine aq gb2 ?_
     simp(config:=cS)only[go_sem]
  ·obtain ⟨h24,b2⟩|⟨h24,b2⟩:=af b2
   ·obtain ⟨h25,b2⟩|⟨h25,b2⟩:=af b2
    ·obtain ⟨x04,g26,b2⟩:=ae b2
     obtain ⟨h27,h28,h29⟩:=al g26
     obtain ⟨h30,b2⟩:=ai b2
     obtain ⟨h31,b2⟩:=ai b2
     cases b2
     simp(config:=cS)only[go_sem,eqF h3,eqT h24,eqT h25,h27,h28,h29,eqT h30,eqT h31]
     refine aq gb2 ?_
     simp(config:=cS)only[go_sem]
    ·obtain ⟨x05,g32,b2⟩:=ae b2
     obtain ⟨h33,h34,h35⟩:=al g32
     obtain ⟨h36,b2⟩:=ai b2
     obtain ⟨h37,b2⟩:=ai b2
     cases b2
     simp(config:=cS)only[go_sem,eqF h3,eqT h24,eqF h25,h33,h34,h35,eqT h36,eqT h37]
     refine aq gb2 ?_
     simp(config:=cS)only[go_sem]
   ·cases b2
    obtain rfl:=(ak gb2).symm
    try dsimp only at h
    cases h
    simp(config:=cS)only[go_sem,eqF h3,eqF h24]
def lB (a b:List Int):(Int × (List (List Int)))→St
 | (n,c)=>⟨[(5,.ref 1472 1 0 a.length),(6,.ref 1473 1 0 b.length),(7,.ref 1664 1 0 c.length),(8,.lit (.int .i64 n))],[(1472,1,.row true (ab eI a)),(1473,1,.row true (ab eI b)),(1664,1,.row true (ab (eLO eI) c))],2⟩
attribute [go_sem] lB
attribute [go_sem] Tryz.ntmps169 Tryz.results169
theorem wT {s:GShow}{v1:GState}{res:List (List Int)}(h:eV s v1=some res):an Tryz.prog 169 [.agg (GShow.encS s),.agg (GState.encS v1)] [] (.ref 20000 1 0 res.length) [(20000,1,.row true (ab (eLO eI) res))]:=by
 refine aj (ra:=[.home 4]) (md:=mdT) hT (hi:=hi00) Tryz.func169 rfl rfl (by decide +kernel) (by simp) ?_
 unfold eV at h
 obtain ⟨r01,g1,h⟩:=ae h
 simp(config:=cS)only[go_sem]
 refine ag (rG g1) ?_
 obtain ⟨h2,h⟩|⟨h2,h⟩:=af h
 ·obtain ⟨h3,h⟩|⟨h3,h⟩:=af h
  ·cases h
   simp(config:=cS)only[go_sem,eZt h2,eqT h3]
  ·obtain ⟨r02,g4,h⟩:=ae h
   simp(config:=cS)only[go_sem,eZt h2,eqF h3]
   refine ag (vu g4) ?_
   obtain ⟨q05,l5,h⟩:=ae h
   simp(config:=cS)only[go_sem]
   refine ap (m1:=.mk) (m2:=.mk) [.nf [5,6,7,8] [1472,1473,1664]] (lB r02.1 r02.2) l5 ?_ ?_
   ·simp(config:=cS)only[go_sem]
   ·intro nb6 sb6 bb6 b6 gb6
    obtain ⟨n_1,out_1⟩:=sb6
    unfold ew at b6
    try dsimp only at b6
    obtain ⟨h7,b6⟩:=ai b6
    obtain ⟨h8,b6⟩|⟨h8,b6⟩:=af b6
    ·obtain ⟨r03,g9,b6⟩:=ae b6
     simp(config:=cS)only[go_sem,eqF h7,eqT h8]
     refine ag (rH g9) ?_
     obtain ⟨r04,g10,b6⟩:=ae b6
     simp(config:=cS)only[go_sem]
     refine ag (yU g10) ?_
     obtain ⟨h11,b6⟩:=ai b6
     obtain ⟨h12,b6⟩:=ai b6
     cases b6
     simp(config:=cS)only[go_sem,eqT h11,eqT h12]
     refine aq gb6 ?_
     simp(config:=cS)only[go_sem]
    ·cases b6
     obtain rfl:=(ak gb6).symm
     try dsimp only at h
     cases h
     simp(config:=cS)only[go_sem,eqF h7,eqF h8]
 ·cases h
  simp(config:=cS)only[go_sem,eZf h2]
def ph (a:List Int)(b:List (List Int))(c d:Int):St:=⟨[(1,.sl (ab eI a)),(7,.sl (ab (eLS eI) b)),(8,.lit (.int .i64 c)),(9,.lit (.int .i64 d))],[],2⟩
attribute [go_sem] ph
attribute [go_sem] Tryz.ntmps307 Tryz.results307
theorem ub {l:List (List Int)}{set:List Int}{res:Bool}(h:jo l set=some res):an Tryz.prog 307 [.sl (ab (eLS eI) l),.sl (ab eI set)] [] (.lit (.bool res)) []:=by
 refine aj (ra:=[]) (md:=mdT) hT (hi:=hi00) Tryz.func307 rfl rfl (by decide +kernel) (by simp) ?_
 unfold jo at h
 obtain ⟨q03,l1,h⟩:=ae h
 simp(config:=cS)only[go_sem]
 refine ap (m1:=.mk) (m2:=.mk) [.nf [1,7,8,9] []] (ph set l ((l.length:Nat):Int)) l1 ?_ ?_
 ·simp(config:=cS)only[go_sem]
 ·intro nb2 v9_1 bb2 b2 gb2
  unfold fL at b2
  try dsimp only at b2
  obtain ⟨h3,b2⟩|⟨h3,b2⟩:=af b2
  ·obtain ⟨x01,g4,b2⟩:=ae b2
   obtain ⟨h5,h6,h7⟩:=al g4
   obtain ⟨r02,g8,b2⟩:=ae b2
   simp(config:=cS)only[go_sem,eqT h3,h5,h6,h7]
   refine ag (rD g8) ?_
   obtain ⟨h9,b2⟩|⟨h9,b2⟩:=af b2
   ·cases b2
    obtain rfl:=(ak gb2).symm
    try dsimp only at h
    cases h
    simp(config:=cS)only[go_sem,eZt h9]
   ·cases b2
    simp(config:=cS)only[go_sem,eZf h9]
    refine aq gb2 ?_
    simp(config:=cS)only[go_sem]
  ·cases b2
   obtain rfl:=(ak gb2).symm
   try dsimp only at h
   cases h
   simp(config:=cS)only[go_sem,eqF h3]
@[go_sem] def hi269_1:DT:=.i1 0 (.i1 1 (.i1 3 (.i1 4 (.i1 7 (.i1 8 (.fork (.i0 2 [0,1,3,4,7,8] (.fork (.i0 5 [0,1,7,8] (.i0 6 [0,1,3,4,7,8] (.i0 9 [0,1] (.i2 10 (.i2 11 .nil))))) (.i0 6 [0,1,3,4,7,8] (.i0 5 [0,1,7,8] (.i0 9 [0,1] (.i2 10 (.i2 11 .nil))))))) (.i0 6 [0,1,3,4,7,8] (.i0 2 [0,1,3,4,7,8] (.i0 5 [0,1,7,8] (.i0 9 [0,1] (.i2 10 (.i2 11 .nil))))))))))))
def De:Hint where
 acts:=fun _=>[]
 draws:=fun
  | 1=>⟨hi269_1,[[],[0],[],[],[3],[2,3,4],[],[],[7],[2,3,4,5,6,7,8],.range 10,.range 11],.range 12⟩
  | _=>⟨.nil,[],[]⟩
theorem ND (i:Nat):De.acts i=[]:=rfl
theorem NE (i:Nat):De.views i=none:=rfl
attribute [go_sem] ND NE Tryz.ntmps269 Tryz.results269
@[go_sem] theorem PS:(De.draws 1).order=hi269_1:=rfl
theorem kZ {v0 res:GState}(h:dw v0=some res):an Tryz.prog 269 [.agg (GState.encS v0)] [] (.agg [.lit (.int .i64 res.now),.ref 20000 1 0 res.times.length,.ref 20001 1 0 res.values.length]) [(20000,1,.row true (ab eI res.times)),(20001,1,.row true (ab eI res.values))]:=by
 refine aj (ra:=[.homeCell 128 1,.homeCell 128 2]) (md:=mdT) hT (hi:=De) Tryz.func269 rfl rfl (by decide +kernel) (by simp) ?_
 unfold dw at h
 try simp(config:=cS)only[go_sem]
 refine fi ?_ ?_
 ·try simp(config:=cS)only[go_sem]
  refine fi ?_ ?_
  ·obtain ⟨h1,h⟩:=ai h
   obtain ⟨h2,h⟩:=ai h
   obtain ⟨h3,h⟩:=ai h
   obtain ⟨h4,h⟩:=ai h
   cases h
   simp(config:=cS)only[go_sem,eqT h1,eqT h2,eqT h3,eqT h4]
  ·obtain ⟨h5,h⟩:=ai h
   obtain ⟨h6,h⟩:=ai h
   obtain ⟨h7,h⟩:=ai h
   obtain ⟨h8,h⟩:=ai h
   cases h
   simp(config:=cS)only[go_sem,eqT h5,eqT h6,eqT h7,eqT h8]
 ·obtain ⟨h9,h⟩:=ai h
  obtain ⟨h10,h⟩:=ai h
  obtain ⟨h11,h⟩:=ai h
  obtain ⟨h12,h⟩:=ai h
  cases h
  simp(config:=cS)only[go_sem,eqT h9,eqT h10,eqT h11,eqT h12]
def og (g:List Int)(h:Int)(i:List GNode)(j:List GTie)(k d:Int)(e f:List Int)(c:Int)(a:List Int):(Int × (List Int))→St
 | (l,b)=>⟨[(3,.ptr 192 1 0 0),(4,.ptr 256 1 0 0),(6,.ptr 384 1 0 0),(7,.ptr 448 1 0 0),(12,.sl (ab eI g)),(13,.lit (.int .i64 h)),(14,.lit (.int .i64 l))],[(192,1,.var [.sl (ab GNode.encS i),.sl (ab GTie.enc j),.lit (.int .i64 k)]),(256,1,.var [.lit (.int .i64 d),.sl (ab eI e),.sl (ab eI f)]),(384,1,.var [.lit (.int .i64 0),.lit (.slice none 0 0),.lit (.slice none 0 0)]),(448,1,.var [.lit (.int .i64 c),.ref 704 1 0 b.length,.ref 705 1 0 a.length]),(704,1,.row true (ab eI b)),(705,1,.row true (ab eI a))],2⟩
attribute [go_sem] og
@[go_sem] def hi308_5:DT:=.i2 0 (.i2 1 (.i2 2 (.i2 3 (.i2 4 (.i2 5 (.i2 6 (.i2 7 (.i2 8 (.i2 9 (.i2 10 (.i2 11 .nil)))))))))))
def Df:Hint where
 acts:=fun _=>[]
 draws:=fun
  | 5=>⟨hi308_5,[[],[0],[],[2],[],[2,3,4],[2,3,4,5],[2,3,4,5,6],[],[8],.range 10,.range 11],.range 12⟩
  | _=>⟨.nil,[],[]⟩
theorem NF (i:Nat):Df.acts i=[]:=rfl
theorem NG (i:Nat):Df.views i=none:=rfl
attribute [go_sem] NF NG Tryz.ntmps308 Tryz.results308
@[go_sem] theorem PT:(Df.draws 5).order=hi308_5:=rfl
theorem Cn {s:GShow}{v1:GState}{ties:List Int}{res:GState}(h:kb s v1 ties=some res):an Tryz.prog 308 [.agg (GShow.encS s),.agg (GState.encS v1),.sl (ab eI ties)] [] (.agg [.lit (.int .i64 res.now),.ref 20000 1 0 res.times.length,.ref 20001 1 0 res.values.length]) [(20000,1,.row true (ab eI res.times)),(20001,1,.row true (ab eI res.values))]:=by
 refine aj (ra:=[.homeCell 384 1,.homeCell 384 2]) (md:=mdT) hT (hi:=Df) Tryz.func308 rfl rfl (by decide +kernel) (by simp) ?_
 unfold kb at h
 obtain ⟨r01,g1,h⟩:=ae h
 simp(config:=cS)only[go_sem]
 refine ag (kZ g1) ?_
 obtain ⟨q05,l2,h⟩:=ae h
 simp(config:=cS)only[go_sem]
 refine ap (m1:=.mk) (m2:=.mk) [.nf [3,4,6,7,12,13,14] [192,256,384,448,704,705]] (og ties ((ties.length:Nat):Int) s.nodes s.ties s.horizon v1.now v1.times v1.values r01.now r01.values) l2 ?_ ?_
 ·simp(config:=cS)only[go_sem]
 ·intro nb3 sb3 bb3 b3 gb3
  obtain ⟨v14_1,h704_1⟩:=sb3
  unfold gQ at b3
  try dsimp only at b3
  obtain ⟨h4,b3⟩|⟨h4,b3⟩:=af b3
  ·obtain ⟨x02,g5,b3⟩:=ae b3
   obtain ⟨h6,h7,h8⟩:=al g5
   obtain ⟨x03,g9,b3⟩:=ae b3
   obtain ⟨h10,h11,h12⟩:=al g9
   obtain ⟨x04,g13,b3⟩:=ae b3
   obtain ⟨h14,h15,h16⟩:=al g13
   cases b3
   simp(config:=cS)only[go_sem,eqT h4,h6,h7,h8,h10,h11,h12,h14,h15,h16]
   refine aq gb3 ?_
   simp(config:=cS)only[go_sem]
  ·cases b3
   obtain rfl:=(ak gb3).symm
   try dsimp only at h
   cases h
   simp(config:=cS)only[go_sem,eqF h4]
attribute [go_sem] Tryz.ntmps280 Tryz.results280
theorem td {s:GShow}{v1:GState}{ties:List Int}{res:GState × Bool}(h:ex s v1 ties=some res):an Tryz.prog 280 [.agg (GShow.encS s),.agg (GState.encS v1),.sl (ab eI ties)] [] (.tup [.agg [.lit (.int .i64 res.1.now),.ref 20000 1 0 res.1.times.length,.ref 20001 1 0 res.1.values.length],.lit (.bool res.2)]) [(20000,1,.row true (ab eI res.1.times)),(20001,1,.row true (ab eI res.1.values))]:=by
 refine aj (ra:=[.homeCell 384 1,.homeCell 384 2]) (md:=mdT) hT (hi:=hi00) Tryz.func280 rfl rfl (by decide +kernel) (by simp) ?_
 unfold ex at h
 obtain ⟨r01,g1,h⟩:=ae h
 simp(config:=cS)only[go_sem]
 refine ag (wT g1) ?_
 obtain ⟨r02,g2,h⟩:=ae h
 simp(config:=cS)only[go_sem]
 refine ag (ub g2) ?_
 obtain ⟨h3,h⟩|⟨h3,h⟩:=af h
 ·obtain ⟨r03,g4,h⟩:=ae h
  simp(config:=cS)only[go_sem,eZt h3]
  refine ag (Cn g4) ?_
  cases h
  simp(config:=cS)only[go_sem]
 ·cases h
  simp(config:=cS)only[go_sem,eZf h3]
attribute [go_sem] Tryz.ntmps311 Tryz.results311
theorem yV {s:GShow}{v1:GState}{res:Bool}(h:ir s v1=some res):an Tryz.prog 311 [.agg (GShow.encS s),.agg (GState.encS v1)] [] (.lit (.bool res)) []:=by
 refine aj (ra:=[]) (md:=mdT) hT (hi:=hi00) Tryz.func311 rfl rfl (by decide +kernel) (by simp) ?_
 unfold ir at h
 obtain ⟨r01,g1,h⟩:=ae h
 simp(config:=cS)only[go_sem]
 refine ag (ck g1) ?_
 obtain ⟨h2,h⟩|⟨h2,h⟩:=af h
 ·obtain ⟨r02,g3,h⟩:=ae h
  simp(config:=cS)only[go_sem,eZt h2]
  refine ag (lZ g3) ?_
  obtain ⟨h4,h⟩|⟨h4,h⟩:=af h
  ·obtain ⟨h5,h⟩|⟨h5,h⟩:=af h
   ·cases h
    simp(config:=cS)only[go_sem,eZt h2,eZt h4,eqT h5]
   ·obtain ⟨r03,g6,h⟩:=ae h
    simp(config:=cS)only[go_sem,eZt h2,eZt h4,eqF h5]
    refine ag (kZ g6) ?_
    obtain ⟨r04,g7,h⟩:=ae h
    simp(config:=cS)only[go_sem,eZt h2,eZt h4,eqF h5]
    refine ag (rG g7) ?_
    cases h
    simp(config:=cS)only[go_sem,eZt h2,eZt h4,eqF h5]
  ·cases h
   simp(config:=cS)only[go_sem,eZt h2,eZf h4]
 ·cases h
  simp(config:=cS)only[go_sem,eZf h2]
def mE (v d:List Int)(a:Int):(Int × Int)→St
 | (b,c)=>⟨[(1,.sl (ab eI v)),(5,.lit (.int .i64 b)),(9,.sl (ab eI d)),(10,.lit (.int .i64 a)),(11,.lit (.int .i64 c))],[],2⟩
attribute [go_sem] mE
attribute [go_sem] Tryz.ntmps116 Tryz.results116
theorem yW {l v:List Int}{res:Int}(h:iu l v=some res):an Tryz.prog 116 [.sl (ab eI l),.sl (ab eI v)] [] (.lit (.int .i64 res)) []:=by
 refine aj (ra:=[]) (md:=mdT) hT (hi:=hi00) Tryz.func116 rfl rfl (by decide +kernel) (by simp) ?_
 unfold iu at h
 obtain ⟨q04,l1,h⟩:=ae h
 simp(config:=cS)only[go_sem]
 refine ap (m1:=.mk) (m2:=.mk) [.nf [1,5,9,10,11] []] (mE v l ((l.length:Nat):Int)) l1 ?_ ?_
 ·simp(config:=cS)only[go_sem]
 ·intro nb2 sb2 bb2 b2 gb2
  obtain ⟨out_1,v11_1⟩:=sb2
  unfold fo at b2
  try dsimp only at b2
  obtain ⟨h3,b2⟩|⟨h3,b2⟩:=af b2
  ·obtain ⟨x01,g4,b2⟩:=ae b2
   obtain ⟨h5,h6,h7⟩:=al g4
   obtain ⟨r02,g8,b2⟩:=ae b2
   simp(config:=cS)only[go_sem,eqT h3,h5,h6,h7]
   refine ag (kX g8) ?_
   obtain ⟨x03,g9,b2⟩:=ae b2
   obtain ⟨h10,h11,h12⟩:=al g9
   obtain ⟨h13,b2⟩|⟨h13,b2⟩:=af b2
   ·cases b2
    simp(config:=cS)only[go_sem,h10,h11,h12,eqT h13]
    refine aq gb2 ?_
    simp(config:=cS)only[go_sem]
   ·cases b2
    simp(config:=cS)only[go_sem,h10,h11,h12,eqF h13]
    refine aq gb2 ?_
    simp(config:=cS)only[go_sem]
  ·cases b2
   obtain rfl:=(ak gb2).symm
   try dsimp only at h
   cases h
   simp(config:=cS)only[go_sem,eqF h3]
def ln (a:List GNode)(f:Int)(g:List GTie)(h c:Int)(d e:List Int):(Int × (List Int))→St
 | (i,b)=>⟨[(2,.ptr 128 1 0 0),(3,.ptr 192 1 0 0),(5,.ref 512 1 0 b.length),(10,.sl (ab GNode.encS a)),(11,.lit (.int .i64 f)),(12,.lit (.int .i64 i))],[(128,1,.var [.sl (ab GNode.encS a),.sl (ab GTie.enc g),.lit (.int .i64 h)]),(192,1,.var [.lit (.int .i64 c),.sl (ab eI d),.sl (ab eI e)]),(512,1,.row true (ab eI b))],2⟩
attribute [go_sem] ln
attribute [go_sem] Tryz.ntmps312 Tryz.results312
theorem vw {s:GShow}{v1:GState}{res:List Int}(h:gb s v1=some res):an Tryz.prog 312 [.agg (GShow.encS s),.agg (GState.encS v1)] [] (.ref 20000 1 0 res.length) [(20000,1,.row true (ab eI res))]:=by
 refine aj (ra:=[.home 4]) (md:=mdT) hT (hi:=hi00) Tryz.func312 rfl rfl (by decide +kernel) (by simp) ?_
 unfold gb at h
 obtain ⟨q05,l1,h⟩:=ae h
 simp(config:=cS)only[go_sem]
 refine ap (m1:=.mk) (m2:=.mk) [.nf [2,3,5,10,11,12] [128,192,512]] (ln s.nodes ((s.nodes.length:Nat):Int) s.ties s.horizon v1.now v1.times v1.values) l1 ?_ ?_
 ·simp(config:=cS)only[go_sem]
 ·intro nb2 sb2 bb2 b2 gb2
  obtain ⟨v12_1,out_1⟩:=sb2
  unfold dL at b2
  try dsimp only at b2
  obtain ⟨h3,b2⟩|⟨h3,b2⟩:=af b2
  ·obtain ⟨x01,g4,b2⟩:=ae b2
   obtain ⟨h5,h6,h7⟩:=al g4
   obtain ⟨h8,b2⟩|⟨h8,b2⟩:=af b2
   ·obtain ⟨r02,g9,b2⟩:=ae b2
    simp(config:=cS)only[go_sem,eqT h3,h5,h6,h7,eqT h8]
    refine ag (rE g9) ?_
    obtain ⟨h10,b2⟩|⟨h10,b2⟩:=af b2
    ·obtain ⟨x03,g11,b2⟩:=ae b2
     obtain ⟨h12,h13,h14⟩:=al g11
     obtain ⟨h15,b2⟩|⟨h15,b2⟩:=af b2
     ·obtain ⟨r04,g16,b2⟩:=ae b2
      simp(config:=cS)only[go_sem,eqT h10,h12,h13,h14,eqT h15]
      refine ag (yW g16) ?_
      obtain ⟨h17,b2⟩|⟨h17,b2⟩:=af b2
      ·obtain ⟨h18,b2⟩:=ai b2
       obtain ⟨h19,b2⟩:=ai b2
       cases b2
       simp(config:=cS)only[go_sem,eqT h17,eqT h18,eqT h19]
       refine aq gb2 ?_
       simp(config:=cS)only[go_sem]
      ·cases b2
       simp(config:=cS)only[go_sem,eqF h17]
       refine aq gb2 ?_
       simp(config:=cS)only[go_sem]
     ·cases b2
      simp(config:=cS)only[go_sem,eqT h10,h12,h13,h14,eqF h15]
      refine aq gb2 ?_
      simp(config:=cS)only[go_sem]
    ·cases b2
     simp(config:=cS)only[go_sem,eqF h10]
     refine aq gb2 ?_
     simp(config:=cS)only[go_sem]
   ·cases b2
    simp(config:=cS)only[go_sem,eqT h3,h5,h6,h7,eqF h8]
    refine aq gb2 ?_
    simp(config:=cS)only[go_sem]
  ·cases b2
   obtain rfl:=(ak gb2).symm
   try dsimp only at h
   cases h
   simp(config:=cS)only[go_sem,eqF h3]
def kH (l:List Int):(Int × (List (List Int)))→St
 | (n,a)=>⟨[(5,.ref 896 1 0 l.length),(6,.ref 960 1 0 a.length),(7,.lit (.int .i64 n))],[(896,1,.row true (ab eI l)),(960,1,.row true (ab (eLO eI) a))],2⟩
attribute [go_sem] kH
attribute [go_sem] Tryz.ntmps288 Tryz.results288
theorem uc {s:GShow}{v1:GState}{res:List (List Int)}(h:fq s v1=some res):an Tryz.prog 288 [.agg (GShow.encS s),.agg (GState.encS v1)] [] (.ref 20000 1 0 res.length) [(20000,1,.row true (ab (eLO eI) res))]:=by
 refine aj (ra:=[.home 4]) (md:=mdT) hT (hi:=hi00) Tryz.func288 rfl rfl (by decide +kernel) (by simp) ?_
 unfold fq at h
 obtain ⟨r01,g1,h⟩:=ae h
 simp(config:=cS)only[go_sem]
 refine ag (yV g1) ?_
 obtain ⟨h2,h⟩|⟨h2,h⟩:=af h
 ·obtain ⟨r02,g3,h⟩:=ae h
  simp(config:=cS)only[go_sem,eZt h2]
  refine ag (vw g3) ?_
  obtain ⟨h4,h⟩:=ai h
  obtain ⟨q04,l5,h⟩:=ae h
  simp(config:=cS)only[go_sem,eqF h4]
  refine ap (m1:=.mk) (m2:=.mk) [.nf [5,6,7] [896,960]] (kH r02) l5 ?_ ?_
  ·simp(config:=cS)only[go_sem]
  ·intro nb6 sb6 bb6 b6 gb6
   obtain ⟨n_1,out_1⟩:=sb6
   unfold dx at b6
   try dsimp only at b6
   obtain ⟨h7,b6⟩|⟨h7,b6⟩:=af b6
   ·obtain ⟨r03,g8,b6⟩:=ae b6
    simp(config:=cS)only[go_sem,eqT h7]
    refine ag (rH g8) ?_
    obtain ⟨h9,b6⟩:=ai b6
    obtain ⟨h10,b6⟩:=ai b6
    cases b6
    simp(config:=cS)only[go_sem,eqT h9,eqT h10]
    refine aq gb6 ?_
    simp(config:=cS)only[go_sem]
   ·cases b6
    obtain rfl:=(ak gb6).symm
    try dsimp only at h
    cases h
    simp(config:=cS)only[go_sem,eqF h7]
 ·cases h
  simp(config:=cS)only[go_sem,eZf h2]
def lC (a:List Int)(h:Int)(i:List GNode)(j:List GTie)(k e:Int)(f g:List Int)(d:Int)(b:List Int):(Int × (List Int))→St
 | (l,c)=>⟨[(2,.sl (ab eI a)),(3,.ptr 192 1 0 0),(4,.ptr 256 1 0 0),(6,.ptr 384 1 0 0),(8,.ptr 512 1 0 0),(15,.sl (ab eI a)),(16,.lit (.int .i64 h)),(17,.lit (.int .i64 l))],[(192,1,.var [.sl (ab GNode.encS i),.sl (ab GTie.enc j),.lit (.int .i64 k)]),(256,1,.var [.lit (.int .i64 e),.sl (ab eI f),.sl (ab eI g)]),(384,1,.var [.lit (.int .i64 0),.lit (.slice none 0 0),.lit (.slice none 0 0)]),(512,1,.var [.lit (.int .i64 d),.ref 896 1 0 c.length,.ref 897 1 0 b.length]),(896,1,.row true (ab eI c)),(897,1,.row true (ab eI b))],2⟩
attribute [go_sem] lC
def lD (d:List Int)(f:List GNode)(g:List GTie)(h e:Int)(b c:List Int):(Int × (List Int))→St
 | (p,a)=>⟨[(2,.sl (ab eI d)),(3,.ptr 192 1 0 0),(6,.ptr 384 1 0 0),(8,.ptr 512 1 0 0),(11,.ref 1792 1 0 a.length),(12,.lit (.int .i64 p))],[(192,1,.var [.sl (ab GNode.encS f),.sl (ab GTie.enc g),.lit (.int .i64 h)]),(384,1,.var [.lit (.int .i64 0),.lit (.slice none 0 0),.lit (.slice none 0 0)]),(512,1,.var [.lit (.int .i64 e),.ref 896 1 0 b.length,.ref 897 1 0 c.length]),(896,1,.row true (ab eI b)),(897,1,.row true (ab eI c)),(1792,1,.row true (ab eI a))],2⟩
attribute [go_sem] lD
attribute [go_sem] Tryz.ntmps290 Tryz.results290
theorem wU {s:GShow}{v1:GState}{nodes:List Int}{res:GState × (List Int)}(h:gR s v1 nodes=some res):an Tryz.prog 290 [.agg (GShow.encS s),.agg (GState.encS v1),.sl (ab eI nodes)] [] (.tup [.agg [.lit (.int .i64 res.1.now),.ref 20000 1 0 res.1.times.length,.ref 20001 1 0 res.1.values.length],.ref 20002 1 0 res.2.length]) [(20000,1,.row true (ab eI res.1.times)),(20001,1,.row true (ab eI res.1.values)),(20002,1,.row true (ab eI res.2))]:=by
 refine aj (ra:=[.homeCell 384 1,.homeCell 384 2,.home 7]) (md:=mdT) hT (hi:=hi00) Tryz.func290 rfl rfl (by decide +kernel) (by simp) ?_
 unfold gR at h
 obtain ⟨r01,g1,h⟩:=ae h
 simp(config:=cS)only[go_sem]
 refine ag (kZ g1) ?_
 obtain ⟨q07,l2,h⟩:=ae h
 simp(config:=cS)only[go_sem]
 refine ap (m1:=.mk) (m2:=.mk) [.nf [2,3,4,6,8,15,16,17] [192,256,384,512,896,897]] (lC nodes ((nodes.length:Nat):Int) s.nodes s.ties s.horizon v1.now v1.times v1.values r01.now r01.values) l2 ?_ ?_
 ·simp(config:=cS)only[go_sem]
 ·intro nb3 sb3 bb3 b3 gb3
  obtain ⟨v17_1,h896_1⟩:=sb3
  unfold ey at b3
  try dsimp only at b3
  obtain ⟨h4,b3⟩|⟨h4,b3⟩:=af b3
  ·obtain ⟨x02,g5,b3⟩:=ae b3
   obtain ⟨h6,h7,h8⟩:=al g5
   obtain ⟨x03,g9,b3⟩:=ae b3
   obtain ⟨h10,h11,h12⟩:=al g9
   cases b3
   simp(config:=cS)only[go_sem,eqT h4,h6,h7,h8,h10,h11,h12]
   refine aq gb3 ?_
   simp(config:=cS)only[go_sem]
  ·cases b3
   obtain rfl:=(ak gb3).symm
   try dsimp only at h
   obtain ⟨q06,l14,h⟩:=ae h
   simp(config:=cS)only[go_sem,eqF h4]
   refine ap (m1:=.mk) (m2:=.mk) [.nf [2,3,6,8,11,12] [192,384,512,896,897,1792]] (lD nodes s.nodes s.ties s.horizon r01.now h896_1 r01.values) l14 ?_ ?_
   ·simp(config:=cS)only[go_sem]
   ·intro nb15 sb15 bb15 b15 gb15
    obtain ⟨p_2,props_2⟩:=sb15
    unfold ez at b15
    try dsimp only at b15
    obtain ⟨h16,b15⟩|⟨h16,b15⟩:=af b15
    ·obtain ⟨r04,g17,b15⟩:=ae b15
     simp(config:=cS)only[go_sem,eqT h16]
     refine ag (iW g17) ?_
     obtain ⟨r05,g18,b15⟩:=ae b15
     simp(config:=cS)only[go_sem]
     refine ag (lY g18) ?_
     obtain ⟨h19,b15⟩|⟨h19,b15⟩:=af b15
     ·obtain ⟨h20,b15⟩:=ai b15
      obtain ⟨h21,b15⟩:=ai b15
      cases b15
      simp(config:=cS)only[go_sem,eZt h19,eqT h20,eqT h21]
      refine aq gb15 ?_
      simp(config:=cS)only[go_sem]
     ·cases b15
      simp(config:=cS)only[go_sem,eZf h19]
      refine aq gb15 ?_
      simp(config:=cS)only[go_sem]
    ·cases b15
     obtain rfl:=(ak gb15).symm
     try dsimp only at h
     cases h
     simp(config:=cS)only[go_sem,eqF h16]
attribute [go_sem] Tryz.ntmps281 Tryz.results281
theorem so {s:GShow}{v1:GState}{nodes:List Int}{res:GState × (List Int) × Bool}(h:gA s v1 nodes=some res):an Tryz.prog 281 [.agg (GShow.encS s),.agg (GState.encS v1),.sl (ab eI nodes)] [] (.tup [.agg [.lit (.int .i64 res.1.now),.ref 20000 1 0 res.1.times.length,.ref 20001 1 0 res.1.values.length],.ref 20002 1 0 res.2.1.length,.lit (.bool res.2.2)]) [(20000,1,.row true (ab eI res.1.times)),(20001,1,.row true (ab eI res.1.values)),(20002,1,.row true (ab eI res.2.1))]:=by
 refine aj (ra:=[.homeCell 384 1,.homeCell 384 2,.home 7]) (md:=mdT) hT (hi:=hi00) Tryz.func281 rfl rfl (by decide +kernel) (by simp) ?_
 unfold gA at h
 obtain ⟨r01,g1,h⟩:=ae h
 simp(config:=cS)only[go_sem]
 refine ag (uc g1) ?_
 obtain ⟨r02,g2,h⟩:=ae h
 simp(config:=cS)only[go_sem]
 refine ag (ub g2) ?_
 obtain ⟨h3,h⟩|⟨h3,h⟩:=af h
 ·obtain ⟨r03,g4,h⟩:=ae h
  simp(config:=cS)only[go_sem,eZt h3]
  refine ag (wU g4) ?_
  cases h
  simp(config:=cS)only[go_sem]
 ·cases h
  simp(config:=cS)only[go_sem,eZf h3]
def lE (a e:List Int)(f d:Int)(b:List Int):(Int × (List Int))→St
 | (g,c)=>⟨[(2,.sl (ab eI a)),(6,.ptr 384 1 0 0),(7,.ptr 448 1 0 0),(12,.sl (ab eI e)),(13,.lit (.int .i64 f)),(14,.lit (.int .i64 g))],[(384,1,.var [.lit (.int .i64 0),.lit (.slice none 0 0),.lit (.slice none 0 0)]),(448,1,.var [.lit (.int .i64 d),.ref 704 1 0 b.length,.ref 705 1 0 c.length]),(704,1,.row true (ab eI b)),(705,1,.row true (ab eI c))],2⟩
attribute [go_sem] lE
@[go_sem] def hi282_5:DT:=.i2 0 (.i2 1 (.i2 2 (.i2 3 (.i2 4 (.i2 5 (.i2 6 (.i2 7 (.i2 8 (.i2 9 .nil)))))))))
def Dg:Hint where
 acts:=fun _=>[]
 draws:=fun
  | 5=>⟨hi282_5,[[],[0],[],[2],[],[],[4,5],[4,5,6],.range 8,.range 9],.range 10⟩
  | _=>⟨.nil,[],[]⟩
theorem NH (i:Nat):Dg.acts i=[]:=rfl
theorem NI (i:Nat):Dg.views i=none:=rfl
attribute [go_sem] NH NI Tryz.ntmps282 Tryz.results282
@[go_sem] theorem PU:(Dg.draws 5).order=hi282_5:=rfl
theorem wV {v0:GState}{props values:List Int}{res:GState}(h:gS v0 props values=some res):an Tryz.prog 282 [.agg (GState.encS v0),.sl (ab eI props),.sl (ab eI values)] [] (.agg [.lit (.int .i64 res.now),.ref 20000 1 0 res.times.length,.ref 20001 1 0 res.values.length]) [(20000,1,.row true (ab eI res.times)),(20001,1,.row true (ab eI res.values))]:=by
 refine aj (ra:=[.homeCell 384 1,.homeCell 384 2]) (md:=mdT) hT (hi:=Dg) Tryz.func282 rfl rfl (by decide +kernel) (by simp) ?_
 unfold gS at h
 obtain ⟨r01,g1,h⟩:=ae h
 simp(config:=cS)only[go_sem]
 refine ag (kZ g1) ?_
 obtain ⟨q05,l2,h⟩:=ae h
 simp(config:=cS)only[go_sem]
 refine ap (m1:=.mk) (m2:=.mk) [.nf [2,6,7,12,13,14] [384,448,704,705]] (lE values props ((props.length:Nat):Int) r01.now r01.times) l2 ?_ ?_
 ·simp(config:=cS)only[go_sem]
 ·intro nb3 sb3 bb3 b3 gb3
  obtain ⟨v14_1,h705_1⟩:=sb3
  unfold eA at b3
  try dsimp only at b3
  obtain ⟨h4,b3⟩|⟨h4,b3⟩:=af b3
  ·obtain ⟨x02,g5,b3⟩:=ae b3
   obtain ⟨h6,h7,h8⟩:=al g5
   obtain ⟨x03,g9,b3⟩:=ae b3
   obtain ⟨h10,h11,h12⟩:=al g9
   obtain ⟨x04,g13,b3⟩:=ae b3
   obtain ⟨h14,h15,h16⟩:=al g13
   cases b3
   simp(config:=cS)only[go_sem,eqT h4,h6,h7,h8,h10,h11,h12,h14,h15,h16]
   refine aq gb3 ?_
   simp(config:=cS)only[go_sem]
  ·cases b3
   obtain rfl:=(ak gb3).symm
   try dsimp only at h
   cases h
   simp(config:=cS)only[go_sem,eqF h4]
def mF (e f:Int)(g h i:List Int)(j:Int)(b c d:List Int):(Int × (List Int))→St
 | (k,a)=>⟨[(5,.ptr 320 1 0 0),(6,.ptr 384 1 0 0),(10,.ptr 640 1 0 0),(11,.ref 2946 1 0 d.length),(13,.ref 3904 1 0 a.length),(62,.ref 2946 1 0 d.length),(63,.lit (.int .i64 e)),(64,.lit (.int .i64 k))],[(320,1,.var [.lit (.int .i64 f),.sl (ab eI g),.sl (ab eI h),.sl (ab eI i)]),(384,1,.var [.lit (.int .i64 0),.lit (.slice none 0 0),.lit (.slice none 0 0)]),(640,1,.var [.lit (.int .i64 j),.ref 2944 1 0 b.length,.ref 2945 1 0 c.length]),(2944,1,.row true (ab eI b)),(2945,1,.row true (ab eI c)),(2946,1,.row true (ab eI d)),(3904,1,.row true (ab eI a))],2⟩
attribute [go_sem] mF
attribute [go_sem] Tryz.ntmps235 Tryz.results235
theorem yX {s:GShow}{v1:GState}{e:GEntry}{res:GState × Bool}(h:dM s v1 e=some res):an Tryz.prog 235 [.agg (GShow.encS s),.agg (GState.encS v1),.agg (GEntry.encS e)] [] (.tup [.agg [.lit (.int .i64 res.1.now),.ref 20000 1 0 res.1.times.length,.ref 20001 1 0 res.1.values.length],.lit (.bool res.2)]) [(20000,1,.row true (ab eI res.1.times)),(20001,1,.row true (ab eI res.1.values))]:=by
 refine aj (ra:=[.homeCell 384 1,.homeCell 384 2]) (md:=mdT) hT (hi:=hi00) Tryz.func235 rfl rfl (by decide +kernel) (by simp) ?_
 unfold dM at h
 obtain ⟨r01,g1,h⟩:=ae h
 simp(config:=cS)only[go_sem]
 refine ag (td g1) ?_
 obtain ⟨h2,h⟩|⟨h2,h⟩:=af h
 ·obtain ⟨h3,h⟩|⟨h3,h⟩:=af h
  ·obtain ⟨r02,g4,h⟩:=ae h
   simp(config:=cS)only[go_sem,eZt h2,eqT h3]
   refine ag (kY g4) ?_
   obtain ⟨h5,h⟩|⟨h5,h⟩:=af h
   ·obtain ⟨r03,g6,h⟩:=ae h
    simp(config:=cS)only[go_sem,eZt h5]
    refine ag (so g6) ?_
    obtain ⟨h7,h⟩|⟨h7,h⟩:=af h
    ·obtain ⟨h8,h⟩|⟨h8,h⟩:=af h
     ·obtain ⟨q07,l9,h⟩:=ae h
      simp(config:=cS)only[go_sem,eZt h7,eqT h8]
      refine ap (m1:=.mk) (m2:=.mk) [.nf [5,6,10,11,13,62,63,64] [320,384,640,2944,2945,2946,3904]] (mF ((r03.2.1.length:Nat):Int) e.now e.ties e.nodes e.values r03.1.now r03.1.times r03.1.values r03.2.1) l9 ?_ ?_
      ·simp(config:=cS)only[go_sem]
      ·intro nb10 sb10 bb10 b10 gb10
       obtain ⟨v64_1,values_1⟩:=sb10
       unfold dy at b10
       try dsimp only at b10
       obtain ⟨h11,b10⟩|⟨h11,b10⟩:=af b10
       ·obtain ⟨x04,g12,b10⟩:=ae b10
        obtain ⟨h13,h14,h15⟩:=al g12
        obtain ⟨x05,g16,b10⟩:=ae b10
        obtain ⟨h17,h18,h19⟩:=al g16
        obtain ⟨h20,b10⟩|⟨h20,b10⟩:=af b10
        ·obtain ⟨h21,b10⟩:=ai b10
         obtain ⟨h22,b10⟩:=ai b10
         cases b10
         simp(config:=cS)only[go_sem,eqT h11,h13,h14,h15,h17,h18,h19,eqT h20,eqT h21,eqT h22]
         refine aq gb10 ?_
         simp(config:=cS)only[go_sem]
        ·obtain ⟨h23,b10⟩|⟨h23,b10⟩:=af b10
         ·obtain ⟨h24,b10⟩:=ai b10
          obtain ⟨h25,b10⟩:=ai b10
          cases b10
          simp(config:=cS)only[go_sem,eqT h11,h13,h14,h15,h17,h18,h19,eqF h20,eqT h23,eqT h24,eqT h25]
          refine aq gb10 ?_
          simp(config:=cS)only[go_sem]
         ·cases b10
          obtain rfl:=(ak gb10).symm
          try dsimp only at h
          cases h
          simp(config:=cS)only[go_sem,eqT h11,h13,h14,h15,h17,h18,h19,eqF h20,eqF h23]
       ·cases b10
        obtain rfl:=(ak gb10).symm
        try dsimp only at h
        obtain ⟨r06,g28,h⟩:=ae h
        simp(config:=cS)only[go_sem,eqF h11]
        refine ag (wV g28) ?_
        cases h
        simp(config:=cS)only[go_sem]
     ·cases h
      simp(config:=cS)only[go_sem,eZt h7,eqF h8]
    ·cases h
     simp(config:=cS)only[go_sem,eZf h7]
   ·cases h
    simp(config:=cS)only[go_sem,eZf h5]
  ·cases h
   simp(config:=cS)only[go_sem,eZt h2,eqF h3]
 ·cases h
  simp(config:=cS)only[go_sem,eZf h2]
def lF (d:List GEntry)(e:Int)(f:List GNode)(g:List GTie)(h:Int):(Int × Int × (List Int) × (List Int))→St
 | (i,c,a,b)=>⟨[(2,.ptr 128 1 0 0),(4,.ptr 256 1 0 0),(6,.ptr 384 1 0 0),(13,.sl (ab GEntry.encS d)),(14,.lit (.int .i64 e)),(15,.lit (.int .i64 i))],[(128,1,.var [.sl (ab GNode.encS f),.sl (ab GTie.enc g),.lit (.int .i64 h)]),(256,1,.var [.lit (.int .i64 0),.lit (.slice none 0 0),.lit (.slice none 0 0)]),(384,1,.var [.lit (.int .i64 c),.ref 768 1 0 a.length,.ref 769 1 0 b.length]),(768,1,.row true (ab eI a)),(769,1,.row true (ab eI b))],2⟩
attribute [go_sem] lF
@[go_sem] def hi148_10:DT:=.i1 0 (.i2 1 (.i0 2 [0] (.i2 3 (.i2 4 .nil))))
def Dh:Hint where
 acts:=fun _=>[]
 draws:=fun
  | 10=>⟨hi148_10,[[],[],[1],[0,1,2],[0,1,2,3]],.range 5⟩
  | _=>⟨.nil,[],[]⟩
theorem NJ (i:Nat):Dh.acts i=[]:=rfl
theorem NK (i:Nat):Dh.views i=none:=rfl
attribute [go_sem] NJ NK Tryz.ntmps148 Tryz.results148
@[go_sem] theorem PL:(Dh.draws 10).order=hi148_10:=rfl
theorem wW {s:GShow}{log:List GEntry}{res:GState × Bool}(h:dg s log=some res):an Tryz.prog 148 [.agg (GShow.encS s),.sl (ab GEntry.encS log)] [] (.tup [.agg [.lit (.int .i64 res.1.now),.ref 20000 1 0 res.1.times.length,.ref 20001 1 0 res.1.values.length],.lit (.bool res.2)]) [(20000,1,.row true (ab eI res.1.times)),(20001,1,.row true (ab eI res.1.values))]:=by
 refine aj (ra:=[.homeCell 256 1,.homeCell 256 2]) (md:=mdT) hT (hi:=Dh) Tryz.func148 rfl rfl (by decide +kernel) (by simp) ?_
 unfold dg at h
 obtain ⟨r01,g1,h⟩:=ae h
 simp(config:=cS)only[go_sem]
 refine ag (vt g1) ?_
 obtain ⟨q05,l2,h⟩:=ae h
 simp(config:=cS)only[go_sem]
 refine ap (m1:=.mk) (m2:=.mk) [.nfp [2,4,6,13,14,15] [(128,128),(256,256),(384,384),(1472,768),(768,768),(1473,769),(769,769)] []] (lF log ((log.length:Nat):Int) s.nodes s.ties s.horizon) l2 ?_ ?_
 ·simp(config:=cS)only[go_sem]
 ·intro nb3 sb3 bb3 b3 gb3
  obtain ⟨v15_1,v6_0_1,h768_1,h769_1⟩:=sb3
  unfold bZ at b3
  try dsimp only at b3
  obtain ⟨h4,b3⟩|⟨h4,b3⟩:=af b3
  ·obtain ⟨x02,g5,b3⟩:=ae b3
   obtain ⟨h6,h7,h8⟩:=al g5
   obtain ⟨r03,g9,b3⟩:=ae b3
   simp(config:=cS)only[go_sem,eqT h4,h6,h7,h8]
   refine ag (yX g9) ?_
   obtain ⟨h10,b3⟩|⟨h10,b3⟩:=af b3
   ·cases b3
    simp(config:=cS)only[go_sem,eZt h10]
    refine aq gb3 ?_
    simp(config:=cS)only[go_sem]
   ·cases b3
    obtain rfl:=(ak gb3).symm
    try dsimp only at h
    cases h
    simp(config:=cS)only[go_sem,eZf h10]
  ·cases b3
   obtain rfl:=(ak gb3).symm
   try dsimp only at h
   obtain ⟨r04,g13,h⟩:=ae h
   simp(config:=cS)only[go_sem,eqF h4]
   refine ag (lZ g13) ?_
   cases h
   simp(config:=cS)only[go_sem]
attribute [go_sem] Tryz.ntmps72 Tryz.results72
theorem wX {s:GShow}{log:List GEntry}{res:GState × Bool}(h:gT s log=some res):an Tryz.prog 72 [.agg (GShow.encS s),.sl (ab GEntry.encS log)] [] (.tup [.agg [.lit (.int .i64 res.1.now),.ref 20000 1 0 res.1.times.length,.ref 20001 1 0 res.1.values.length],.lit (.bool res.2)]) [(20000,1,.row true (ab eI res.1.times)),(20001,1,.row true (ab eI res.1.values))]:=by
 refine aj (ra:=[.homeCell 256 1,.homeCell 256 2]) (md:=mdT) hT (hi:=hi00) Tryz.func72 rfl rfl (by decide +kernel) (by simp) ?_
 unfold gT at h
 obtain ⟨r01,g1,h⟩:=ae h
 simp(config:=cS)only[go_sem]
 refine ag (wW g1) ?_
 obtain ⟨h2,h⟩|⟨h2,h⟩:=af h
 ·cases h
  simp(config:=cS)only[go_sem,eZt h2]
 ·cases h
  simp(config:=cS)only[go_sem,eZf h2]
def gy (d:List GNode)(e c:Int)(b:List GTie):(Int × (List GNode))→St
 | (f,a)=>⟨[(2,.ptr 128 1 0 0),(3,.ptr 192 1 0 0),(14,.sl (ab GNode.encS d)),(15,.lit (.int .i64 e)),(16,.lit (.int .i64 f))],[(128,1,.var [.lit (.slice none 0 0),.lit (.slice none 0 0),.lit (.int .i64 0)]),(192,1,.var [.ref 100012288 1 0 a.length,.ref 384 1 0 b.length,.lit (.int .i64 c)]),(100012288,1,.row true (ab GNode.encO a)),(384,1,.row true (ab GTie.enc b))],2⟩
attribute [go_sem] gy
@[go_sem] def hi83_5:DT:=.i1 0 (.i1 1 (.i1 2 (.i1 3 (.i1 5 (.i1 6 (.i1 8 (.i1 9 (.i0 4 [0,1,2,3,5,6,8,9] (.i0 7 [0,1,2,3,8,9] (.i2 10 (.i0 11 [0,1] (.i2 12 (.i2 13 (.i2 14 .nil))))))))))))))
@[go_sem] def hi83_1:DT:=.i1 1 (.i1 2 (.i1 4 (.i1 5 (.fork (.i0 0 [1,2,4,5] (.fork (.i0 3 [4,5] (.i2 6 (.i0 7 [1,2,4,5] (.i2 8 .nil)))) (.i0 7 [1,2,4,5] (.i0 3 [4,5] (.i2 6 (.i2 8 .nil)))))) (.i0 7 [1,2,4,5] (.i0 0 [1,2,4,5] (.i0 3 [4,5] (.i2 6 (.i2 8 .nil)))))))))
def hi83:Hint where
 acts:=fun _=>[]
 draws:=fun
  | 1=>⟨hi83_1,[[],[],[1],[0,1,2],[],[4],.range 6,[],.range 8],.range 9⟩
  | 5=>⟨hi83_5,[[],[0],[],[2],[],[],[5],[4,5,6],[],[8],[2,3,4,5,6,7,8,9],[2,3,4,5,6,7,8,9,10],.range 12,.range 13,.range 14],.range 15⟩
  | _=>⟨.nil,[],[]⟩
theorem Pc (i:Nat):hi83.acts i=[]:=rfl
theorem Pd (i:Nat):hi83.views i=none:=rfl
attribute [go_sem] Pc Pd Tryz.ntmps83 Tryz.results83
@[go_sem] theorem Qm:(hi83.draws 1).order=hi83_1:=rfl
@[go_sem] theorem Qn:(hi83.draws 5).order=hi83_5:=rfl
theorem Aw {s res:GShow}(h:jy s=some res):an Tryz.prog 83 [.agg (GShow.encS s)] [] (.agg [.ref 20000 1 0 res.nodes.length,.ref 20001 1 0 res.ties.length,.lit (.int .i64 res.horizon)]) [(20000,1,.row true (ab GNode.encO res.nodes)),(20001,1,.row true (ab GTie.enc res.ties))]:=by
 refine aj (ra:=[.homeCell 128 0,.homeCell 128 1]) (md:=mdT) hT (hi:=hi83) Tryz.func83 rfl rfl (by decide +kernel) (by simp) ?_
 unfold jy at h
 try simp(config:=cS)only[go_sem]
 refine fi ?_ ?_
 ·try simp(config:=cS)only[go_sem]
  refine fi ?_ ?_
  ·obtain ⟨h1,h⟩:=ai h
   obtain ⟨h2,h⟩:=ai h
   obtain ⟨q02,l3,h⟩:=ae h
   simp(config:=cS)only[go_sem,eqT h1,eqT h2]
   refine ap (m1:=.mk) (m2:=.mk) [.homeCell 192 0,.nf [2,3,14,15,16] [128,192,100012288,384]] (gy s.nodes ((s.nodes.length:Nat):Int) s.horizon s.ties) l3 ?_ ?_
   ·simp(config:=cS)only[go_sem]
   ·intro nb4 sb4 bb4 b4 gb4
    obtain ⟨v16_1,h100012288_1⟩:=sb4
    unfold cL at b4
    try dsimp only at b4
    obtain ⟨h5,b4⟩|⟨h5,b4⟩:=af b4
    ·obtain ⟨x01,g6,b4⟩:=ae b4
     obtain ⟨h7,h8,h9⟩:=al g6
     obtain ⟨h10,b4⟩:=ai b4
     obtain ⟨h11,b4⟩:=ai b4
     obtain ⟨h12,b4⟩:=ai b4
     obtain ⟨h13,b4⟩:=ai b4
     cases b4
     simp(config:=cS)only[go_sem,eqT h5,h7,h8,h9,eqT h10,eqT h11,eqT h12,eqT h13]
     refine aq gb4 ?_
     simp(config:=cS)only[go_sem]
    ·cases b4
     obtain rfl:=(ak gb4).symm
     try dsimp only at h
     cases h
     simp(config:=cS)only[go_sem,eqF h5]
  ·obtain ⟨h15,h⟩:=ai h
   obtain ⟨h16,h⟩:=ai h
   obtain ⟨q04,l17,h⟩:=ae h
   simp(config:=cS)only[go_sem,eqT h15,eqT h16]
   refine ap (m1:=.mk) (m2:=.mk) [.homeCell 192 0,.nf [2,3,14,15,16] [128,192,100012288,384]] (gy s.nodes ((s.nodes.length:Nat):Int) s.horizon s.ties) l17 ?_ ?_
   ·simp(config:=cS)only[go_sem]
   ·intro nb18 sb18 bb18 b18 gb18
    obtain ⟨v16_2,h100012288_2⟩:=sb18
    unfold cL at b18
    try dsimp only at b18
    obtain ⟨h19,b18⟩|⟨h19,b18⟩:=af b18
    ·obtain ⟨x03,g20,b18⟩:=ae b18
     obtain ⟨h21,h22,h23⟩:=al g20
     obtain ⟨h24,b18⟩:=ai b18
     obtain ⟨h25,b18⟩:=ai b18
     obtain ⟨h26,b18⟩:=ai b18
     obtain ⟨h27,b18⟩:=ai b18
     cases b18
     simp(config:=cS)only[go_sem,eqT h19,h21,h22,h23,eqT h24,eqT h25,eqT h26,eqT h27]
     refine aq gb18 ?_
     simp(config:=cS)only[go_sem]
    ·cases b18
     obtain rfl:=(ak gb18).symm
     try dsimp only at h
     cases h
     simp(config:=cS)only[go_sem,eqF h19]
 ·obtain ⟨h29,h⟩:=ai h
  obtain ⟨h30,h⟩:=ai h
  obtain ⟨q06,l31,h⟩:=ae h
  simp(config:=cS)only[go_sem,eqT h29,eqT h30]
  refine ap (m1:=.mk) (m2:=.mk) [.homeCell 192 0,.nf [2,3,14,15,16] [128,192,100012288,384]] (gy s.nodes ((s.nodes.length:Nat):Int) s.horizon s.ties) l31 ?_ ?_
  ·simp(config:=cS)only[go_sem]
  ·intro nb32 sb32 bb32 b32 gb32
   obtain ⟨v16_3,h100012288_3⟩:=sb32
   unfold cL at b32
   try dsimp only at b32
   obtain ⟨h33,b32⟩|⟨h33,b32⟩:=af b32
   ·obtain ⟨x05,g34,b32⟩:=ae b32
    obtain ⟨h35,h36,h37⟩:=al g34
    obtain ⟨h38,b32⟩:=ai b32
    obtain ⟨h39,b32⟩:=ai b32
    obtain ⟨h40,b32⟩:=ai b32
    obtain ⟨h41,b32⟩:=ai b32
    cases b32
    simp(config:=cS)only[go_sem,eqT h33,h35,h36,h37,eqT h38,eqT h39,eqT h40,eqT h41]
    refine aq gb32 ?_
    simp(config:=cS)only[go_sem]
   ·cases b32
    obtain rfl:=(ak gb32).symm
    try dsimp only at h
    cases h
    simp(config:=cS)only[go_sem,eqF h33]
@[go_sem] def hi31_5:DT:=.i2 0 (.i1 2 (.i2 3 (.i2 4 (.i0 1 [2] (.i2 5 (.i2 6 (.i2 7 .nil)))))))
def hi31:Hint where
 acts:=fun _=>[]
 draws:=fun
  | 5=>⟨hi31_5,[[],[0],[],[],[],.range 5,.range 6,.range 7],.range 8⟩
  | _=>⟨.nil,[],[]⟩
theorem Pe (i:Nat):hi31.acts i=[]:=rfl
theorem Pf (i:Nat):hi31.views i=none:=rfl
attribute [go_sem] Pe Pf Tryz.ntmps31 Tryz.results31
@[go_sem] theorem Qo:(hi31.draws 5).order=hi31_5:=rfl
theorem yY {s:GShow}{text:ByteArray}{lazy:Bool}{res:GDesk × Bool}(h:iE s text lazy=some res):an Tryz.prog 31 [.agg (GShow.encS s),.lit (.string text),.lit (.bool lazy)] [] (.tup [.agg [.ref 20000 1 0 res.1.show_.nodes.length,.ref 20001 1 0 res.1.show_.ties.length,.lit (.int .i64 res.1.show_.horizon),.lit (.int .i64 res.1.state.now),.ref 20002 1 0 res.1.state.times.length,.ref 20003 1 0 res.1.state.values.length,.lit (.bool res.1.lazy),.ref 20004 1 0 res.1.log.length],.lit (.bool res.2)]) [(20000,1,.row true (ab GNode.encO res.1.show_.nodes)),(20001,1,.row true (ab GTie.enc res.1.show_.ties)),(20002,1,.row true (ab eI res.1.state.times)),(20003,1,.row true (ab eI res.1.state.values)),(20004,1,.row true (ab GEntry.encO res.1.log))]:=by
 refine aj (ra:=[.homeCell 384 0,.homeCell 384 1,.homeCell 384 4,.homeCell 384 5,.homeCell 384 7]) (md:=mdT) hT (hi:=hi31) Tryz.func31 rfl rfl (by decide +kernel) (by simp) ?_
 unfold iE at h
 obtain ⟨r01,g1,h⟩:=ae h
 simp(config:=cS)only[go_sem]
 refine ag (ua g1) ?_
 obtain ⟨r02,g2,h⟩:=ae h
 simp(config:=cS)only[go_sem]
 refine ag (wX g2) ?_
 obtain ⟨h3,h⟩|⟨h3,h⟩:=af h
 ·obtain ⟨r03,g4,h⟩:=ae h
  simp(config:=cS)only[go_sem,eZt h3]
  refine ag (Aw g4) ?_
  cases h
  simp(config:=cS)only[go_sem,eZt h3]
 ·cases h
  simp(config:=cS)only[go_sem,eZf h3]
def mG (s c:ByteArray):(Int × Int × (List ByteArray))→St
 | (a,i,b)=>⟨[(0,.lit (.string s)),(1,.lit (.string c)),(5,.ref 383 1 0 b.length),(6,.lit (.int .i64 a)),(7,.lit (.int .i64 i))],[(383,1,.row true (ab eS b))],2⟩
attribute [go_sem] mG
attribute [go_sem] Tryz.ntmps173 Tryz.results173
theorem qP {s by_:ByteArray}{res:List ByteArray}(h:fN s by_=some res):an Tryz.prog 173 [.lit (.string s),.lit (.string by_)] [] (.ref 20000 1 0 res.length) [(20000,1,.row true (ab eS res))]:=by
 refine aj (ra:=[.home 4]) (md:=mdT) hT (hi:=hi00) Tryz.func173 rfl rfl (by decide +kernel) (by simp) ?_
 unfold fN at h
 obtain ⟨q03,l1,h⟩:=ae h
 simp(config:=cS)only[go_sem]
 refine ap (m1:=.mk) (m2:=.mk) [.home 5,.nf [0,1,5,6,7] [383]] (mG s by_) l1 ?_ ?_
 ·simp(config:=cS)only[go_sem]
 ·intro nb2 sb2 bb2 b2 gb2
  obtain ⟨from__1,i_1,out_1⟩:=sb2
  unfold fB at b2
  try dsimp only at b2
  obtain ⟨h3,b2⟩|⟨h3,b2⟩:=af b2
  ·obtain ⟨c1001,g4,b2⟩:=ae b2
   obtain ⟨h5,h6,h7⟩:=bD g4
   obtain ⟨r02,g8,b2⟩:=ae b2
   simp(config:=cS)only[go_sem,eqT h3,h5,h6,h7]
   refine ag (tG g8) ?_
   obtain ⟨h9,b2⟩|⟨h9,b2⟩:=af b2
   ·obtain ⟨h10,b2⟩:=ai b2
    obtain ⟨h11,b2⟩:=ai b2
    obtain ⟨h12,b2⟩:=ai b2
    obtain ⟨h13,b2⟩:=ai b2
    obtain ⟨h14,b2⟩:=ai b2
    obtain ⟨h15,b2⟩:=ai b2
    cases b2
    simp(config:=cS)only[go_sem,eqT h9,eqT h10,eqT h11,eqT h12,eqT h13,eqT h14,eqT h15]
    refine aq gb2 ?_
    simp(config:=cS)only[go_sem]
   ·cases b2
    simp(config:=cS)only[go_sem,eqF h9]
    refine aq gb2 ?_
    simp(config:=cS)only[go_sem]
  ·cases b2
   obtain rfl:=(ak gb2).symm
   try dsimp only at h
   obtain ⟨h17,h⟩:=ai h
   obtain ⟨h18,h⟩:=ai h
   obtain ⟨h19,h⟩:=ai h
   obtain ⟨h20,h⟩:=ai h
   cases h
   simp(config:=cS)only[go_sem,eqF h3,eqT h17,eqT h18,eqT h19,eqT h20]
def mH (c:Int)(a:List ByteArray):(Int × (List Int))→St
 | (d,b)=>⟨[(4,.ref 319 1 0 b.length),(12,.ref 768 1 0 a.length),(13,.lit (.int .i64 c)),(14,.lit (.int .i64 d))],[(319,1,.row true (ab eI b)),(768,1,.row true (ab eS a))],2⟩
attribute [go_sem] mH
attribute [go_sem] Tryz.ntmps175 Tryz.results175
theorem nH {s:ByteArray}{res:(List Int) × Bool}(h:dS s=some res):an Tryz.prog 175 [.lit (.string s)] [] (.tup [.ref 20000 1 0 res.1.length,.lit (.bool res.2)]) [(20000,1,.row true (ab eI res.1))]:=by
 refine aj (ra:=[.home 2]) (md:=mdT) hT (hi:=hi00) Tryz.func175 rfl rfl (by decide +kernel) (by simp) ?_
 unfold dS at h
 obtain ⟨h1,h⟩|⟨h1,h⟩:=af h
 ·cases h
  simp(config:=cS)only[go_sem,eqT h1]
 ·obtain ⟨r01,g2,h⟩:=ae h
  simp(config:=cS)only[go_sem,eqF h1]
  refine ag (qP g2) ?_
  obtain ⟨q04,l3,h⟩:=ae h
  simp(config:=cS)only[go_sem]
  refine ap (m1:=.mk) (m2:=.mk) [.home 4,.nf [4,12,13,14] [319,768]] (mH ((r01.length:Nat):Int) r01) l3 ?_ ?_
  ·simp(config:=cS)only[go_sem]
  ·intro nb4 sb4 bb4 b4 gb4
   obtain ⟨v14_1,out_1⟩:=sb4
   unfold iF at b4
   try dsimp only at b4
   obtain ⟨h5,b4⟩|⟨h5,b4⟩:=af b4
   ·obtain ⟨x02,g6,b4⟩:=ae b4
    obtain ⟨h7,h8,h9⟩:=al g6
    obtain ⟨r03,g10,b4⟩:=ae b4
    simp(config:=cS)only[go_sem,eqT h5,h7,h8,h9]
    refine ag (rb g10) ?_
    obtain ⟨h11,b4⟩|⟨h11,b4⟩:=af b4
    ·obtain ⟨h12,b4⟩:=ai b4
     obtain ⟨h13,b4⟩:=ai b4
     cases b4
     simp(config:=cS)only[go_sem,eZt h11,eqT h12,eqT h13]
     refine aq gb4 ?_
     simp(config:=cS)only[go_sem]
    ·cases b4
     obtain rfl:=(ak gb4).symm
     try dsimp only at h
     cases h
     simp(config:=cS)only[go_sem,eZf h11]
   ·cases b4
    obtain rfl:=(ak gb4).symm
    try dsimp only at h
    cases h
    simp(config:=cS)only[go_sem,eqF h5]
attribute [go_sem] Tryz.ntmps101 Tryz.results101
theorem vx {line:ByteArray}{res:GEntry × Bool}(h:gu line=some res):an Tryz.prog 101 [.lit (.string line)] [] (.tup [.agg [.lit (.int .i64 res.1.now),.ref 20000 1 0 res.1.ties.length,.ref 20001 1 0 res.1.nodes.length,.ref 20002 1 0 res.1.values.length],.lit (.bool res.2)]) [(20000,1,.row true (ab eI res.1.ties)),(20001,1,.row true (ab eI res.1.nodes)),(20002,1,.row true (ab eI res.1.values))]:=by
 refine aj (ra:=[.homeCell 128 1,.homeCell 128 2,.homeCell 128 3]) (md:=mdT) hT (hi:=hi00) Tryz.func101 rfl rfl (by decide +kernel) (by simp) ?_
 unfold gu at h
 obtain ⟨r01,g1,h⟩:=ae h
 simp(config:=cS)only[go_sem]
 refine ag (qP g1) ?_
 obtain ⟨h2,h⟩|⟨h2,h⟩:=af h
 ·obtain ⟨x02,g3,h⟩:=ae h
  obtain ⟨h5,h6⟩:=bo (k:=0) g3
  obtain ⟨r03,g7,h⟩:=ae h
  simp(config:=cS)only[go_sem,eqT h2,h5,h6]
  refine ag (rb g7) ?_
  obtain ⟨x04,g8,h⟩:=ae h
  obtain ⟨h10,h11⟩:=bo (k:=1) g8
  obtain ⟨r05,g12,h⟩:=ae h
  simp(config:=cS)only[go_sem,h10,h11]
  refine ag (nH g12) ?_
  obtain ⟨x06,g13,h⟩:=ae h
  obtain ⟨h15,h16⟩:=bo (k:=2) g13
  obtain ⟨r07,g17,h⟩:=ae h
  simp(config:=cS)only[go_sem,h15,h16]
  refine ag (nH g17) ?_
  obtain ⟨x08,g18,h⟩:=ae h
  obtain ⟨h20,h21⟩:=bo (k:=3) g18
  obtain ⟨r09,g22,h⟩:=ae h
  simp(config:=cS)only[go_sem,h20,h21]
  refine ag (nH g22) ?_
  obtain ⟨h23,h⟩|⟨h23,h⟩:=af h
  ·obtain ⟨h24,h⟩|⟨h24,h⟩:=af h
   ·obtain ⟨h25,h⟩|⟨h25,h⟩:=af h
    ·obtain ⟨h26,h⟩|⟨h26,h⟩:=af h
     ·cases h
      simp(config:=cS)only[go_sem,eZt h23,eZt h24,eZt h25,eZt h26]
     ·cases h
      simp(config:=cS)only[go_sem,eZt h23,eZt h24,eZt h25,eZf h26]
    ·cases h
     simp(config:=cS)only[go_sem,eZt h23,eZt h24,eZf h25]
   ·cases h
    simp(config:=cS)only[go_sem,eZt h23,eZf h24]
  ·cases h
   simp(config:=cS)only[go_sem,eZf h23]
 ·cases h
  simp(config:=cS)only[go_sem,eqF h2]
def kI  : (ByteArray × (List GEntry))→St
 | (b,a)=>⟨[(0,.lit (.string b)),(4,.ref 319 1 0 a.length)],[(319,1,.row true (ab GEntry.encO a))],2⟩
attribute [go_sem] kI
attribute [go_sem] Tryz.ntmps41 Tryz.results41
theorem ud {text:ByteArray}{res:(List GEntry) × Int}(h:fC text=some res):an Tryz.prog 41 [.lit (.string text)] [] (.tup [.ref 20000 1 0 res.1.length,.lit (.int .i64 res.2)]) [(20000,1,.row true (ab GEntry.encO res.1))]:=by
 refine aj (ra:=[.home 2]) (md:=mdT) hT (hi:=hi00) Tryz.func41 rfl rfl (by decide +kernel) (by simp) ?_
 unfold fC at h
 obtain ⟨q03,l1,h⟩:=ae h
 simp(config:=cS)only[go_sem]
 refine ap (m1:=.mk) (m2:=.mk) [.home 4,.nf [0,4] [319]] (kI) l1 ?_ ?_
 ·simp(config:=cS)only[go_sem]
 ·intro nb2 sb2 bb2 b2 gb2
  obtain ⟨text_1,out_1⟩:=sb2
  unfold fP at b2
  try dsimp only at b2
  obtain ⟨r01,g3,b2⟩:=ae b2
  simp(config:=cS)only[go_sem]
  refine ag (CM g3) ?_
  obtain ⟨h4,b2⟩|⟨h4,b2⟩:=af b2
  ·obtain ⟨r02,g5,b2⟩:=ae b2
   simp(config:=cS)only[go_sem,eZt h4]
   refine ag (vx g5) ?_
   obtain ⟨h6,b2⟩|⟨h6,b2⟩:=af b2
   ·obtain ⟨h7,b2⟩:=ai b2
    obtain ⟨h8,b2⟩:=ai b2
    cases b2
    simp(config:=cS)only[go_sem,eZt h6,eqT h7,eqT h8]
    refine aq gb2 ?_
    simp(config:=cS)only[go_sem]
   ·cases b2
    obtain rfl:=(ak gb2).symm
    try dsimp only at h
    cases h
    simp(config:=cS)only[go_sem,eZf h6]
  ·cases b2
   obtain rfl:=(ak gb2).symm
   try dsimp only at h
   cases h
   simp(config:=cS)only[go_sem,eZf h4]
def oh (s:ByteArray)(i:Int):St:=⟨[(0,.lit (.string s)),(3,.lit (.int .i64 i))],[],2⟩
attribute [go_sem] oh
@[go_sem] def hi274_4:DT:=.i2 0 (.i2 1 (.i2 2 (.i2 3 (.i2 4 (.i2 5 (.i2 6 (.i2 7 (.i2 8 (.i2 9 (.i2 10 (.i2 11 (.i2 12 (.i2 13 (.i2 14 (.i2 15 (.i2 16 (.i2 17 (.i2 18 (.i2 19 (.i2 20 (.i2 21 .nil)))))))))))))))))))))
def Di:Hint where
 acts:=fun _=>[]
 draws:=fun
  | 4=>⟨hi274_4,[[],[],[0,1],[0,1,2],[0,1,2,3],.range 5,.range 5,.range 7,.range 8,.range 9,[],[],[10,11],[10,11,12],[0,1,2,3,4,10,11,12,13],[0,1,2,3,4,10,11,12,13,14],[0,1,2,3,4,10,11,12,13,14],[0,1,2,3,4,10,11,12,13,14,15,16],[0,1,2,3,4,10,11,12,13,14,15,16,17],[0,1,2,3,4,10,11,12,13,14,15,16,17,18],.range 15,.range 21],[0,1,2,3,4,5,6,7,8,9,10,11,12,13,14,16,17,18,19,20,15,21]⟩
  | _=>⟨.nil,[],[]⟩
theorem NL (i:Nat):Di.acts i=[]:=rfl
theorem NM (i:Nat):Di.views i=none:=rfl
attribute [go_sem] NL NM Tryz.ntmps274 Tryz.results274
@[go_sem] theorem PV:(Di.draws 4).order=hi274_4:=rfl
theorem Co {s:ByteArray}{res:Bool}(h:kc s=some res):an Tryz.prog 274 [.lit (.string s)] [] (.lit (.bool res)) []:=by
 refine aj (ra:=[]) (md:=mdT) hT (hi:=Di) Tryz.func274 rfl rfl (by decide +kernel) (by simp) ?_
 unfold kc at h
 obtain ⟨q02,l1,h⟩:=ae h
 simp(config:=cS)only[go_sem]
 refine ap (m1:=.mk) (m2:=.mk) [.nf [0,3] []] (oh s) l1 ?_ ?_
 ·simp(config:=cS)only[go_sem]
 ·intro nb2 i_1 bb2 b2 gb2
  unfold eW at b2
  try dsimp only at b2
  obtain ⟨h3,b2⟩|⟨h3,b2⟩:=af b2
  ·obtain ⟨c1001,g4,b2⟩:=ae b2
   obtain ⟨h5,h6,h7⟩:=bD g4
   obtain ⟨h8,b2⟩|⟨h8,b2⟩:=af b2
   ·obtain ⟨h9,b2⟩|⟨h9,b2⟩:=af b2
    ·obtain ⟨h10,b2⟩|⟨h10,b2⟩:=af b2
     ·cases b2
      simp(config:=cS)only[go_sem,eqT h3,h5,h6,h7,eqT h8,eqT h9,eqT h10]
      refine aq gb2 ?_
      simp(config:=cS)only[go_sem]
     ·obtain ⟨h11,b2⟩|⟨h11,b2⟩:=af b2
      ·obtain ⟨h12,b2⟩|⟨h12,b2⟩:=af b2
       ·cases b2
        obtain rfl:=(ak gb2).symm
        try dsimp only at h
        cases h
        simp(config:=cS)only[go_sem,eqT h3,h5,h6,h7,eqT h8,eqT h9,eqF h10,eqT h11,eqT h12]
       ·cases b2
        simp(config:=cS)only[go_sem,eqT h3,h5,h6,h7,eqT h8,eqT h9,eqF h10,eqT h11,eqF h12]
        refine aq gb2 ?_
        simp(config:=cS)only[go_sem]
      ·cases b2
       obtain rfl:=(ak gb2).symm
       try dsimp only at h
       cases h
       simp(config:=cS)only[go_sem,eqT h3,h5,h6,h7,eqT h8,eqT h9,eqF h10,eqF h11]
    ·obtain ⟨h15,b2⟩|⟨h15,b2⟩:=af b2
     ·cases b2
      simp(config:=cS)only[go_sem,eqT h3,h5,h6,h7,eqT h8,eqF h9,eqT h15]
      refine aq gb2 ?_
      simp(config:=cS)only[go_sem]
     ·cases b2
      obtain rfl:=(ak gb2).symm
      try dsimp only at h
      cases h
      simp(config:=cS)only[go_sem,eqT h3,h5,h6,h7,eqT h8,eqF h9,eqF h15]
   ·obtain ⟨h17,b2⟩|⟨h17,b2⟩:=af b2
    ·obtain ⟨h18,b2⟩|⟨h18,b2⟩:=af b2
     ·obtain ⟨h19,b2⟩|⟨h19,b2⟩:=af b2
      ·cases b2
       obtain rfl:=(ak gb2).symm
       try dsimp only at h
       cases h
       simp(config:=cS)only[go_sem,eqT h3,h5,h6,h7,eqF h8,eqT h17,eqT h18,eqT h19]
      ·cases b2
       simp(config:=cS)only[go_sem,eqT h3,h5,h6,h7,eqF h8,eqT h17,eqT h18,eqF h19]
       refine aq gb2 ?_
       simp(config:=cS)only[go_sem]
     ·cases b2
      obtain rfl:=(ak gb2).symm
      try dsimp only at h
      cases h
      simp(config:=cS)only[go_sem,eqT h3,h5,h6,h7,eqF h8,eqT h17,eqF h18]
    ·cases b2
     obtain rfl:=(ak gb2).symm
     try dsimp only at h
     cases h
     simp(config:=cS)only[go_sem,eqT h3,h5,h6,h7,eqF h8,eqF h17]
  ·cases b2
   obtain rfl:=(ak gb2).symm
   try dsimp only at h
   obtain ⟨h24,h⟩|⟨h24,h⟩:=af h
   ·cases h
    simp(config:=cS)only[go_sem,eqF h3,eqT h24]
   ·cases h
    simp(config:=cS)only[go_sem,eqF h3,eqF h24]
attribute [go_sem] Tryz.ntmps197 Tryz.results197
theorem ia {l res:Int}(h:cw l=some res):an Tryz.prog 197 [.lit (.int .i64 l)] [] (.lit (.int .i64 res)) []:=by
 refine aj (ra:=[]) (md:=mdT) hT (hi:=hi00) Tryz.func197 rfl rfl (by decide +kernel) (by simp) ?_
 unfold cw at h
 cases h
 simp(config:=cS)only[go_sem]
def nI (l:List Int)(a b:Int):St:=⟨[(0,.sl (ab eI l)),(5,.sl (ab eI l)),(6,.lit (.int .i64 a)),(7,.lit (.int .i64 b))],[],2⟩
attribute [go_sem] nI
attribute [go_sem] Tryz.ntmps193 Tryz.results193
theorem jh {l:List Int}{res:Bool}(h:cD l=some res):an Tryz.prog 193 [.sl (ab eI l)] [] (.lit (.bool res)) []:=by
 refine aj (ra:=[]) (md:=mdT) hT (hi:=hi00) Tryz.func193 rfl rfl (by decide +kernel) (by simp) ?_
 unfold cD at h
 obtain ⟨q05,l1,h⟩:=ae h
 simp(config:=cS)only[go_sem]
 refine ap (m1:=.mk) (m2:=.mk) [.nf [0,5,6,7] []] (nI l ((l.length:Nat):Int)) l1 ?_ ?_
 ·simp(config:=cS)only[go_sem]
 ·intro nb2 v7_1 bb2 b2 gb2
  unfold ea at b2
  try dsimp only at b2
  obtain ⟨h3,b2⟩|⟨h3,b2⟩:=af b2
  ·obtain ⟨x01,g4,b2⟩:=ae b2
   obtain ⟨h5,h6,h7⟩:=al g4
   obtain ⟨h8,b2⟩|⟨h8,b2⟩:=af b2
   ·cases b2
    obtain rfl:=(ak gb2).symm
    try dsimp only at h
    cases h
    simp(config:=cS)only[go_sem,eqT h3,h5,h6,h7,eqT h8]
   ·obtain ⟨h10,b2⟩|⟨h10,b2⟩:=af b2
    ·cases b2
     obtain rfl:=(ak gb2).symm
     try dsimp only at h
     cases h
     simp(config:=cS)only[go_sem,eqT h3,h5,h6,h7,eqF h8,eqT h10]
    ·obtain ⟨h12,b2⟩|⟨h12,b2⟩:=af b2
     ·cases b2
      obtain rfl:=(ak gb2).symm
      try dsimp only at h
      cases h
      simp(config:=cS)only[go_sem,eqT h3,h5,h6,h7,eqF h8,eqF h10,eqT h12]
     ·obtain ⟨h14,b2⟩|⟨h14,b2⟩:=af b2
      ·obtain ⟨x02,g15,b2⟩:=ae b2
       obtain ⟨h16,h17,h18⟩:=al g15
       obtain ⟨r03,g19,b2⟩:=ae b2
       simp(config:=cS)only[go_sem,eqT h3,h5,h6,h7,eqF h8,eqF h10,eqF h12,eqT h14,h16,h17,h18]
       refine ag (ia g19) ?_
       obtain ⟨r04,g20,b2⟩:=ae b2
       simp(config:=cS)only[go_sem]
       refine ag (ia g20) ?_
       obtain ⟨h21,b2⟩|⟨h21,b2⟩:=af b2
       ·cases b2
        obtain rfl:=(ak gb2).symm
        try dsimp only at h
        cases h
        simp(config:=cS)only[go_sem,eqT h21]
       ·cases b2
        simp(config:=cS)only[go_sem,eqF h21]
        refine aq gb2 ?_
        simp(config:=cS)only[go_sem]
      ·cases b2
       simp(config:=cS)only[go_sem,eqT h3,h5,h6,h7,eqF h8,eqF h10,eqF h12,eqF h14]
       refine aq gb2 ?_
       simp(config:=cS)only[go_sem]
  ·cases b2
   obtain rfl:=(ak gb2).symm
   try dsimp only at h
   cases h
   simp(config:=cS)only[go_sem,eqF h3]
attribute [go_sem] Tryz.ntmps224 Tryz.results224
theorem Cp {n:GNode}{res:Bool}(h:kd n=some res):an Tryz.prog 224 [.agg (GNode.encS n)] [] (.lit (.bool res)) []:=by
 refine aj (ra:=[]) (md:=mdT) hT (hi:=hi00) Tryz.func224 rfl rfl (by decide +kernel) (by simp) ?_
 unfold kd at h
 obtain ⟨r01,g1,h⟩:=ae h
 simp(config:=cS)only[go_sem]
 refine ag (Co g1) ?_
 obtain ⟨h2,h⟩|⟨h2,h⟩:=af h
 ·obtain ⟨r02,g3,h⟩:=ae h
  simp(config:=cS)only[go_sem,eZt h2]
  refine ag (jh g3) ?_
  obtain ⟨h4,h⟩|⟨h4,h⟩:=af h
  ·obtain ⟨h5,h⟩|⟨h5,h⟩:=af h
   ·cases h
    simp(config:=cS)only[go_sem,eZt h2,eZt h4,eqT h5]
   ·cases h
    simp(config:=cS)only[go_sem,eZt h2,eZt h4,eqF h5]
  ·cases h
   simp(config:=cS)only[go_sem,eZt h2,eZf h4]
 ·cases h
  simp(config:=cS)only[go_sem,eZf h2]
def mI (a:List GNode)(b c:Int)(d:List GNode)(e:Int)(f:List GTie)(g:Int)(h:ByteArray)(i:List Int)(j k:Int):St:=⟨[(1,.ptr 64 1 0 0),(4,.ptr 256 1 0 0),(35,.sl (ab GNode.encS a)),(36,.lit (.int .i64 b)),(37,.lit (.int .i64 c)),(48,.sl (ab GNode.encS d)),(49,.lit (.int .i64 e)),(50,.lit (.int .i64 k))],[(64,1,.var [.sl (ab GNode.encS a),.sl (ab GTie.enc f),.lit (.int .i64 g)]),(256,1,.var [.lit (.string h),.sl (ab eI i),.lit (.int .i64 j)])],2⟩
attribute [go_sem] mI
def mJ (a:List GNode)(b:Int)(c:List GTie)(d e:Int):St:=⟨[(1,.ptr 64 1 0 0),(35,.sl (ab GNode.encS a)),(36,.lit (.int .i64 b)),(37,.lit (.int .i64 e))],[(64,1,.var [.sl (ab GNode.encS a),.sl (ab GTie.enc c),.lit (.int .i64 d)])],2⟩
attribute [go_sem] mJ
attribute [go_sem] Tryz.ntmps139 Tryz.results139
theorem yZ {s:GShow}{res:Bool}(h:iv s=some res):an Tryz.prog 139 [.agg (GShow.encS s)] [] (.lit (.bool res)) []:=by
 refine aj (ra:=[]) (md:=mdT) hT (hi:=hi00) Tryz.func139 rfl rfl (by decide +kernel) (by simp) ?_
 unfold iv at h
 obtain ⟨h1,h⟩|⟨h1,h⟩:=af h
 ·cases h
  simp(config:=cS)only[go_sem,eqT h1]
 ·obtain ⟨h2,h⟩|⟨h2,h⟩:=af h
  ·cases h
   simp(config:=cS)only[go_sem,eqF h1,eqT h2]
  ·obtain ⟨x01,g3,h⟩:=ae h
   obtain ⟨h5,h6⟩:=bo (k:=0) g3
   obtain ⟨h7,h⟩|⟨h7,h⟩:=af h
   ·cases h
    simp(config:=cS)only[go_sem,eqF h1,eqF h2,h5,h6,eqT h7]
   ·obtain ⟨h8,h⟩|⟨h8,h⟩:=af h
    ·obtain ⟨q06,l9,h⟩:=ae h
     simp(config:=cS)only[go_sem,eqF h1,eqF h2,h5,h6,eqF h7,eqT h8]
     refine ap (m1:=.mk) (m2:=.mk) [.nf [1,35,36,37] [64]] (mJ s.nodes ((s.nodes.length:Nat):Int) s.ties s.horizon) l9 ?_ ?_
     ·simp(config:=cS)only[go_sem]
     ·intro nb10 v37_1 bb10 b10 gb10
      unfold dA at b10
      try dsimp only at b10
      obtain ⟨h11,b10⟩|⟨h11,b10⟩:=af b10
      ·obtain ⟨x02,g12,b10⟩:=ae b10
       obtain ⟨h13,h14,h15⟩:=al g12
       obtain ⟨r03,g16,b10⟩:=ae b10
       simp(config:=cS)only[go_sem,eqT h11,h13,h14,h15]
       refine ag (Cp g16) ?_
       obtain ⟨h17,b10⟩|⟨h17,b10⟩:=af b10
       ·obtain ⟨h18,b10⟩:=ai b10
        obtain ⟨h19,b10⟩:=ai b10
        obtain ⟨q05,l20,b10⟩:=ae b10
        simp(config:=cS)only[go_sem,eZt h17,eqT h18,eqT h19]
        refine ap (m1:=.mk) (m2:=.mk) [.nf [1,4,35,36,37,48,49,50] [64,256]] (mI s.nodes ((s.nodes.length:Nat):Int) v37_1 (s.nodes.take v37_1.toNat) (((s.nodes.take v37_1.toNat).length:Nat):Int) s.ties s.horizon x02.name x02.label x02.watch) l20 ?_ ?_
        ·simp(config:=cS)only[go_sem]
        ·intro nb21 v50_2 bb21 b21 gb21
         unfold dz at b21
         try dsimp only at b21
         obtain ⟨h22,b21⟩|⟨h22,b21⟩:=af b21
         ·obtain ⟨x04,g23,b21⟩:=ae b21
          obtain ⟨h24,h25,h26⟩:=al g23
          obtain ⟨h27,b21⟩|⟨h27,b21⟩:=af b21
          ·cases b21
           obtain rfl:=(ak gb21).symm
           try dsimp only at b10
           cases b10
           obtain rfl:=(ak gb10).symm
           try dsimp only at h
           cases h
           simp(config:=cS)only[go_sem,eqT h22,h24,h25,h26,eqT h27]
          ·obtain ⟨h30,b21⟩|⟨h30,b21⟩:=af b21
           ·cases b21
            simp(config:=cS)only[go_sem,eqT h22,h24,h25,h26,eqF h27,eqT h30]
            refine aq gb21 ?_
            simp(config:=cS)only[go_sem]
           ·obtain ⟨h31,b21⟩|⟨h31,b21⟩:=af b21
            ·cases b21
             obtain rfl:=(ak gb21).symm
             try dsimp only at b10
             cases b10
             obtain rfl:=(ak gb10).symm
             try dsimp only at h
             cases h
             simp(config:=cS)only[go_sem,eqT h22,h24,h25,h26,eqF h27,eqF h30,eqT h31]
            ·cases b21
             simp(config:=cS)only[go_sem,eqT h22,h24,h25,h26,eqF h27,eqF h30,eqF h31]
             refine aq gb21 ?_
             simp(config:=cS)only[go_sem]
         ·cases b21
          obtain rfl:=(ak gb21).symm
          try dsimp only at b10
          cases b10
          simp(config:=cS)only[go_sem,eqF h22]
          refine aq gb10 ?_
          simp(config:=cS)only[go_sem]
       ·cases b10
        obtain rfl:=(ak gb10).symm
        try dsimp only at h
        cases h
        simp(config:=cS)only[go_sem,eZf h17]
      ·cases b10
       obtain rfl:=(ak gb10).symm
       try dsimp only at h
       cases h
       simp(config:=cS)only[go_sem,eqF h11]
    ·cases h
     simp(config:=cS)only[go_sem,eqF h1,eqF h2,h5,h6,eqF h7,eqF h8]
attribute [go_sem] Tryz.ntmps207 Tryz.results207
theorem sP {n node:Int}{res:Bool}(h:ic n node=some res):an Tryz.prog 207 [.lit (.int .i64 n),.lit (.int .i64 node)] [] (.lit (.bool res)) []:=by
 refine aj (ra:=[]) (md:=mdT) hT (hi:=hi00) Tryz.func207 rfl rfl (by decide +kernel) (by simp) ?_
 unfold ic at h
 obtain ⟨h1,h⟩|⟨h1,h⟩:=af h
 ·cases h
  simp(config:=cS)only[go_sem,eqT h1]
 ·cases h
  simp(config:=cS)only[go_sem,eqF h1]
end Go.Proofs.Qa
