/- Functions. -/
import Derived.Test.YtghfphjfkdbpjaaGreatYM
import Derived.Test.YtghfphjfkdbpjaaGreatY37
set_option linter.all false
set_option maxRecDepth 100000
set_option maxHeartbeats 400000
namespace Go.Proofs.YtghfphjfkdbpjaaGreatY
open Go
attribute [go_sem] Tryz.ntmps95 Tryz.results95
theorem sw {a:List Int}{left res:Int}(h:iu a left=some res):ap Tryz.prog 95 [.sl (ab eI a),.lit (.int .i64 left)] [] (.lit (.int .i64 res)) []:=by
 refine aj (ra:=[]) (md:=mdT) hT (hi:=hi00) Tryz.func95 rfl rfl (by decide +kernel) (by simp) ?_
 unfold iu at h
 obtain ⟨h1,h⟩|⟨h1,h⟩:=af h
 ·cases h
  simp(config:=cS)only[go_sem,eqT h1]
 ·cases h
  simp(config:=cS)only[go_sem,eqF h1]
attribute [go_sem] Tryz.ntmps174 Tryz.results174
theorem EB {a:GNode}{left res:Int}(h:mj a left=some res):ap Tryz.prog 174 [.agg (GNode.encS a),.lit (.int .i64 left)] [] (.lit (.int .i64 res)) []:=by
 refine aj (ra:=[]) (md:=mdT) hT (hi:=hi00) Tryz.func174 rfl rfl (by decide +kernel) (by simp) ?_
 unfold mj at h
 obtain ⟨h1,h⟩|⟨h1,h⟩:=af h
 ·cases h
  simp(config:=cS)only[go_sem,eqT h1]
 ·obtain ⟨r1001,g2,h⟩:=ae h
  simp(config:=cS)only[go_sem,eqF h1]
  refine ag (sw g2) ?_
  obtain ⟨h3,h⟩|⟨h3,h⟩:=af h
  ·cases h
   simp(config:=cS)only[go_sem,eqT h3]
  ·cases h
   simp(config:=cS)only[go_sem,eqF h3]
def qh (a:List GNode):(Int × Int)→St
 | (left,i)=>⟨[(0,.sl (ab GNode.encS a)),(1,.lit (.int .i64 left)),(5,.lit (.int .i64 i))],[],2⟩
attribute [go_sem] qh
attribute [go_sem] Tryz.ntmps93 Tryz.results93
theorem Da {a:List GNode}{left res:Int}(h:lv a left=some res):ap Tryz.prog 93 [.sl (ab GNode.encS a),.lit (.int .i64 left)] [] (.lit (.int .i64 res)) []:=by
 refine aj (ra:=[]) (md:=mdT) hT (hi:=hi00) Tryz.func93 rfl rfl (by decide +kernel) (by simp) ?_
 unfold lv at h
 obtain ⟨h1,h⟩|⟨h1,h⟩:=af h
 ·cases h
  simp(config:=cS)only[go_sem,eqT h1]
 ·obtain ⟨q1003,l2,h⟩:=ae h
  simp(config:=cS)only[go_sem,eqF h1]
  refine an (m1:=.mk) (m2:=.mk) [.nf [0,1,5] []] (qh a) l2 ?_ ?_
  ·simp(config:=cS)only[go_sem]
  ·intro nb3 sb3 bb3 b3 gb3
   obtain ⟨left_1,i_1⟩:=sb3
   unfold iI at b3
   try dsimp only at b3
   obtain ⟨h4,b3⟩|⟨h4,b3⟩:=af b3
   ·obtain ⟨x1001,g5,b3⟩:=ae b3
    obtain ⟨h6,h7,h8⟩:=ai g5
    obtain ⟨r1002,g9,b3⟩:=ae b3
    simp(config:=cS)only[go_sem,eqT h4,h6,h7,h8]
    refine ag (EB g9) ?_
    obtain ⟨h10,b3⟩|⟨h10,b3⟩:=af b3
    ·cases b3
     obtain rfl:=(ak gb3).symm
     try dsimp only at h
     cases h
     simp(config:=cS)only[go_sem,eqT h10]
    ·cases b3
     simp(config:=cS)only[go_sem,eqF h10]
     refine ao gb3 ?_
     simp(config:=cS)only[go_sem]
   ·cases b3
    obtain rfl:=(ak gb3).symm
    try dsimp only at h
    cases h
    simp(config:=cS)only[go_sem,eqF h4]
attribute [go_sem] Tryz.ntmps94 Tryz.results94
theorem EC {a:List GTie}{left res:Int}(h:ml a left=some res):ap Tryz.prog 94 [.sl (ab GTie.enc a),.lit (.int .i64 left)] [] (.lit (.int .i64 res)) []:=by
 refine aj (ra:=[]) (md:=mdT) hT (hi:=hi00) Tryz.func94 rfl rfl (by decide +kernel) (by simp) ?_
 unfold ml at h
 obtain ⟨h1,h⟩|⟨h1,h⟩:=af h
 ·cases h
  simp(config:=cS)only[go_sem,eqT h1]
 ·cases h
  simp(config:=cS)only[go_sem,eqF h1]
attribute [go_sem] Tryz.ntmps31 Tryz.results31
theorem ED {a:GShow}{left res:Int}(h:mm a left=some res):ap Tryz.prog 31 [.agg (GShow.encS a),.lit (.int .i64 left)] [] (.lit (.int .i64 res)) []:=by
 refine aj (ra:=[]) (md:=mdT) hT (hi:=hi00) Tryz.func31 rfl rfl (by decide +kernel) (by simp) ?_
 unfold mm at h
 obtain ⟨r1001,g1,h⟩:=ae h
 simp(config:=cS)only[go_sem]
 refine ag (Da g1) ?_
 obtain ⟨h2,h⟩|⟨h2,h⟩:=af h
 ·cases h
  simp(config:=cS)only[go_sem,eqT h2]
 ·obtain ⟨r1002,g3,h⟩:=ae h
  simp(config:=cS)only[go_sem,eqF h2]
  refine ag (EC g3) ?_
  obtain ⟨h4,h⟩|⟨h4,h⟩:=af h
  ·cases h
   simp(config:=cS)only[go_sem,eqT h4]
  ·cases h
   simp(config:=cS)only[go_sem,eqF h4]
attribute [go_sem] Tryz.ntmps106 Tryz.results106
attribute [go_sem] Tryz.ntmps185 Tryz.results185
def uX (a:List GEntry):(Int × Int)→St
 | (left,i)=>⟨[(0,.sl (ab GEntry.encS a)),(1,.lit (.int .i64 left)),(5,.lit (.int .i64 i))],[],2⟩
attribute [go_sem] uX
attribute [go_sem] Tryz.ntmps107 Tryz.results107
attribute [go_sem] Tryz.ntmps44 Tryz.results44
def qU (a:List Int):(Int × (List Int))→St
 | (i,out)=>⟨[(0,.sl (ab eI a)),(3,.ref 448 1 0 out.length),(4,.lit (.int .i64 i))],[(448,1,.row true (ab eI out))],2⟩
attribute [go_sem] qU
attribute [go_sem] Tryz.ntmps47 Tryz.results47
theorem sx {a res:List Int}(h:iv a=some res):ap Tryz.prog 47 [.sl (ab eI a)] [] (.ref 20000 1 0 res.length) [(20000,1,.row true (ab eI res))]:=by
 refine aj (ra:=[.home 2]) (md:=mdT) hT (hi:=hi00) Tryz.func47 rfl rfl (by decide +kernel) (by simp) ?_
 unfold iv at h
 obtain ⟨h1,h⟩:=ah h
 obtain ⟨h2,h⟩:=ah h
 obtain ⟨q1003,l3,h⟩:=ae h
 simp(config:=cS)only[go_sem,eqT h1,eqT h2]
 refine an (m1:=.mk) (m2:=.mk) [.nf [0,3,4] [448]] (qU a) l3 ?_ ?_
 ·simp(config:=cS)only[go_sem]
 ·intro nb4 sb4 bb4 b4 gb4
  obtain ⟨i_1,out_1⟩:=sb4
  unfold jz at b4
  try dsimp only at b4
  obtain ⟨h5,b4⟩|⟨h5,b4⟩:=af b4
  ·obtain ⟨x1001,g6,b4⟩:=ae b4
   obtain ⟨h7,h8,h9⟩:=ai g6
   obtain ⟨x1002,g10,b4⟩:=ae b4
   obtain ⟨h11,h12,h13⟩:=ai g10
   cases b4
   simp(config:=cS)only[go_sem,eqT h5,h7,h8,h9,h11,h12,h13]
   refine ao gb4 ?_
   simp(config:=cS)only[go_sem]
  ·cases b4
   obtain rfl:=(ak gb4).symm
   try dsimp only at h
   cases h
   simp(config:=cS)only[go_sem,eqF h5]
attribute [go_sem] Tryz.ntmps180 Tryz.results180
theorem EE {a res:GNode}(h:mn a=some res):ap Tryz.prog 180 [.agg (GNode.encS a)] [] (.agg [.lit (.string res.name),.ref 20000 1 0 res.label.length,.lit (.int .i64 res.watch)]) [(20000,1,.row true (ab eI res.label))]:=by
 refine aj (ra:=[.homeCell 128 1]) (md:=mdT) hT (hi:=hi00) Tryz.func180 rfl rfl (by decide +kernel) (by simp) ?_
 unfold mn at h
 obtain ⟨r1001,g1,h⟩:=ae h
 simp(config:=cS)only[go_sem]
 refine ag (sx g1) ?_
 cases h
 simp(config:=cS)only[go_sem]
def qi (a:List GNode):(Int × (List GNode))→St
 | (i,out)=>⟨[(0,.sl (ab GNode.encS a)),(3,.ref 448 1 0 out.length),(4,.lit (.int .i64 i))],[(448,1,.row true (ab GNode.encO out))],2⟩
attribute [go_sem] qi
attribute [go_sem] Tryz.ntmps99 Tryz.results99
theorem Db {a res:List GNode}(h:lw a=some res):ap Tryz.prog 99 [.sl (ab GNode.encS a)] [] (.ref 20000 1 0 res.length) [(20000,1,.row true (ab GNode.encO res))]:=by
 refine aj (ra:=[.home 2]) (md:=mdT) hT (hi:=hi00) Tryz.func99 rfl rfl (by decide +kernel) (by simp) ?_
 unfold lw at h
 obtain ⟨h1,h⟩:=ah h
 obtain ⟨h2,h⟩:=ah h
 obtain ⟨q1004,l3,h⟩:=ae h
 simp(config:=cS)only[go_sem,eqT h1,eqT h2]
 refine an (m1:=.mk) (m2:=.mk) [.nf [0,3,4] [448]] (qi a) l3 ?_ ?_
 ·simp(config:=cS)only[go_sem]
 ·intro nb4 sb4 bb4 b4 gb4
  obtain ⟨i_1,out_1⟩:=sb4
  unfold iJ at b4
  try dsimp only at b4
  obtain ⟨h5,b4⟩|⟨h5,b4⟩:=af b4
  ·obtain ⟨x1001,g6,b4⟩:=ae b4
   obtain ⟨h7,h8,h9⟩:=ai g6
   obtain ⟨r1002,g10,b4⟩:=ae b4
   simp(config:=cS)only[go_sem,eqT h5,h7,h8,h9]
   refine ag (EE g10) ?_
   obtain ⟨x1003,g11,b4⟩:=ae b4
   obtain ⟨h12,h13,h14⟩:=ai g11
   cases b4
   simp(config:=cS)only[go_sem,h12,h13,h14]
   refine ao gb4 ?_
   simp(config:=cS)only[go_sem]
  ·cases b4
   obtain rfl:=(ak gb4).symm
   try dsimp only at h
   cases h
   simp(config:=cS)only[go_sem,eqF h5]
attribute [go_sem] Tryz.ntmps181 Tryz.results181
theorem Gz {a res:GTie}(h:qK a=some res):ap Tryz.prog 181 [.agg (GTie.enc a)] [] (.agg (GTie.enc res)) []:=by
 refine aj (ra:=[]) (md:=mdT) hT (hi:=hi00) Tryz.func181 rfl rfl (by decide +kernel) (by simp) ?_
 unfold qK at h
 cases h
 simp(config:=cS)only[go_sem]
def qV (a:List GTie):(Int × (List GTie))→St
 | (i,out)=>⟨[(0,.sl (ab GTie.enc a)),(3,.ref 448 1 0 out.length),(4,.lit (.int .i64 i))],[(448,1,.row true (ab GTie.enc out))],2⟩
attribute [go_sem] qV
attribute [go_sem] Tryz.ntmps100 Tryz.results100
theorem EF {a res:List GTie}(h:mq a=some res):ap Tryz.prog 100 [.sl (ab GTie.enc a)] [] (.ref 20000 1 0 res.length) [(20000,1,.row true (ab GTie.enc res))]:=by
 refine aj (ra:=[.home 2]) (md:=mdT) hT (hi:=hi00) Tryz.func100 rfl rfl (by decide +kernel) (by simp) ?_
 unfold mq at h
 obtain ⟨h1,h⟩:=ah h
 obtain ⟨h2,h⟩:=ah h
 obtain ⟨q1004,l3,h⟩:=ae h
 simp(config:=cS)only[go_sem,eqT h1,eqT h2]
 refine an (m1:=.mk) (m2:=.mk) [.nf [0,3,4] [448]] (qV a) l3 ?_ ?_
 ·simp(config:=cS)only[go_sem]
 ·intro nb4 sb4 bb4 b4 gb4
  obtain ⟨i_1,out_1⟩:=sb4
  unfold jA at b4
  try dsimp only at b4
  obtain ⟨h5,b4⟩|⟨h5,b4⟩:=af b4
  ·obtain ⟨x1001,g6,b4⟩:=ae b4
   obtain ⟨h7,h8,h9⟩:=ai g6
   obtain ⟨r1002,g10,b4⟩:=ae b4
   simp(config:=cS)only[go_sem,eqT h5,h7,h8,h9]
   refine ag (Gz g10) ?_
   obtain ⟨x1003,g11,b4⟩:=ae b4
   obtain ⟨h12,h13,h14⟩:=ai g11
   cases b4
   simp(config:=cS)only[go_sem,h12,h13,h14]
   refine ao gb4 ?_
   simp(config:=cS)only[go_sem]
  ·cases b4
   obtain rfl:=(ak gb4).symm
   try dsimp only at h
   cases h
   simp(config:=cS)only[go_sem,eqF h5]
attribute [go_sem] Tryz.ntmps34 Tryz.results34
theorem oP {a res:GShow}(h:fQ a=some res):ap Tryz.prog 34 [.agg (GShow.encS a)] [] (.agg [.ref 20000 1 0 res.nodes.length,.ref 20001 1 0 res.ties.length,.lit (.int .i64 res.horizon)]) [(20000,1,.row true (ab GNode.encO res.nodes)),(20001,1,.row true (ab GTie.enc res.ties))]:=by
 refine aj (ra:=[.homeCell 128 0,.homeCell 128 1]) (md:=mdT) hT (hi:=hi00) Tryz.func34 rfl rfl (by decide +kernel) (by simp) ?_
 unfold fQ at h
 obtain ⟨r1001,g1,h⟩:=ae h
 simp(config:=cS)only[go_sem]
 refine ag (Db g1) ?_
 obtain ⟨r1002,g2,h⟩:=ae h
 simp(config:=cS)only[go_sem]
 refine ag (EF g2) ?_
 cases h
 simp(config:=cS)only[go_sem]
attribute [go_sem] Tryz.ntmps112 Tryz.results112
attribute [go_sem] Tryz.ntmps194 Tryz.results194
def uY (a:List GEntry):(Int × (List GEntry))→St
 | (i,out)=>⟨[(0,.sl (ab GEntry.encS a)),(3,.ref 448 1 0 out.length),(4,.lit (.int .i64 i))],[(448,1,.row true (ab GEntry.encO out))],2⟩
attribute [go_sem] uY
attribute [go_sem] Tryz.ntmps113 Tryz.results113
attribute [go_sem] Tryz.ntmps46 Tryz.results46
attribute [go_sem] Tryz.ntmps134 Tryz.results134
theorem bU {n lo hi:Int}{res:Bool}(h:bo n lo hi=some res):ap Tryz.prog 134 [.lit (.int .i64 n),.lit (.int .i64 lo),.lit (.int .i64 hi)] [] (.lit (.bool res)) []:=by
 refine aj (ra:=[]) (md:=mdT) hT (hi:=hi00) Tryz.func134 rfl rfl (by decide +kernel) (by simp) ?_
 unfold bo at h
 obtain ⟨h1,h⟩|⟨h1,h⟩:=af h
 ·cases h
  simp(config:=cS)only[go_sem,eqT h1]
 ·cases h
  simp(config:=cS)only[go_sem,eqF h1]
def qW (s:ByteArray)(i:Int):St:=⟨[(0,.lit (.string s)),(3,.lit (.int .i64 i))],[],2⟩
attribute [go_sem] qW
attribute [go_sem] Tryz.ntmps266 Tryz.results266
theorem EG {s:ByteArray}{res:Bool}(h:mb s=some res):ap Tryz.prog 266 [.lit (.string s)] [] (.lit (.bool res)) []:=by
 refine aj (ra:=[]) (md:=mdT) hT (hi:=hi00) Tryz.func266 rfl rfl (by decide +kernel) (by simp) ?_
 unfold mb at h
 obtain ⟨q1003,l1,h⟩:=ae h
 simp(config:=cS)only[go_sem]
 refine an (m1:=.mk) (m2:=.mk) [.nf [0,3] []] (qW s) l1 ?_ ?_
 ·simp(config:=cS)only[go_sem]
 ·intro nb2 i_1 bb2 b2 gb2
  unfold gw at b2
  try dsimp only at b2
  obtain ⟨h3,b2⟩|⟨h3,b2⟩:=af b2
  ·obtain ⟨c1001,g4,b2⟩:=ae b2
   obtain ⟨h5,h6,h7⟩:=iU g4
   obtain ⟨h8,b2⟩|⟨h8,b2⟩:=af b2
   ·obtain ⟨h9,b2⟩|⟨h9,b2⟩:=af b2
    ·cases b2
     simp(config:=cS)only[go_sem,eqT h3,h5,h6,h7,eqT h8,eqT h9]
     refine ao gb2 ?_
     simp(config:=cS)only[go_sem]
    ·obtain ⟨h10,b2⟩|⟨h10,b2⟩:=af b2
     ·cases b2
      obtain rfl:=(ak gb2).symm
      try dsimp only at h
      cases h
      simp(config:=cS)only[go_sem,eqT h3,h5,h6,h7,eqT h8,eqF h9,eqT h10]
     ·obtain ⟨h12,b2⟩|⟨h12,b2⟩:=af b2
      ·cases b2
       obtain rfl:=(ak gb2).symm
       try dsimp only at h
       cases h
       simp(config:=cS)only[go_sem,eqT h3,h5,h6,h7,eqT h8,eqF h9,eqF h10,eqT h12]
      ·obtain ⟨h14,b2⟩|⟨h14,b2⟩:=af b2
       ·cases b2
        obtain rfl:=(ak gb2).symm
        try dsimp only at h
        cases h
        simp(config:=cS)only[go_sem,eqT h3,h5,h6,h7,eqT h8,eqF h9,eqF h10,eqF h12,eqT h14]
       ·cases b2
        simp(config:=cS)only[go_sem,eqT h3,h5,h6,h7,eqT h8,eqF h9,eqF h10,eqF h12,eqF h14]
        refine ao gb2 ?_
        simp(config:=cS)only[go_sem]
   ·obtain ⟨h16,b2⟩|⟨h16,b2⟩:=af b2
    ·cases b2
     obtain rfl:=(ak gb2).symm
     try dsimp only at h
     cases h
     simp(config:=cS)only[go_sem,eqT h3,h5,h6,h7,eqF h8,eqT h16]
    ·obtain ⟨h18,b2⟩|⟨h18,b2⟩:=af b2
     ·cases b2
      obtain rfl:=(ak gb2).symm
      try dsimp only at h
      cases h
      simp(config:=cS)only[go_sem,eqT h3,h5,h6,h7,eqF h8,eqF h16,eqT h18]
     ·obtain ⟨h20,b2⟩|⟨h20,b2⟩:=af b2
      ·cases b2
       obtain rfl:=(ak gb2).symm
       try dsimp only at h
       cases h
       simp(config:=cS)only[go_sem,eqT h3,h5,h6,h7,eqF h8,eqF h16,eqF h18,eqT h20]
      ·cases b2
       simp(config:=cS)only[go_sem,eqT h3,h5,h6,h7,eqF h8,eqF h16,eqF h18,eqF h20]
       refine ao gb2 ?_
       simp(config:=cS)only[go_sem]
  ·cases b2
   obtain rfl:=(ak gb2).symm
   try dsimp only at h
   obtain ⟨r1002,g23,h⟩:=ae h
   simp(config:=cS)only[go_sem,eqF h3]
   refine ag (bU g23) ?_
   cases h
   simp(config:=cS)only[go_sem]
attribute [go_sem] Tryz.ntmps245 Tryz.results245
theorem nu {n res:Int}(h:dm n=some res):ap Tryz.prog 245 [.lit (.int .i64 n)] [] (.lit (.int .i64 res)) []:=by
 refine aj (ra:=[]) (md:=mdT) hT (hi:=hi00) Tryz.func245 rfl rfl (by decide +kernel) (by simp) ?_
 unfold dm at h
 obtain ⟨h1,h⟩|⟨h1,h⟩:=af h
 ·cases h
  simp(config:=cS)only[go_sem,eqT h1]
 ·cases h
  simp(config:=cS)only[go_sem,eqF h1]
def qj (l:List Int)(v6 v7:Int):St:=⟨[(0,.sl (ab eI l)),(5,.sl (ab eI l)),(6,.lit (.int .i64 v6)),(7,.lit (.int .i64 v7))],[],2⟩
attribute [go_sem] qj
attribute [go_sem] Tryz.ntmps264 Tryz.results264
theorem nw {l:List Int}{res:Bool}(h:ek l=some res):ap Tryz.prog 264 [.sl (ab eI l)] [] (.lit (.bool res)) []:=by
 refine aj (ra:=[]) (md:=mdT) hT (hi:=hi00) Tryz.func264 rfl rfl (by decide +kernel) (by simp) ?_
 unfold ek at h
 obtain ⟨q1006,l1,h⟩:=ae h
 simp(config:=cS)only[go_sem]
 refine an (m1:=.mk) (m2:=.mk) [.nf [0,5,6,7] []] (qj l ((l.length:Nat):Int)) l1 ?_ ?_
 ·simp(config:=cS)only[go_sem]
 ·intro nb2 v7_1 bb2 b2 gb2
  unfold fy at b2
  try dsimp only at b2
  obtain ⟨h3,b2⟩|⟨h3,b2⟩:=af b2
  ·obtain ⟨x1001,g4,b2⟩:=ae b2
   obtain ⟨h5,h6,h7⟩:=ai g4
   obtain ⟨h8,b2⟩|⟨h8,b2⟩:=af b2
   ·cases b2
    obtain rfl:=(ak gb2).symm
    try dsimp only at h
    cases h
    simp(config:=cS)only[go_sem,eqT h3,h5,h6,h7,eqT h8]
   ·obtain ⟨r1002,g10,b2⟩:=ae b2
    simp(config:=cS)only[go_sem,eqT h3,h5,h6,h7,eqF h8]
    refine ag (bU g10) ?_
    obtain ⟨h11,b2⟩|⟨h11,b2⟩:=af b2
    ·obtain ⟨h12,b2⟩|⟨h12,b2⟩:=af b2
     ·obtain ⟨x1003,g13,b2⟩:=ae b2
      obtain ⟨h14,h15,h16⟩:=ai g13
      obtain ⟨r1004,g17,b2⟩:=ae b2
      simp(config:=cS)only[go_sem,eqT h3,h5,h6,h7,eqF h8,eZt h11,eqT h12,h14,h15,h16]
      refine ag (nu g17) ?_
      obtain ⟨r1005,g18,b2⟩:=ae b2
      simp(config:=cS)only[go_sem,eqT h3,h5,h6,h7,eqF h8,eZt h11,eqT h12,h14,h15,h16]
      refine ag (nu g18) ?_
      obtain ⟨h19,b2⟩|⟨h19,b2⟩:=af b2
      ·cases b2
       obtain rfl:=(ak gb2).symm
       try dsimp only at h
       cases h
       simp(config:=cS)only[go_sem,eqT h3,h5,h6,h7,eqF h8,eZt h11,eqT h12,h14,h15,h16,eqT h19]
      ·cases b2
       simp(config:=cS)only[go_sem,eqT h3,h5,h6,h7,eqF h8,eZt h11,eqT h12,h14,h15,h16,eqF h19]
       refine ao gb2 ?_
       simp(config:=cS)only[go_sem,eqT h3,h5,h6,h7,eqF h8,eZt h11,eqT h12,h14,h15,h16,eqF h19]
     ·cases b2
      simp(config:=cS)only[go_sem,eqT h3,h5,h6,h7,eqF h8,eZt h11,eqF h12]
      refine ao gb2 ?_
      simp(config:=cS)only[go_sem,eqT h3,h5,h6,h7,eqF h8,eZt h11,eqF h12]
    ·cases b2
     obtain rfl:=(ak gb2).symm
     try dsimp only at h
     cases h
     simp(config:=cS)only[go_sem,eqT h3,h5,h6,h7,eqF h8,eZf h11]
  ·cases b2
   obtain rfl:=(ak gb2).symm
   try dsimp only at h
   cases h
   simp(config:=cS)only[go_sem,eqF h3]
attribute [go_sem] Tryz.ntmps243 Tryz.results243
theorem EH {n:GNode}{res:Bool}(h:mc n=some res):ap Tryz.prog 243 [.agg (GNode.encS n)] [] (.lit (.bool res)) []:=by
 refine aj (ra:=[]) (md:=mdT) hT (hi:=hi00) Tryz.func243 rfl rfl (by decide +kernel) (by simp) ?_
 unfold mc at h
 obtain ⟨r1001,g1,h⟩:=ae h
 simp(config:=cS)only[go_sem]
 refine ag (EG g1) ?_
 obtain ⟨h2,h⟩|⟨h2,h⟩:=af h
 ·obtain ⟨r1002,g3,h⟩:=ae h
  simp(config:=cS)only[go_sem,eZt h2]
  refine ag (nw g3) ?_
  obtain ⟨h4,h⟩|⟨h4,h⟩:=af h
  ·obtain ⟨r1003,g5,h⟩:=ae h
   simp(config:=cS)only[go_sem,eZt h2,eZt h4]
   refine ag (bU g5) ?_
   cases h
   simp(config:=cS)only[go_sem,eZt h2,eZt h4]
  ·cases h
   simp(config:=cS)only[go_sem,eZt h2,eZf h4]
 ·cases h
  simp(config:=cS)only[go_sem,eZf h2]
def ob (name:ByteArray)(v8:List GNode)(v9 v10:Int):St:=⟨[(1,.lit (.string name)),(8,.sl (ab GNode.encS v8)),(9,.lit (.int .i64 v9)),(10,.lit (.int .i64 v10))],[],2⟩
attribute [go_sem] ob
attribute [go_sem] Tryz.ntmps244 Tryz.results244
theorem zJ {s:GShow}{name:ByteArray}{res:Int}(h:jm s name=some res):ap Tryz.prog 244 [.agg (GShow.encS s),.lit (.string name)] [] (.lit (.int .i64 res)) []:=by
 refine aj (ra:=[]) (md:=mdT) hT (hi:=hi00) Tryz.func244 rfl rfl (by decide +kernel) (by simp) ?_
 unfold jm at h
 obtain ⟨q1002,l1,h⟩:=ae h
 simp(config:=cS)only[go_sem]
 refine an (m1:=.mk) (m2:=.mk) [.nf [1,8,9,10] []] (ob name s.nodes ((s.nodes.length:Nat):Int)) l1 ?_ ?_
 ·simp(config:=cS)only[go_sem]
 ·intro nb2 v10_1 bb2 b2 gb2
  unfold dI at b2
  try dsimp only at b2
  obtain ⟨h3,b2⟩|⟨h3,b2⟩:=af b2
  ·obtain ⟨x1001,g4,b2⟩:=ae b2
   obtain ⟨h5,h6,h7⟩:=ai g4
   obtain ⟨h8,b2⟩|⟨h8,b2⟩:=af b2
   ·cases b2
    obtain rfl:=(ak gb2).symm
    try dsimp only at h
    cases h
    simp(config:=cS)only[go_sem,eqT h3,h5,h6,h7,eqT h8]
   ·cases b2
    simp(config:=cS)only[go_sem,eqT h3,h5,h6,h7,eqF h8]
    refine ao gb2 ?_
    simp(config:=cS)only[go_sem]
  ·cases b2
   obtain rfl:=(ak gb2).symm
   try dsimp only at h
   cases h
   simp(config:=cS)only[go_sem,eqF h3]
def nM (p:Int)(v8:List GNode)(v9 v10:Int):St:=⟨[(1,.lit (.int .i64 p)),(8,.sl (ab GNode.encS v8)),(9,.lit (.int .i64 v9)),(10,.lit (.int .i64 v10))],[],2⟩
attribute [go_sem] nM
attribute [go_sem] Tryz.ntmps136 Tryz.results136
theorem fq {s:GShow}{p res:Int}(h:bE s p=some res):ap Tryz.prog 136 [.agg (GShow.encS s),.lit (.int .i64 p)] [] (.lit (.int .i64 res)) []:=by
 refine aj (ra:=[]) (md:=mdT) hT (hi:=hi00) Tryz.func136 rfl rfl (by decide +kernel) (by simp) ?_
 unfold bE at h
 obtain ⟨q1002,l1,h⟩:=ae h
 simp(config:=cS)only[go_sem]
 refine an (m1:=.mk) (m2:=.mk) [.nf [1,8,9,10] []] (nM p s.nodes ((s.nodes.length:Nat):Int)) l1 ?_ ?_
 ·simp(config:=cS)only[go_sem]
 ·intro nb2 v10_1 bb2 b2 gb2
  unfold dn at b2
  try dsimp only at b2
  obtain ⟨h3,b2⟩|⟨h3,b2⟩:=af b2
  ·obtain ⟨x1001,g4,b2⟩:=ae b2
   obtain ⟨h5,h6,h7⟩:=ai g4
   obtain ⟨h8,b2⟩|⟨h8,b2⟩:=af b2
   ·cases b2
    obtain rfl:=(ak gb2).symm
    try dsimp only at h
    cases h
    simp(config:=cS)only[go_sem,eqT h3,h5,h6,h7,eqT h8]
   ·cases b2
    simp(config:=cS)only[go_sem,eqT h3,h5,h6,h7,eqF h8]
    refine ao gb2 ?_
    simp(config:=cS)only[go_sem]
  ·cases b2
   obtain rfl:=(ak gb2).symm
   try dsimp only at h
   cases h
   simp(config:=cS)only[go_sem,eqF h3]
def qX (n:Int)(v7:List Int)(v8 v9:Int):St:=⟨[(1,.lit (.int .i64 n)),(7,.sl (ab eI v7)),(8,.lit (.int .i64 v8)),(9,.lit (.int .i64 v9))],[],2⟩
attribute [go_sem] qX
attribute [go_sem] Tryz.ntmps198 Tryz.results198
theorem jL {l:List Int}{n:Int}{res:Bool}(h:cf l n=some res):ap Tryz.prog 198 [.sl (ab eI l),.lit (.int .i64 n)] [] (.lit (.bool res)) []:=by
 refine aj (ra:=[]) (md:=mdT) hT (hi:=hi00) Tryz.func198 rfl rfl (by decide +kernel) (by simp) ?_
 unfold cf at h
 obtain ⟨q1002,l1,h⟩:=ae h
 simp(config:=cS)only[go_sem]
 refine an (m1:=.mk) (m2:=.mk) [.nf [1,7,8,9] []] (qX n l ((l.length:Nat):Int)) l1 ?_ ?_
 ·simp(config:=cS)only[go_sem]
 ·intro nb2 v9_1 bb2 b2 gb2
  unfold gx at b2
  try dsimp only at b2
  obtain ⟨h3,b2⟩|⟨h3,b2⟩:=af b2
  ·obtain ⟨x1001,g4,b2⟩:=ae b2
   obtain ⟨h5,h6,h7⟩:=ai g4
   obtain ⟨h8,b2⟩|⟨h8,b2⟩:=af b2
   ·cases b2
    obtain rfl:=(ak gb2).symm
    try dsimp only at h
    cases h
    simp(config:=cS)only[go_sem,eqT h3,h5,h6,h7,eqT h8]
   ·cases b2
    simp(config:=cS)only[go_sem,eqT h3,h5,h6,h7,eqF h8]
    refine ao gb2 ?_
    simp(config:=cS)only[go_sem]
  ·cases b2
   obtain rfl:=(ak gb2).symm
   try dsimp only at h
   cases h
   simp(config:=cS)only[go_sem,eqF h3]
def mG (a v15:List Int)(v16 v17:Int):St:=⟨[(0,.sl (ab eI a)),(15,.sl (ab eI v15)),(16,.lit (.int .i64 v16)),(17,.lit (.int .i64 v17))],[],2⟩
attribute [go_sem] mG
attribute [go_sem] Tryz.ntmps246 Tryz.results246
theorem wA {a b:List Int}{res:Bool}(h:dJ a b=some res):ap Tryz.prog 246 [.sl (ab eI a),.sl (ab eI b)] [] (.lit (.bool res)) []:=by
 refine aj (ra:=[]) (md:=mdT) hT (hi:=hi00) Tryz.func246 rfl rfl (by decide +kernel) (by simp) ?_
 unfold dJ at h
 obtain ⟨r1001,g1,h⟩:=ae h
 simp(config:=cS)only[go_sem]
 refine ag (nw g1) ?_
 obtain ⟨h2,h⟩|⟨h2,h⟩:=af h
 ·obtain ⟨r1002,g3,h⟩:=ae h
  simp(config:=cS)only[go_sem,eZt h2]
  refine ag (nw g3) ?_
  obtain ⟨h4,h⟩|⟨h4,h⟩:=af h
  ·obtain ⟨q1005,l5,h⟩:=ae h
   simp(config:=cS)only[go_sem,eZt h2,eZt h4]
   refine an (m1:=.mk) (m2:=.mk) [.nf [0,15,16,17] []] (mG a b ((b.length:Nat):Int)) l5 ?_ ?_
   ·simp(config:=cS)only[go_sem,eZt h2,eZt h4]
   ·intro nb6 v17_1 bb6 b6 gb6
    unfold cH at b6
    try dsimp only at b6
    obtain ⟨h7,b6⟩|⟨h7,b6⟩:=af b6
    ·obtain ⟨x1003,g8,b6⟩:=ae b6
     obtain ⟨h9,h10,h11⟩:=ai g8
     obtain ⟨r1004,g12,b6⟩:=ae b6
     simp(config:=cS)only[go_sem,eZt h2,eZt h4,eqT h7,h9,h10,h11]
     refine ag (jL g12) ?_
     obtain ⟨h13,b6⟩|⟨h13,b6⟩:=af b6
     ·cases b6
      simp(config:=cS)only[go_sem,eZt h2,eZt h4,eqT h7,h9,h10,h11,eZt h13]
      refine ao gb6 ?_
      simp(config:=cS)only[go_sem,eZt h2,eZt h4,eqT h7,h9,h10,h11,eZt h13]
     ·cases b6
      obtain rfl:=(ak gb6).symm
      try dsimp only at h
      cases h
      simp(config:=cS)only[go_sem,eZt h2,eZt h4,eqT h7,h9,h10,h11,eZf h13]
    ·cases b6
     obtain rfl:=(ak gb6).symm
     try dsimp only at h
     cases h
     simp(config:=cS)only[go_sem,eZt h2,eZt h4,eqF h7]
  ·cases h
   simp(config:=cS)only[go_sem,eZt h2,eZf h4]
 ·cases h
  simp(config:=cS)only[go_sem,eZf h2]
def pu (v33:List GNode)(v34:Int)(s_1:List GTie)(s_2 v35:Int):St:=⟨[(1,.ptr 64 1 0 0),(33,.sl (ab GNode.encS v33)),(34,.lit (.int .i64 v34)),(35,.lit (.int .i64 v35))],[(64,1,.var [.sl (ab GNode.encS v33),.sl (ab GTie.enc s_1),.lit (.int .i64 s_2)])],2⟩
attribute [go_sem] pu
def pv (v66:List GNode)(v67 v68:Int)(v73:List Int)(v74:Int)(s_1:List GTie)(s_2:Int)(n_0:ByteArray)(n_2 v75:Int):St:=⟨[(1,.ptr 64 1 0 0),(6,.ptr 384 1 0 0),(66,.sl (ab GNode.encS v66)),(67,.lit (.int .i64 v67)),(68,.lit (.int .i64 v68)),(73,.sl (ab eI v73)),(74,.lit (.int .i64 v74)),(75,.lit (.int .i64 v75))],[(64,1,.var [.sl (ab GNode.encS v66),.sl (ab GTie.enc s_1),.lit (.int .i64 s_2)]),(384,1,.var [.lit (.string n_0),.sl (ab eI v73),.lit (.int .i64 n_2)])],2⟩
attribute [go_sem] pv
def pw (v66:List GNode)(v67:Int)(s_1:List GTie)(s_2 v68:Int):St:=⟨[(1,.ptr 64 1 0 0),(66,.sl (ab GNode.encS v66)),(67,.lit (.int .i64 v67)),(68,.lit (.int .i64 v68))],[(64,1,.var [.sl (ab GNode.encS v66),.sl (ab GTie.enc s_1),.lit (.int .i64 s_2)])],2⟩
attribute [go_sem] pw
@[go_sem] def hi213_16:DT:=.i2 0 (.i2 1 (.i2 2 (.i2 3 (.i2 4 (.i2 5 (.i2 6 (.i2 7 (.i2 8 (.i2 9 (.i2 10 (.i2 11 (.i2 12 (.i2 13 (.i2 14 (.i2 15 (.i2 16 (.i2 17 (.i2 18 (.i2 19 (.i2 20 (.i2 21 (.i2 22 (.i2 23 (.i2 24 (.i2 25 (.i2 26 (.i2 27 (.i2 28 (.i2 29 (.i2 30 (.i2 31 (.i2 32 (.i2 33 (.i2 34 .nil))))))))))))))))))))))))))))))))))
@[go_sem] def hi213_15:DT:=.i1 0 (.i2 1 (.i0 2 [0] (.i2 3 (.i2 4 .nil))))
def By:Hint where
 acts:=fun _=>[]
 draws:=fun
  | 15=>⟨hi213_15,[[],[],[1],[0,1,2],[0,1,2,3]],.range 5⟩
  | 16=>⟨hi213_16,[[],[0],[0,1],[0,1,2],[0,1,2,3],[0,1,2],.range 6,.range 7,.range 8,[0,1,2],.range 10,.range 11,.range 12,.range 13,.range 14,.range 13,.range 16,.range 17,.range 18,.range 13,[0,1,2,3,4,5,6,7,8,9,10,11,12,19],.range 21,.range 22,.range 23,.range 24,.range 25,.range 24,[0,1,2,3,4,5,6,7,8,9,10,11,12,13,14,15,16,17,18,19,20,21,22,23,26],.range 24,[0,1,2,3,4,5,6,7,8,9,10,11,12,13,14,15,16,17,18,19,20,21,22,23,26,27,28],[0,1,2,3,4,5,6,7,8,9,10,11,12,13,14,15,16,17,18,19,20,21,22,23,26,27,28,29],[0,1,2,3,4,5,6,7,8,9,10,11,12,13,14,15,16,17,18,19,20,21,22,23,26,27,28,29,30],.range 32,.range 33,.range 34],.range 35⟩
  | _=>⟨.nil,[],[]⟩
theorem PD (i:Nat):By.acts i=[]:=rfl
theorem PE (i:Nat):By.views i=none:=rfl
attribute [go_sem] PD PE Tryz.ntmps213 Tryz.results213
@[go_sem] theorem SS:(By.draws 15).order=hi213_15:=rfl
@[go_sem] theorem ST:(By.draws 16).order=hi213_16:=rfl
theorem Bz {s:GShow}{res:Bool}(h:jZ s=some res):ap Tryz.prog 213 [.agg (GShow.encS s)] [] (.lit (.bool res)) []:=by
 refine aj (ra:=[]) (md:=mdT) hT (hi:=By) Tryz.func213 rfl rfl (by decide +kernel) (by simp) ?_
 unfold jZ at h
 obtain ⟨r1001,g1,h⟩:=ae h
 simp(config:=cS)only[go_sem]
 refine ag (bU g1) ?_
 obtain ⟨h2,h⟩|⟨h2,h⟩:=af h
 ·obtain ⟨x1002,g3,h⟩:=ae h
  obtain ⟨h5,h6⟩:=dy (k:=0) g3
  obtain ⟨h7,h⟩|⟨h7,h⟩:=af h
  ·cases h
   simp(config:=cS)only[go_sem,eZt h2,h5,h6,eqT h7]
  ·obtain ⟨h8,h⟩|⟨h8,h⟩:=af h
   ·obtain ⟨q1017,l9,h⟩:=ae h
    simp(config:=cS)only[go_sem,eZt h2,h5,h6,eqF h7,eqT h8]
    refine an (m1:=.mk) (m2:=.mk) [.nf [1,33,34,35] [64]] (pu s.nodes ((s.nodes.length:Nat):Int) s.ties s.horizon) l9 ?_ ?_
    ·simp(config:=cS)only[go_sem,eZt h2,h5,h6,eqF h7,eqT h8]
    ·intro nb10 v35_1 bb10 b10 gb10
     unfold em at b10
     try dsimp only at b10
     obtain ⟨h11,b10⟩|⟨h11,b10⟩:=af b10
     ·obtain ⟨x1003,g12,b10⟩:=ae b10
      obtain ⟨h13,h14,h15⟩:=ai g12
      obtain ⟨r1004,g16,b10⟩:=ae b10
      simp(config:=cS)only[go_sem,eZt h2,h5,h6,eqF h7,eqT h8,eqT h11,h13,h14,h15]
      refine ag (EH g16) ?_
      obtain ⟨h17,b10⟩|⟨h17,b10⟩:=af b10
      ·obtain ⟨r1005,g18,b10⟩:=ae b10
       simp(config:=cS)only[go_sem,eZt h2,h5,h6,eqF h7,eqT h8,eqT h11,h13,h14,h15,eZt h17]
       refine ag (zJ g18) ?_
       obtain ⟨h19,b10⟩|⟨h19,b10⟩:=af b10
       ·obtain ⟨h20,b10⟩|⟨h20,b10⟩:=af b10
        ·cases b10
         simp(config:=cS)only[go_sem,eZt h2,h5,h6,eqF h7,eqT h8,eqT h11,h13,h14,h15,eZt h17,eqT h19,eqT h20]
         refine ao gb10 ?_
         simp(config:=cS)only[go_sem,eZt h2,h5,h6,eqF h7,eqT h8,eqT h11,h13,h14,h15,eZt h17,eqT h19,eqT h20]
        ·obtain ⟨r1006,g21,b10⟩:=ae b10
         simp(config:=cS)only[go_sem,eZt h2,h5,h6,eqF h7,eqT h8,eqT h11,h13,h14,h15,eZt h17,eqT h19,eqF h20]
         refine ag (fq g21) ?_
         obtain ⟨h22,b10⟩|⟨h22,b10⟩:=af b10
         ·cases b10
          simp(config:=cS)only[go_sem,eZt h2,h5,h6,eqF h7,eqT h8,eqT h11,h13,h14,h15,eZt h17,eqT h19,eqF h20,eqT h22]
          refine ao gb10 ?_
          simp(config:=cS)only[go_sem,eZt h2,h5,h6,eqF h7,eqT h8,eqT h11,h13,h14,h15,eZt h17,eqT h19,eqF h20,eqT h22]
         ·cases b10
          obtain rfl:=(ak gb10).symm
          try dsimp only at h
          cases h
          simp(config:=cS)only[go_sem,eZt h2,h5,h6,eqF h7,eqT h8,eqT h11,h13,h14,h15,eZt h17,eqT h19,eqF h20,eqF h22]
       ·cases b10
        obtain rfl:=(ak gb10).symm
        try dsimp only at h
        cases h
        simp(config:=cS)only[go_sem,eZt h2,h5,h6,eqF h7,eqT h8,eqT h11,h13,h14,h15,eZt h17,eqF h19]
      ·cases b10
       obtain rfl:=(ak gb10).symm
       try dsimp only at h
       cases h
       simp(config:=cS)only[go_sem,eZt h2,h5,h6,eqF h7,eqT h8,eqT h11,h13,h14,h15,eZf h17]
     ·cases b10
      obtain rfl:=(ak gb10).symm
      try dsimp only at h
      obtain ⟨q1016,l27,h⟩:=ae h
      simp(config:=cS)only[go_sem,eZt h2,h5,h6,eqF h7,eqT h8,eqF h11]
      refine an (m1:=.mk) (m2:=.mk) [.nf [1,66,67,68] [64]] (pw s.nodes ((s.nodes.length:Nat):Int) s.ties s.horizon) l27 ?_ ?_
      ·simp(config:=cS)only[go_sem,eZt h2,h5,h6,eqF h7,eqT h8,eqF h11]
      ·intro nb28 v68_2 bb28 b28 gb28
       unfold ep at b28
       try dsimp only at b28
       obtain ⟨h29,b28⟩|⟨h29,b28⟩:=af b28
       ·obtain ⟨x1007,g30,b28⟩:=ae b28
        obtain ⟨h31,h32,h33⟩:=ai g30
        obtain ⟨q1015,l34,b28⟩:=ae b28
        simp(config:=cS)only[go_sem,eZt h2,h5,h6,eqF h7,eqT h8,eqF h11,eqT h29,h31,h32,h33]
        refine an (m1:=.mk) (m2:=.mk) [.nf [1,6,66,67,68,73,74,75] [64,384]] (pv s.nodes ((s.nodes.length:Nat):Int) v68_2 x1007.label ((x1007.label.length:Nat):Int) s.ties s.horizon x1007.name x1007.watch) l34 ?_ ?_
        ·simp(config:=cS)only[go_sem,eZt h2,h5,h6,eqF h7,eqT h8,eqF h11,eqT h29,h31,h32,h33]
        ·intro nb35 v75_3 bb35 b35 gb35
         unfold eo at b35
         try dsimp only at b35
         obtain ⟨h36,b35⟩|⟨h36,b35⟩:=af b35
         ·obtain ⟨x1008,g37,b35⟩:=ae b35
          obtain ⟨h38,h39,h40⟩:=ai g37
          obtain ⟨r1009,g41,b35⟩:=ae b35
          simp(config:=cS)only[go_sem,eZt h2,h5,h6,eqF h7,eqT h8,eqF h11,eqT h29,h31,h32,h33,eqT h36,h38,h39,h40]
          refine ag (nu g41) ?_
          obtain ⟨r1010,g42,b35⟩:=ae b35
          simp(config:=cS)only[go_sem,eZt h2,h5,h6,eqF h7,eqT h8,eqF h11,eqT h29,h31,h32,h33,eqT h36,h38,h39,h40]
          refine ag (fq g42) ?_
          obtain ⟨h43,b35⟩|⟨h43,b35⟩:=af b35
          ·cases b35
           obtain rfl:=(ak gb35).symm
           try dsimp only at b28
           cases b28
           obtain rfl:=(ak gb28).symm
           try dsimp only at h
           cases h
           simp(config:=cS)only[go_sem,eZt h2,h5,h6,eqF h7,eqT h8,eqF h11,eqT h29,h31,h32,h33,eqT h36,h38,h39,h40,eqT h43]
          ·obtain ⟨x1011,g46,b35⟩:=ae b35
           obtain ⟨h47,h48,h49⟩:=ai g46
           obtain ⟨r1012,g50,b35⟩:=ae b35
           simp(config:=cS)only[go_sem,eZt h2,h5,h6,eqF h7,eqT h8,eqF h11,eqT h29,h31,h32,h33,eqT h36,h38,h39,h40,eqF h43,h47,h48,h49]
           refine ag (jL g50) ?_
           obtain ⟨h51,b35⟩|⟨h51,b35⟩:=af b35
           ·cases b35
            obtain rfl:=(ak gb35).symm
            try dsimp only at b28
            cases b28
            obtain rfl:=(ak gb28).symm
            try dsimp only at h
            cases h
            simp(config:=cS)only[go_sem,eZt h2,h5,h6,eqF h7,eqT h8,eqF h11,eqT h29,h31,h32,h33,eqT h36,h38,h39,h40,eqF h43,h47,h48,h49,eZt h51]
           ·obtain ⟨r1013,g54,b35⟩:=ae b35
            simp(config:=cS)only[go_sem,eZt h2,h5,h6,eqF h7,eqT h8,eqF h11,eqT h29,h31,h32,h33,eqT h36,h38,h39,h40,eqF h43,h47,h48,h49,eZf h51]
            refine ag (jL g54) ?_
            obtain ⟨h55,b35⟩|⟨h55,b35⟩:=af b35
            ·cases b35
             obtain rfl:=(ak gb35).symm
             try dsimp only at b28
             cases b28
             obtain rfl:=(ak gb28).symm
             try dsimp only at h
             cases h
             simp(config:=cS)only[go_sem,eZt h2,h5,h6,eqF h7,eqT h8,eqF h11,eqT h29,h31,h32,h33,eqT h36,h38,h39,h40,eqF h43,h47,h48,h49,eZf h51,eZt h55]
            ·obtain ⟨r1014,g58,b35⟩:=ae b35
             simp(config:=cS)only[go_sem,eZt h2,h5,h6,eqF h7,eqT h8,eqF h11,eqT h29,h31,h32,h33,eqT h36,h38,h39,h40,eqF h43,h47,h48,h49,eZf h51,eZf h55]
             refine ag (wA g58) ?_
             obtain ⟨h59,b35⟩|⟨h59,b35⟩:=af b35
             ·cases b35
              simp(config:=cS)only[go_sem,eZt h2,h5,h6,eqF h7,eqT h8,eqF h11,eqT h29,h31,h32,h33,eqT h36,h38,h39,h40,eqF h43,h47,h48,h49,eZf h51,eZf h55,eZt h59]
              refine ao gb35 ?_
              simp(config:=cS)only[go_sem,eZt h2,h5,h6,eqF h7,eqT h8,eqF h11,eqT h29,h31,h32,h33,eqT h36,h38,h39,h40,eqF h43,h47,h48,h49,eZf h51,eZf h55,eZt h59]
             ·cases b35
              obtain rfl:=(ak gb35).symm
              try dsimp only at b28
              cases b28
              obtain rfl:=(ak gb28).symm
              try dsimp only at h
              cases h
              simp(config:=cS)only[go_sem,eZt h2,h5,h6,eqF h7,eqT h8,eqF h11,eqT h29,h31,h32,h33,eqT h36,h38,h39,h40,eqF h43,h47,h48,h49,eZf h51,eZf h55,eZf h59]
         ·cases b35
          obtain rfl:=(ak gb35).symm
          try dsimp only at b28
          cases b28
          simp(config:=cS)only[go_sem,eZt h2,h5,h6,eqF h7,eqT h8,eqF h11,eqT h29,h31,h32,h33,eqF h36]
          refine ao gb28 ?_
          simp(config:=cS)only[go_sem,eZt h2,h5,h6,eqF h7,eqT h8,eqF h11,eqT h29,h31,h32,h33,eqF h36]
       ·cases b28
        obtain rfl:=(ak gb28).symm
        try dsimp only at h
        cases h
        simp(config:=cS)only[go_sem,eZt h2,h5,h6,eqF h7,eqT h8,eqF h11,eqF h29]
   ·cases h
    simp(config:=cS)only[go_sem,eZt h2,h5,h6,eqF h7,eqF h8]
 ·cases h
  simp(config:=cS)only[go_sem,eZf h2]
def qk (b v12:List Int)(v13 v14:Int):St:=⟨[(1,.sl (ab eI b)),(12,.sl (ab eI v12)),(13,.lit (.int .i64 v13)),(14,.lit (.int .i64 v14))],[],2⟩
attribute [go_sem] qk
attribute [go_sem] Tryz.ntmps233 Tryz.results233
theorem nx {a b:List Int}{res:Bool}(h:eu a b=some res):ap Tryz.prog 233 [.sl (ab eI a),.sl (ab eI b)] [] (.lit (.bool res)) []:=by
 refine aj (ra:=[]) (md:=mdT) hT (hi:=hi00) Tryz.func233 rfl rfl (by decide +kernel) (by simp) ?_
 unfold eu at h
 obtain ⟨h1,h⟩|⟨h1,h⟩:=af h
 ·obtain ⟨q1003,l2,h⟩:=ae h
  simp(config:=cS)only[go_sem,eqT h1]
  refine an (m1:=.mk) (m2:=.mk) [.nf [1,12,13,14] []] (qk b a ((a.length:Nat):Int)) l2 ?_ ?_
  ·simp(config:=cS)only[go_sem]
  ·intro nb3 v14_1 bb3 b3 gb3
   unfold fz at b3
   try dsimp only at b3
   obtain ⟨h4,b3⟩|⟨h4,b3⟩:=af b3
   ·obtain ⟨x1001,g5,b3⟩:=ae b3
    obtain ⟨h6,h7,h8⟩:=ai g5
    obtain ⟨x1002,g9,b3⟩:=ae b3
    obtain ⟨h10,h11,h12⟩:=ai g9
    obtain ⟨h13,b3⟩|⟨h13,b3⟩:=af b3
    ·cases b3
     simp(config:=cS)only[go_sem,eqT h4,h6,h7,h8,h10,h11,h12,eqT h13]
     refine ao gb3 ?_
     simp(config:=cS)only[go_sem]
    ·cases b3
     obtain rfl:=(ak gb3).symm
     try dsimp only at h
     cases h
     simp(config:=cS)only[go_sem,eqT h4,h6,h7,h8,h10,h11,h12,eqF h13]
   ·cases b3
    obtain rfl:=(ak gb3).symm
    try dsimp only at h
    cases h
    simp(config:=cS)only[go_sem,eqF h4]
 ·cases h
  simp(config:=cS)only[go_sem,eqF h1]
def ql (node:Int)(v8:List GTie)(v9 v10:Int):St:=⟨[(1,.lit (.int .i64 node)),(8,.sl (ab GTie.enc v8)),(9,.lit (.int .i64 v9)),(10,.lit (.int .i64 v10))],[],2⟩
attribute [go_sem] ql
attribute [go_sem] Tryz.ntmps247 Tryz.results247
theorem uZ {s:GShow}{node res:Int}(h:jb s node=some res):ap Tryz.prog 247 [.agg (GShow.encS s),.lit (.int .i64 node)] [] (.lit (.int .i64 res)) []:=by
 refine aj (ra:=[]) (md:=mdT) hT (hi:=hi00) Tryz.func247 rfl rfl (by decide +kernel) (by simp) ?_
 unfold jb at h
 obtain ⟨q1002,l1,h⟩:=ae h
 simp(config:=cS)only[go_sem]
 refine an (m1:=.mk) (m2:=.mk) [.nf [1,8,9,10] []] (ql node s.ties ((s.ties.length:Nat):Int)) l1 ?_ ?_
 ·simp(config:=cS)only[go_sem]
 ·intro nb2 v10_1 bb2 b2 gb2
  unfold fA at b2
  try dsimp only at b2
  obtain ⟨h3,b2⟩|⟨h3,b2⟩:=af b2
  ·obtain ⟨x1001,g4,b2⟩:=ae b2
   obtain ⟨h5,h6,h7⟩:=ai g4
   obtain ⟨h8,b2⟩|⟨h8,b2⟩:=af b2
   ·obtain ⟨h9,b2⟩|⟨h9,b2⟩:=af b2
    ·cases b2
     obtain rfl:=(ak gb2).symm
     try dsimp only at h
     cases h
     simp(config:=cS)only[go_sem,eqT h3,h5,h6,h7,eZt h8,eqT h9]
    ·cases b2
     simp(config:=cS)only[go_sem,eqT h3,h5,h6,h7,eZt h8,eqF h9]
     refine ao gb2 ?_
     simp(config:=cS)only[go_sem]
   ·cases b2
    simp(config:=cS)only[go_sem,eqT h3,h5,h6,h7,eZf h8]
    refine ao gb2 ?_
    simp(config:=cS)only[go_sem]
  ·cases b2
   obtain rfl:=(ak gb2).symm
   try dsimp only at h
   cases h
   simp(config:=cS)only[go_sem,eqF h3]
@[go_sem] def hi214_5:DT:=.i2 0 (.i2 1 (.i2 2 (.i2 3 (.i2 4 (.i2 5 (.i2 6 (.i2 7 (.i2 8 (.i2 9 (.i2 10 (.i2 11 (.i2 12 (.i2 13 (.i2 14 (.i2 15 (.i2 16 (.i2 17 (.i2 18 (.i2 19 (.i2 20 (.i2 21 (.i2 22 (.i2 23 (.i2 24 (.i2 25 (.i2 26 (.i2 27 (.i2 28 (.i2 29 (.i2 30 (.i2 31 (.i2 32 (.i2 33 (.i2 34 (.i2 35 (.i2 36 (.i2 37 (.i2 38 (.i2 39 (.i2 40 (.i2 41 (.i2 42 (.i2 44 (.i2 43 (.i2 45 (.i2 46 (.i2 47 (.i2 48 .nil))))))))))))))))))))))))))))))))))))))))))))))))
def Ft:Hint where
 acts:=fun _=>[]
 draws:=fun
  | 5=>⟨hi214_5,[[],[0],[0,1],[0,1,2],[0,1,2,3],.range 5,.range 6,.range 7,.range 8,.range 9,.range 10,.range 11,.range 12,.range 13,.range 14,.range 13,[0,1,2,3,4,5,6,7,8,9,10,11,12,15],.range 17,.range 18,.range 19,.range 20,.range 21,.range 22,.range 23,.range 24,.range 23,[0,1,2,3,4,5,6,7,8,9,10,11,12,13,14,15,16,17,18,19,20,21,22,25],.range 27,.range 28,.range 29,.range 23,[0,1,2,3,4,5,6,7,8,9,10,11,12,13,14,15,16,17,18,19,20,21,22,30],.range 23,[0,1,2,3,4,5,6,7,8,9,10,11,12,13,14,15,16,17,18,19,20,21,22,32],[0,1,2,3,4,5,6,7,8,9,10,11,12,13,14,15,16,17,18,19,20,21,22,30,31,32,33],[0,1,2,3,4,5,6,7,8,9,10,11,12,13,14,15,16,17,18,19,20,21,22,30,31,32,33,34],[0,1,2,3,4,5,6,7,8,9,10,11,12,13,14,15,16,17,18,19,20,21,22,30,31,32,33,34,35],.range 37,.range 38,.range 39,.range 40,.range 40,[0,1,2,3,4,5,6,7,8,9,10,11,12,13,14,15,16,17,18,19,20,21,22,23,24,25,26,27,28,29,30,31,32,33,34,35,36,37,38,39,41],.range 43,.range 40,.range 45,.range 46,.range 47,.range 48],.range 49⟩
  | _=>⟨.nil,[],[]⟩
theorem PF (i:Nat):Ft.acts i=[]:=rfl
theorem PG (i:Nat):Ft.views i=none:=rfl
attribute [go_sem] PF PG Tryz.ntmps214 Tryz.results214
@[go_sem] theorem Tg:(Ft.draws 5).order=hi214_5:=rfl
theorem EI {s:GShow}{i:Int}{res:Bool}(h:me s i=some res):ap Tryz.prog 214 [.agg (GShow.encS s),.lit (.int .i64 i)] [] (.lit (.bool res)) []:=by
 refine aj (ra:=[]) (md:=mdT) hT (hi:=Ft) Tryz.func214 rfl rfl (by decide +kernel) (by simp) ?_
 unfold me at h
 obtain ⟨x1001,g1,h⟩:=ae h
 obtain ⟨h2,h3,h4⟩:=ai g1
 obtain ⟨r1002,g5,h⟩:=ae h
 simp(config:=cS)only[go_sem,h2,h3,h4]
 refine ag (bU g5) ?_
 obtain ⟨h6,h⟩|⟨h6,h⟩:=af h
 ·obtain ⟨r1003,g7,h⟩:=ae h
  simp(config:=cS)only[go_sem,h2,h3,h4,eZt h6]
  refine ag (bU g7) ?_
  obtain ⟨h8,h⟩|⟨h8,h⟩:=af h
  ·obtain ⟨h9,h⟩|⟨h9,h⟩:=af h
   ·cases h
    simp(config:=cS)only[go_sem,h2,h3,h4,eZt h6,eZt h8,eqT h9]
   ·obtain ⟨h10,h⟩|⟨h10,h⟩:=af h
    ·cases h
     simp(config:=cS)only[go_sem,h2,h3,h4,eZt h6,eZt h8,eqF h9,eqT h10]
    ·obtain ⟨h11,h⟩|⟨h11,h⟩:=af h
     ·cases h
      simp(config:=cS)only[go_sem,h2,h3,h4,eZt h6,eZt h8,eqF h9,eqF h10,eqT h11]
     ·obtain ⟨h12,h⟩|⟨h12,h⟩:=af h
      ·cases h
       simp(config:=cS)only[go_sem,h2,h3,h4,eZt h6,eZt h8,eqF h9,eqF h10,eqF h11,eqT h12]
      ·obtain ⟨h13,h⟩|⟨h13,h⟩:=af h
       ·obtain ⟨h14,h⟩|⟨h14,h⟩:=af h
        ·obtain ⟨h15,h⟩|⟨h15,h⟩:=af h
         ·cases h
          simp(config:=cS)only[go_sem,h2,h3,h4,eZt h6,eZt h8,eqF h9,eqF h10,eqF h11,eqF h12,eZt h13,eqT h14,eqT h15]
         ·obtain ⟨x1004,g16,h⟩:=ae h
          obtain ⟨h17,h18,h19⟩:=ai g16
          obtain ⟨h20,h⟩|⟨h20,h⟩:=af h
          ·obtain ⟨x1005,g21,h⟩:=ae h
           obtain ⟨h22,h23,h24⟩:=ai g21
           obtain ⟨r1006,g25,h⟩:=ae h
           simp(config:=cS)only[go_sem,h2,h3,h4,eZt h6,eZt h8,eqF h9,eqF h10,eqF h11,eqF h12,eZt h13,eqT h14,eqF h15,h17,h18,h19,eqT h20,h22,h23,h24]
           refine ag (nx g25) ?_
           obtain ⟨h26,h⟩|⟨h26,h⟩:=af h
           ·obtain ⟨r1007,g27,h⟩:=ae h
            simp(config:=cS)only[go_sem,h2,h3,h4,eZt h6,eZt h8,eqF h9,eqF h10,eqF h11,eqF h12,eZt h13,eqT h14,eqF h15,h17,h18,h19,eqT h20,h22,h23,h24,eZt h26]
            refine ag (uZ g27) ?_
            cases h
            simp(config:=cS)only[go_sem,h2,h3,h4,eZt h6,eZt h8,eqF h9,eqF h10,eqF h11,eqF h12,eZt h13,eqT h14,eqF h15,h17,h18,h19,eqT h20,h22,h23,h24,eZt h26]
           ·cases h
            simp(config:=cS)only[go_sem,h2,h3,h4,eZt h6,eZt h8,eqF h9,eqF h10,eqF h11,eqF h12,eZt h13,eqT h14,eqF h15,h17,h18,h19,eqT h20,h22,h23,h24,eZf h26]
          ·cases h
           simp(config:=cS)only[go_sem,h2,h3,h4,eZt h6,eZt h8,eqF h9,eqF h10,eqF h11,eqF h12,eZt h13,eqT h14,eqF h15,h17,h18,h19,eqF h20]
        ·cases h
         simp(config:=cS)only[go_sem,h2,h3,h4,eZt h6,eZt h8,eqF h9,eqF h10,eqF h11,eqF h12,eZt h13,eqF h14]
       ·cases h
        simp(config:=cS)only[go_sem,h2,h3,h4,eZt h6,eZt h8,eqF h9,eqF h10,eqF h11,eqF h12,eZf h13]
  ·cases h
   simp(config:=cS)only[go_sem,h2,h3,h4,eZt h6,eZf h8]
 ·cases h
  simp(config:=cS)only[go_sem,h2,h3,h4,eZf h6]
def qY (v21:Int)(s_0:List GNode)(s_1:List GTie)(s_2 v22:Int):St:=⟨[(1,.ptr 64 1 0 0),(21,.lit (.int .i64 v21)),(22,.lit (.int .i64 v22))],[(64,1,.var [.sl (ab GNode.encS s_0),.sl (ab GTie.enc s_1),.lit (.int .i64 s_2)])],2⟩
attribute [go_sem] qY
attribute [go_sem] Tryz.ntmps137 Tryz.results137
theorem jM {s:GShow}{res:Bool}(h:di s=some res):ap Tryz.prog 137 [.agg (GShow.encS s)] [] (.lit (.bool res)) []:=by
 refine aj (ra:=[]) (md:=mdT) hT (hi:=hi00) Tryz.func137 rfl rfl (by decide +kernel) (by simp) ?_
 unfold di at h
 obtain ⟨r1001,g1,h⟩:=ae h
 simp(config:=cS)only[go_sem]
 refine ag (Bz g1) ?_
 obtain ⟨h2,h⟩|⟨h2,h⟩:=af h
 ·obtain ⟨h3,h⟩|⟨h3,h⟩:=af h
  ·cases h
   simp(config:=cS)only[go_sem,eZt h2,eqT h3]
  ·obtain ⟨r1002,g4,h⟩:=ae h
   simp(config:=cS)only[go_sem,eZt h2,eqF h3]
   refine ag (bU g4) ?_
   obtain ⟨h5,h⟩|⟨h5,h⟩:=af h
   ·obtain ⟨q1004,l6,h⟩:=ae h
    simp(config:=cS)only[go_sem,eZt h5]
    refine an (m1:=.mk) (m2:=.mk) [.nf [1,21,22] [64]] (qY ((s.ties.length:Nat):Int) s.nodes s.ties s.horizon) l6 ?_ ?_
    ·simp(config:=cS)only[go_sem]
    ·intro nb7 v22_1 bb7 b7 gb7
     unfold gy at b7
     try dsimp only at b7
     obtain ⟨h8,b7⟩|⟨h8,b7⟩:=af b7
     ·obtain ⟨r1003,g9,b7⟩:=ae b7
      simp(config:=cS)only[go_sem,eqT h8]
      refine ag (EI g9) ?_
      obtain ⟨h10,b7⟩|⟨h10,b7⟩:=af b7
      ·cases b7
       simp(config:=cS)only[go_sem,eZt h10]
       refine ao gb7 ?_
       simp(config:=cS)only[go_sem]
      ·cases b7
       obtain rfl:=(ak gb7).symm
       try dsimp only at h
       cases h
       simp(config:=cS)only[go_sem,eZf h10]
     ·cases b7
      obtain rfl:=(ak gb7).symm
      try dsimp only at h
      cases h
      simp(config:=cS)only[go_sem,eqF h8]
   ·cases h
    simp(config:=cS)only[go_sem,eZf h5]
 ·cases h
  simp(config:=cS)only[go_sem,eZf h2]
def px (v:List Int)(v6 v7:Int):St:=⟨[(0,.sl (ab eI v)),(5,.sl (ab eI v)),(6,.lit (.int .i64 v6)),(7,.lit (.int .i64 v7))],[],2⟩
attribute [go_sem] px
attribute [go_sem] Tryz.ntmps229 Tryz.results229
theorem BA {v:List Int}{res:Bool}(h:kh v=some res):ap Tryz.prog 229 [.sl (ab eI v)] [] (.lit (.bool res)) []:=by
 refine aj (ra:=[]) (md:=mdT) hT (hi:=hi00) Tryz.func229 rfl rfl (by decide +kernel) (by simp) ?_
 unfold kh at h
 obtain ⟨q1003,l1,h⟩:=ae h
 simp(config:=cS)only[go_sem]
 refine an (m1:=.mk) (m2:=.mk) [.nf [0,5,6,7] []] (px v ((v.length:Nat):Int)) l1 ?_ ?_
 ·simp(config:=cS)only[go_sem]
 ·intro nb2 v7_1 bb2 b2 gb2
  unfold eA at b2
  try dsimp only at b2
  obtain ⟨h3,b2⟩|⟨h3,b2⟩:=af b2
  ·obtain ⟨x1001,g4,b2⟩:=ae b2
   obtain ⟨h5,h6,h7⟩:=ai g4
   obtain ⟨r1002,g8,b2⟩:=ae b2
   simp(config:=cS)only[go_sem,eqT h3,h5,h6,h7]
   refine ag (bU g8) ?_
   obtain ⟨h9,b2⟩|⟨h9,b2⟩:=af b2
   ·cases b2
    simp(config:=cS)only[go_sem,eZt h9]
    refine ao gb2 ?_
    simp(config:=cS)only[go_sem]
   ·cases b2
    obtain rfl:=(ak gb2).symm
    try dsimp only at h
    cases h
    simp(config:=cS)only[go_sem,eZf h9]
  ·cases b2
   obtain rfl:=(ak gb2).symm
   try dsimp only at h
   cases h
   simp(config:=cS)only[go_sem,eqF h3]
def qm (v44:List Int)(v45:Int)(s_0:List GNode)(s_1:List GTie)(s_2 v3_0:Int)(v3_2:List Int)(v46:Int):St:=⟨[(2,.ptr 128 1 0 0),(3,.ptr 192 1 0 0),(44,.sl (ab eI v44)),(45,.lit (.int .i64 v45)),(46,.lit (.int .i64 v46))],[(128,1,.var [.sl (ab GNode.encS s_0),.sl (ab GTie.enc s_1),.lit (.int .i64 s_2)]),(192,1,.var [.lit (.int .i64 v3_0),.sl (ab eI v44),.sl (ab eI v3_2)])],2⟩
attribute [go_sem] qm
def qn (s_0:List GNode)(s_1:List GTie)(s_2 v3_0:Int)(v3_1 v3_2:List Int)(p:Int):St:=⟨[(2,.ptr 128 1 0 0),(3,.ptr 192 1 0 0),(7,.lit (.int .i64 p))],[(128,1,.var [.sl (ab GNode.encS s_0),.sl (ab GTie.enc s_1),.lit (.int .i64 s_2)]),(192,1,.var [.lit (.int .i64 v3_0),.sl (ab eI v3_1),.sl (ab eI v3_2)])],2⟩
attribute [go_sem] qn
@[go_sem] def hi177_13:DT:=.i2 0 (.i2 1 (.i2 2 (.i2 3 (.i2 4 (.i2 5 (.i2 6 (.i2 7 (.i2 8 (.i2 9 (.i2 10 (.i2 11 (.i2 12 (.i2 13 (.i2 14 (.i2 15 (.i2 16 (.i2 17 .nil)))))))))))))))))
def Fu:Hint where
 acts:=fun _=>[]
 draws:=fun
  | 13=>⟨hi177_13,[[],[0],[],[2],[0,1,2,3],.range 5,.range 6,[],[7],[7,8],[7,8,9],[7,8,9,10],[7,8,9],[7,8,9,10,11,12],[7,8,9,10,11,12,13],[7,8,9,10,11,12,13,14],[7,8,9,10,11,12,13,14,15],.range 17],.range 18⟩
  | _=>⟨.nil,[],[]⟩
theorem PH (i:Nat):Fu.acts i=[]:=rfl
theorem PI (i:Nat):Fu.views i=none:=rfl
attribute [go_sem] PH PI Tryz.ntmps177 Tryz.results177
@[go_sem] theorem SU:(Fu.draws 13).order=hi177_13:=rfl
theorem ny {s:GShow}{v1:GState}{res:Bool}(h:dt s v1=some res):ap Tryz.prog 177 [.agg (GShow.encS s),.agg (GState.encS v1)] [] (.lit (.bool res)) []:=by
 refine aj (ra:=[]) (md:=mdT) hT (hi:=Fu) Tryz.func177 rfl rfl (by decide +kernel) (by simp) ?_
 unfold dt at h
 obtain ⟨r1001,g1,h⟩:=ae h
 simp(config:=cS)only[go_sem]
 refine ag (jM g1) ?_
 obtain ⟨h2,h⟩|⟨h2,h⟩:=af h
 ·obtain ⟨r1002,g3,h⟩:=ae h
  simp(config:=cS)only[go_sem,eZt h2]
  refine ag (bU g3) ?_
  obtain ⟨h4,h⟩|⟨h4,h⟩:=af h
  ·obtain ⟨h5,h⟩|⟨h5,h⟩:=af h
   ·obtain ⟨x1003,g6,h⟩:=ae h
    obtain ⟨h8,h9⟩:=dy (k:=0) g6
    obtain ⟨h10,h⟩|⟨h10,h⟩:=af h
    ·obtain ⟨r1004,g11,h⟩:=ae h
     simp(config:=cS)only[go_sem,eZt h2,eZt h4,eqT h5,h8,h9,eqT h10]
     refine ag (BA g11) ?_
     obtain ⟨h12,h⟩|⟨h12,h⟩:=af h
     ·obtain ⟨q1011,l13,h⟩:=ae h
      simp(config:=cS)only[go_sem,eZt h2,eZt h4,eqT h5,h8,h9,eqT h10,eZt h12]
      refine an (m1:=.mk) (m2:=.mk) [.nf [2,3,44,45,46] [128,192]] (qm v1.times ((v1.times.length:Nat):Int) s.nodes s.ties s.horizon v1.now v1.values) l13 ?_ ?_
      ·simp(config:=cS)only[go_sem,eZt h2,eZt h4,eqT h5,h8,h9,eqT h10,eZt h12]
      ·intro nb14 v46_1 bb14 b14 gb14
       unfold fG at b14
       try dsimp only at b14
       obtain ⟨h15,b14⟩|⟨h15,b14⟩:=af b14
       ·obtain ⟨x1005,g16,b14⟩:=ae b14
        obtain ⟨h17,h18,h19⟩:=ai g16
        obtain ⟨h20,b14⟩|⟨h20,b14⟩:=af b14
        ·obtain ⟨r1006,g21,b14⟩:=ae b14
         simp(config:=cS)only[go_sem,eZt h2,eZt h4,eqT h5,h8,h9,eqT h10,eZt h12,eqT h15,h17,h18,h19,eqT h20]
         refine ag (bU g21) ?_
         obtain ⟨h22,b14⟩|⟨h22,b14⟩:=af b14
         ·cases b14
          simp(config:=cS)only[go_sem,eZt h2,eZt h4,eqT h5,h8,h9,eqT h10,eZt h12,eqT h15,h17,h18,h19,eqT h20,eZt h22]
          refine ao gb14 ?_
          simp(config:=cS)only[go_sem,eZt h2,eZt h4,eqT h5,h8,h9,eqT h10,eZt h12,eqT h15,h17,h18,h19,eqT h20,eZt h22]
         ·cases b14
          obtain rfl:=(ak gb14).symm
          try dsimp only at h
          cases h
          simp(config:=cS)only[go_sem,eZt h2,eZt h4,eqT h5,h8,h9,eqT h10,eZt h12,eqT h15,h17,h18,h19,eqT h20,eZf h22]
        ·cases b14
         simp(config:=cS)only[go_sem,eZt h2,eZt h4,eqT h5,h8,h9,eqT h10,eZt h12,eqT h15,h17,h18,h19,eqF h20]
         refine ao gb14 ?_
         simp(config:=cS)only[go_sem,eZt h2,eZt h4,eqT h5,h8,h9,eqT h10,eZt h12,eqT h15,h17,h18,h19,eqF h20]
       ·cases b14
        obtain rfl:=(ak gb14).symm
        try dsimp only at h
        obtain ⟨q1010,l25,h⟩:=ae h
        simp(config:=cS)only[go_sem,eZt h2,eZt h4,eqT h5,h8,h9,eqT h10,eZt h12,eqF h15]
        refine an (m1:=.mk) (m2:=.mk) [.nf [2,3,7] [128,192]] (qn s.nodes s.ties s.horizon v1.now v1.times v1.values) l25 ?_ ?_
        ·simp(config:=cS)only[go_sem,eZt h2,eZt h4,eqT h5,h8,h9,eqT h10,eZt h12,eqF h15]
        ·intro nb26 p_2 bb26 b26 gb26
         unfold fH at b26
         try dsimp only at b26
         obtain ⟨h27,b26⟩|⟨h27,b26⟩:=af b26
         ·obtain ⟨r1007,g28,b26⟩:=ae b26
          simp(config:=cS)only[go_sem,eZt h2,eZt h4,eqT h5,h8,h9,eqT h10,eZt h12,eqF h15,eqT h27]
          refine ag (fq g28) ?_
          obtain ⟨x1008,g29,b26⟩:=ae b26
          obtain ⟨h30,h31,h32⟩:=ai g29
          obtain ⟨h33,b26⟩|⟨h33,b26⟩:=af b26
          ·obtain ⟨x1009,g34,b26⟩:=ae b26
           obtain ⟨h35,h36,h37⟩:=ai g34
           obtain ⟨h38,b26⟩|⟨h38,b26⟩:=af b26
           ·cases b26
            simp(config:=cS)only[go_sem,eZt h2,eZt h4,eqT h5,h8,h9,eqT h10,eZt h12,eqF h15,eqT h27,h30,h31,h32,eqT h33,h35,h36,h37,eqT h38]
            refine ao gb26 ?_
            simp(config:=cS)only[go_sem,eZt h2,eZt h4,eqT h5,h8,h9,eqT h10,eZt h12,eqF h15,eqT h27,h30,h31,h32,eqT h33,h35,h36,h37,eqT h38]
           ·cases b26
            obtain rfl:=(ak gb26).symm
            try dsimp only at h
            cases h
            simp(config:=cS)only[go_sem,eZt h2,eZt h4,eqT h5,h8,h9,eqT h10,eZt h12,eqF h15,eqT h27,h30,h31,h32,eqT h33,h35,h36,h37,eqF h38]
          ·obtain ⟨h40,b26⟩|⟨h40,b26⟩:=af b26
           ·cases b26
            simp(config:=cS)only[go_sem,eZt h2,eZt h4,eqT h5,h8,h9,eqT h10,eZt h12,eqF h15,eqT h27,h30,h31,h32,eqF h33,eqT h40]
            refine ao gb26 ?_
            simp(config:=cS)only[go_sem,eZt h2,eZt h4,eqT h5,h8,h9,eqT h10,eZt h12,eqF h15,eqT h27,h30,h31,h32,eqF h33,eqT h40]
           ·cases b26
            obtain rfl:=(ak gb26).symm
            try dsimp only at h
            cases h
            simp(config:=cS)only[go_sem,eZt h2,eZt h4,eqT h5,h8,h9,eqT h10,eZt h12,eqF h15,eqT h27,h30,h31,h32,eqF h33,eqF h40]
         ·cases b26
          obtain rfl:=(ak gb26).symm
          try dsimp only at h
          cases h
          simp(config:=cS)only[go_sem,eZt h2,eZt h4,eqT h5,h8,h9,eqT h10,eZt h12,eqF h15,eqF h27]
     ·cases h
      simp(config:=cS)only[go_sem,eZt h2,eZt h4,eqT h5,h8,h9,eqT h10,eZf h12]
    ·cases h
     simp(config:=cS)only[go_sem,eZt h2,eZt h4,eqT h5,h8,h9,eqF h10]
   ·cases h
    simp(config:=cS)only[go_sem,eZt h2,eZt h4,eqF h5]
  ·cases h
   simp(config:=cS)only[go_sem,eZt h2,eZf h4]
 ·cases h
  simp(config:=cS)only[go_sem,eZf h2]
def nN (v14:Int)(h640:List Int):(Int × (List Int))→St
 | (v15,h100012289)=>⟨[(2,.ptr 128 1 0 0),(3,.ptr 192 1 0 0),(14,.lit (.int .i64 v14)),(15,.lit (.int .i64 v15))],[(128,1,.var [.lit (.int .i64 0),.lit (.slice none 0 0),.lit (.slice none 0 0)]),(192,1,.var [.lit (.int .i64 0),.ref 100012289 1 0 h100012289.length,.ref 640 1 0 h640.length]),(100012289,1,.row true (ab eI h100012289)),(640,1,.row true (ab eI h640))],2⟩
attribute [go_sem] nN
attribute [go_sem] Tryz.ntmps176 Tryz.results176
theorem sA {s:GShow}{res:GState}(h:fF s=some res):ap Tryz.prog 176 [.agg (GShow.encS s)] [] (.agg [.lit (.int .i64 res.now),.ref 20000 1 0 res.times.length,.ref 20001 1 0 res.values.length]) [(20000,1,.row true (ab eI res.times)),(20001,1,.row true (ab eI res.values))]:=by
 refine aj (ra:=[.homeCell 128 1,.homeCell 128 2]) (md:=mdT) hT (hi:=hi00) Tryz.func176 rfl rfl (by decide +kernel) (by simp) ?_
 unfold fF at h
 obtain ⟨r1001,g1,h⟩:=ae h
 simp(config:=cS)only[go_sem]
 refine ag (jM g1) ?_
 obtain ⟨h2,h⟩|⟨h2,h⟩:=af h
 ·obtain ⟨q1002,l3,h⟩:=ae h
  simp(config:=cS)only[go_sem,eZt h2]
  refine an (m1:=.mk) (m2:=.mk) [.homeCell 192 1,.nf [2,3,14,15] [128,192,100012289,640]] (nN ((s.nodes.length:Nat):Int) (List.replicate 3 0)) l3 ?_ ?_
  ·simp(config:=cS)only[go_sem]
  ·intro nb4 sb4 bb4 b4 gb4
   obtain ⟨v15_1,h100012289_1⟩:=sb4
   unfold dr at b4
   try dsimp only at b4
   obtain ⟨h5,b4⟩|⟨h5,b4⟩:=af b4
   ·obtain ⟨h6,b4⟩|⟨h6,b4⟩:=af b4
    ·obtain ⟨h7,b4⟩:=ah b4
     obtain ⟨h8,b4⟩:=ah b4
     cases b4
     simp(config:=cS)only[go_sem,eqT h5,eqT h6,eqT h7,eqT h8]
     refine ao gb4 ?_
     simp(config:=cS)only[go_sem]
    ·obtain ⟨h9,b4⟩:=ah b4
     obtain ⟨h10,b4⟩:=ah b4
     cases b4
     simp(config:=cS)only[go_sem,eqT h5,eqF h6,eqT h9,eqT h10]
     refine ao gb4 ?_
     simp(config:=cS)only[go_sem]
   ·cases b4
    obtain rfl:=(ak gb4).symm
    try dsimp only at h
    cases h
    simp(config:=cS)only[go_sem,eqF h5]
 ·cases h
  simp(config:=cS)only[go_sem,eZf h2]
def oc (v10:List GTie)(v11 v3_0:Int)(v3_1 v3_2:List Int):(Int × (List Int))→St
 | (v12,out)=>⟨[(3,.ptr 192 1 0 0),(5,.ref 512 1 0 out.length),(10,.sl (ab GTie.enc v10)),(11,.lit (.int .i64 v11)),(12,.lit (.int .i64 v12))],[(192,1,.var [.lit (.int .i64 v3_0),.sl (ab eI v3_1),.sl (ab eI v3_2)]),(512,1,.row true (ab eI out))],2⟩
attribute [go_sem] oc
attribute [go_sem] Tryz.ntmps201 Tryz.results201
theorem tq {s:GShow}{v1:GState}{res:List Int}(h:gC s v1=some res):ap Tryz.prog 201 [.agg (GShow.encS s),.agg (GState.encS v1)] [] (.ref 20000 1 0 res.length) [(20000,1,.row true (ab eI res))]:=by
 refine aj (ra:=[.home 4]) (md:=mdT) hT (hi:=hi00) Tryz.func201 rfl rfl (by decide +kernel) (by simp) ?_
 unfold gC at h
 obtain ⟨q1004,l1,h⟩:=ae h
 simp(config:=cS)only[go_sem]
 refine an (m1:=.mk) (m2:=.mk) [.nf [3,5,10,11,12] [192,512]] (oc s.ties ((s.ties.length:Nat):Int) v1.now v1.times v1.values) l1 ?_ ?_
 ·simp(config:=cS)only[go_sem]
 ·intro nb2 sb2 bb2 b2 gb2
  obtain ⟨v12_1,out_1⟩:=sb2
  unfold fY at b2
  try dsimp only at b2
  obtain ⟨h3,b2⟩|⟨h3,b2⟩:=af b2
  ·obtain ⟨x1001,g4,b2⟩:=ae b2
   obtain ⟨h5,h6,h7⟩:=ai g4
   obtain ⟨h8,b2⟩|⟨h8,b2⟩:=af b2
   ·obtain ⟨x1002,g9,b2⟩:=ae b2
    obtain ⟨h10,h11,h12⟩:=ai g9
    obtain ⟨h13,b2⟩|⟨h13,b2⟩:=af b2
    ·cases b2
     simp(config:=cS)only[go_sem,eqT h3,h5,h6,h7,eZt h8,h10,h11,h12,eqT h13]
     refine ao gb2 ?_
     simp(config:=cS)only[go_sem]
    ·obtain ⟨x1003,g14,b2⟩:=ae b2
     obtain ⟨h15,h16,h17⟩:=ai g14
     obtain ⟨h18,b2⟩|⟨h18,b2⟩:=af b2
     ·obtain ⟨h19,b2⟩:=ah b2
      obtain ⟨h20,b2⟩:=ah b2
      cases b2
      simp(config:=cS)only[go_sem,eqT h3,h5,h6,h7,eZt h8,h10,h11,h12,eqF h13,h15,h16,h17,eqT h18,eqT h19,eqT h20]
      refine ao gb2 ?_
      simp(config:=cS)only[go_sem]
     ·cases b2
      simp(config:=cS)only[go_sem,eqT h3,h5,h6,h7,eZt h8,h10,h11,h12,eqF h13,h15,h16,h17,eqF h18]
      refine ao gb2 ?_
      simp(config:=cS)only[go_sem]
   ·cases b2
    simp(config:=cS)only[go_sem,eqT h3,h5,h6,h7,eZf h8]
    refine ao gb2 ?_
    simp(config:=cS)only[go_sem]
  ·cases b2
   obtain rfl:=(ak gb2).symm
   try dsimp only at h
   cases h
   simp(config:=cS)only[go_sem,eqF h3]
def nO (v16:Int)(s_0:List GNode)(s_1:List GTie)(s_2 v3_0:Int)(v3_1 v3_2 v15:List Int):(Int × (List Int) × (List Int))→St
 | (v17,must,may)=>⟨[(2,.ptr 128 1 0 0),(3,.ptr 192 1 0 0),(6,.ref 704 1 0 must.length),(7,.ref 768 1 0 may.length),(15,.ref 960 1 0 v15.length),(16,.lit (.int .i64 v16)),(17,.lit (.int .i64 v17))],[(128,1,.var [.sl (ab GNode.encS s_0),.sl (ab GTie.enc s_1),.lit (.int .i64 s_2)]),(192,1,.var [.lit (.int .i64 v3_0),.sl (ab eI v3_1),.sl (ab eI v3_2)]),(704,1,.row true (ab eI must)),(768,1,.row true (ab eI may)),(960,1,.row true (ab eI v15))],2⟩
attribute [go_sem] nO
@[go_sem] def hi219_6:DT:=.i2 0 (.i2 1 (.i2 2 (.i2 3 (.i2 4 (.i2 5 (.i2 6 (.i2 7 (.i2 8 (.i2 9 (.i2 10 (.i2 11 (.i2 12 (.i2 13 .nil)))))))))))))
def Fv:Hint where
 acts:=fun _=>[]
 draws:=fun
  | 6=>⟨hi219_6,[[],[0],[],[2],[],[4],[],[4,5,6],[4,5,6,7],[4,5,6,7,8],[2,3,4,5,6,7,8,9],[2,3,4,5,6,7,8,9,10],.range 12,.range 13],.range 14⟩
  | _=>⟨.nil,[],[]⟩
theorem PJ (i:Nat):Fv.acts i=[]:=rfl
theorem PK (i:Nat):Fv.views i=none:=rfl
attribute [go_sem] PJ PK Tryz.ntmps219 Tryz.results219
@[go_sem] theorem Th:(Fv.draws 6).order=hi219_6:=rfl
theorem sB {s:GShow}{v1:GState}{res:(List Int) × (List Int)}(h:fI s v1=some res):ap Tryz.prog 219 [.agg (GShow.encS s),.agg (GState.encS v1)] [] (.tup [.ref 20000 1 0 res.1.length,.ref 20001 1 0 res.2.length]) [(20000,1,.row true (ab eI res.1)),(20001,1,.row true (ab eI res.2))]:=by
 refine aj (ra:=[.home 4,.home 5]) (md:=mdT) hT (hi:=Fv) Tryz.func219 rfl rfl (by decide +kernel) (by simp) ?_
 unfold fI at h
 obtain ⟨r1001,g1,h⟩:=ae h
 simp(config:=cS)only[go_sem]
 refine ag (tq g1) ?_
 obtain ⟨q1005,l2,h⟩:=ae h
 simp(config:=cS)only[go_sem]
 refine an (m1:=.mk) (m2:=.mk) [.nf [2,3,6,7,15,16,17] [128,192,704,768,960]] (nO ((r1001.length:Nat):Int) s.nodes s.ties s.horizon v1.now v1.times v1.values r1001) l2 ?_ ?_
 ·simp(config:=cS)only[go_sem]
 ·intro nb3 sb3 bb3 b3 gb3
  obtain ⟨v17_1,must_1,may_1⟩:=sb3
  unfold fh at b3
  try dsimp only at b3
  obtain ⟨h4,b3⟩|⟨h4,b3⟩:=af b3
  ·obtain ⟨x1002,g5,b3⟩:=ae b3
   obtain ⟨h6,h7,h8⟩:=ai g5
   obtain ⟨x1003,g9,b3⟩:=ae b3
   obtain ⟨h10,h11,h12⟩:=ai g9
   obtain ⟨x1004,g13,b3⟩:=ae b3
   obtain ⟨h14,h15,h16⟩:=ai g13
   obtain ⟨h17,b3⟩|⟨h17,b3⟩:=af b3
   ·obtain ⟨h18,b3⟩:=ah b3
    obtain ⟨h19,b3⟩:=ah b3
    cases b3
    simp(config:=cS)only[go_sem,eqT h4,h6,h7,h8,h10,h11,h12,h14,h15,h16,eqT h17,eqT h18,eqT h19]
    refine ao gb3 ?_
    simp(config:=cS)only[go_sem]
   ·obtain ⟨h20,b3⟩|⟨h20,b3⟩:=af b3
    ·obtain ⟨h21,b3⟩:=ah b3
     obtain ⟨h22,b3⟩:=ah b3
     cases b3
     simp(config:=cS)only[go_sem,eqT h4,h6,h7,h8,h10,h11,h12,h14,h15,h16,eqF h17,eqT h20,eqT h21,eqT h22]
     refine ao gb3 ?_
     simp(config:=cS)only[go_sem]
    ·cases b3
     simp(config:=cS)only[go_sem,eqT h4,h6,h7,h8,h10,h11,h12,h14,h15,h16,eqF h17,eqF h20]
     refine ao gb3 ?_
     simp(config:=cS)only[go_sem]
  ·cases b3
   obtain rfl:=(ak gb3).symm
   try dsimp only at h
   cases h
   simp(config:=cS)only[go_sem,eqF h4]
def qo (n:Int)(v9:List Int)(v10:Int):(Int × (List Int))→St
 | (v11,out)=>⟨[(1,.lit (.int .i64 n)),(5,.ref 512 1 0 out.length),(9,.sl (ab eI v9)),(10,.lit (.int .i64 v10)),(11,.lit (.int .i64 v11))],[(512,1,.row true (ab eI out))],2⟩
attribute [go_sem] qo
attribute [go_sem] Tryz.ntmps221 Tryz.results221
theorem nz {l:List Int}{n:Int}{res:List Int}(h:eC l n=some res):ap Tryz.prog 221 [.sl (ab eI l),.lit (.int .i64 n)] [] (.ref 20000 1 0 res.length) [(20000,1,.row true (ab eI res))]:=by
 refine aj (ra:=[.home 4]) (md:=mdT) hT (hi:=hi00) Tryz.func221 rfl rfl (by decide +kernel) (by simp) ?_
 unfold eC at h
 obtain ⟨q1002,l1,h⟩:=ae h
 simp(config:=cS)only[go_sem]
 refine an (m1:=.mk) (m2:=.mk) [.nf [1,5,9,10,11] [512]] (qo n l ((l.length:Nat):Int)) l1 ?_ ?_
 ·simp(config:=cS)only[go_sem]
 ·intro nb2 sb2 bb2 b2 gb2
  obtain ⟨v11_1,out_1⟩:=sb2
  unfold iF at b2
  try dsimp only at b2
  obtain ⟨h3,b2⟩|⟨h3,b2⟩:=af b2
  ·obtain ⟨x1001,g4,b2⟩:=ae b2
   obtain ⟨h5,h6,h7⟩:=ai g4
   obtain ⟨h8,b2⟩:=ah b2
   obtain ⟨h9,b2⟩|⟨h9,b2⟩:=af b2
   ·obtain ⟨h10,b2⟩:=ah b2
    obtain ⟨h11,b2⟩:=ah b2
    cases b2
    simp(config:=cS)only[go_sem,eqT h3,h5,h6,h7,eqF h8,eqT h9,eqT h10,eqT h11]
    refine ao gb2 ?_
    simp(config:=cS)only[go_sem]
   ·cases b2
    simp(config:=cS)only[go_sem,eqT h3,h5,h6,h7,eqF h8,eqF h9]
    refine ao gb2 ?_
    simp(config:=cS)only[go_sem]
  ·cases b2
   obtain rfl:=(ak gb2).symm
   try dsimp only at h
   cases h
   simp(config:=cS)only[go_sem,eqF h3]
def pz (a b:List Int):(Int × Int × (List Int))→St
 | (i,k,out)=>⟨[(0,.sl (ab eI a)),(1,.sl (ab eI b)),(5,.ref 512 1 0 out.length),(6,.lit (.int .i64 i)),(7,.lit (.int .i64 k))],[(512,1,.row true (ab eI out))],2⟩
attribute [go_sem] pz
@[go_sem] def hi220_5:DT:=.i2 0 (.i2 1 (.i2 2 (.i2 3 (.i2 4 (.i2 5 (.i2 6 (.i2 7 (.i2 8 (.i2 9 (.i2 10 (.i2 11 (.i2 12 (.i2 13 (.i2 14 (.i2 15 (.i2 16 (.i2 17 (.i2 18 (.i2 19 (.i2 20 .nil))))))))))))))))))))
def Fw:Hint where
 acts:=fun _=>[]
 draws:=fun
  | 5=>⟨hi220_5,[[],[],[1],[0,1,2],[0,1,2,3],.range 5,.range 5,[0,1,2,3,4,6],.range 8,.range 9,.range 10,.range 10,.range 12,.range 13,.range 10,.range 10,[0,1,2,3,4,5,6,7,8,9,14,15],[0,1,2,3,4,5,6,7,8,9,14,15,16],.range 18,.range 19,.range 20],.range 21⟩
  | _=>⟨.nil,[],[]⟩
theorem PL (i:Nat):Fw.acts i=[]:=rfl
theorem PM (i:Nat):Fw.views i=none:=rfl
attribute [go_sem] PL PM Tryz.ntmps220 Tryz.results220
@[go_sem] theorem Ti:(Fw.draws 5).order=hi220_5:=rfl
theorem uf {a b res:List Int}(h:fi a b=some res):ap Tryz.prog 220 [.sl (ab eI a),.sl (ab eI b)] [] (.ref 20000 1 0 res.length) [(20000,1,.row true (ab eI res))]:=by
 refine aj (ra:=[.home 4]) (md:=mdT) hT (hi:=Fw) Tryz.func220 rfl rfl (by decide +kernel) (by simp) ?_
 unfold fi at h
 obtain ⟨q1006,l1,h⟩:=ae h
 simp(config:=cS)only[go_sem]
 refine an (m1:=.mk) (m2:=.mk) [.nf [0,1,5,6,7] [512]] (pz a b) l1 ?_ ?_
 ·simp(config:=cS)only[go_sem]
 ·intro nb2 sb2 bb2 b2 gb2
  obtain ⟨i_1,k_1,out_1⟩:=sb2
  unfold hU at b2
  try dsimp only at b2
  obtain ⟨h3,b2⟩|⟨h3,b2⟩:=af b2
  ·obtain ⟨h4,b2⟩|⟨h4,b2⟩:=af b2
   ·obtain ⟨x1001,g5,b2⟩:=ae b2
    obtain ⟨h6,h7,h8⟩:=ai g5
    obtain ⟨h9,b2⟩:=ah b2
    obtain ⟨h10,b2⟩:=ah b2
    cases b2
    simp(config:=cS)only[go_sem,eqT h3,eqT h4,h6,h7,h8,eqT h9,eqT h10]
    refine ao gb2 ?_
    simp(config:=cS)only[go_sem]
   ·obtain ⟨x1002,g11,b2⟩:=ae b2
    obtain ⟨h12,h13,h14⟩:=ai g11
    obtain ⟨x1003,g15,b2⟩:=ae b2
    obtain ⟨h16,h17,h18⟩:=ai g15
    obtain ⟨h19,b2⟩|⟨h19,b2⟩:=af b2
    ·obtain ⟨h20,b2⟩:=ah b2
     obtain ⟨h21,b2⟩:=ah b2
     cases b2
     simp(config:=cS)only[go_sem,eqT h3,eqF h4,h12,h13,h14,h16,h17,h18,eqT h19,eqT h20,eqT h21]
     refine ao gb2 ?_
     simp(config:=cS)only[go_sem]
    ·obtain ⟨h22,b2⟩:=ah b2
     obtain ⟨h23,b2⟩:=ah b2
     cases b2
     simp(config:=cS)only[go_sem,eqT h3,eqF h4,h12,h13,h14,h16,h17,h18,eqF h19,eqT h22,eqT h23]
     refine ao gb2 ?_
     simp(config:=cS)only[go_sem]
  ·obtain ⟨h24,b2⟩|⟨h24,b2⟩:=af b2
   ·obtain ⟨h25,b2⟩|⟨h25,b2⟩:=af b2
    ·obtain ⟨x1004,g26,b2⟩:=ae b2
     obtain ⟨h27,h28,h29⟩:=ai g26
     obtain ⟨h30,b2⟩:=ah b2
     obtain ⟨h31,b2⟩:=ah b2
     cases b2
     simp(config:=cS)only[go_sem,eqF h3,eqT h24,eqT h25,h27,h28,h29,eqT h30,eqT h31]
     refine ao gb2 ?_
     simp(config:=cS)only[go_sem]
    ·obtain ⟨x1005,g32,b2⟩:=ae b2
     obtain ⟨h33,h34,h35⟩:=ai g32
     obtain ⟨h36,b2⟩:=ah b2
     obtain ⟨h37,b2⟩:=ah b2
     cases b2
     simp(config:=cS)only[go_sem,eqF h3,eqT h24,eqF h25,h33,h34,h35,eqT h36,eqT h37]
     refine ao gb2 ?_
     simp(config:=cS)only[go_sem]
   ·cases b2
    obtain rfl:=(ak gb2).symm
    try dsimp only at h
    cases h
    simp(config:=cS)only[go_sem,eqF h3,eqF h24]
def oe (must may:List Int):(Int × (List (List Int)))→St
 | (n,out)=>⟨[(5,.ref 1472 1 0 must.length),(6,.ref 1473 1 0 may.length),(7,.ref 1664 1 0 out.length),(8,.lit (.int .i64 n))],[(1472,1,.row true (ab eI must)),(1473,1,.row true (ab eI may)),(1664,1,.row true (ab (eLO eI) out))],2⟩
attribute [go_sem] oe
attribute [go_sem] Tryz.ntmps150 Tryz.results150
theorem zK {s:GShow}{v1:GState}{res:List (List Int)}(h:jt s v1=some res):ap Tryz.prog 150 [.agg (GShow.encS s),.agg (GState.encS v1)] [] (.ref 20000 1 0 res.length) [(20000,1,.row true (ab (eLO eI) res))]:=by
 refine aj (ra:=[.home 4]) (md:=mdT) hT (hi:=hi00) Tryz.func150 rfl rfl (by decide +kernel) (by simp) ?_
 unfold jt at h
 obtain ⟨r1001,g1,h⟩:=ae h
 simp(config:=cS)only[go_sem]
 refine ag (ny g1) ?_
 obtain ⟨h2,h⟩|⟨h2,h⟩:=af h
 ·obtain ⟨h3,h⟩|⟨h3,h⟩:=af h
  ·cases h
   simp(config:=cS)only[go_sem,eZt h2,eqT h3]
  ·obtain ⟨r1002,g4,h⟩:=ae h
   simp(config:=cS)only[go_sem,eZt h2,eqF h3]
   refine ag (sB g4) ?_
   obtain ⟨q1005,l5,h⟩:=ae h
   simp(config:=cS)only[go_sem]
   refine an (m1:=.mk) (m2:=.mk) [.nf [5,6,7,8] [1472,1473,1664]] (oe r1002.1 r1002.2) l5 ?_ ?_
   ·simp(config:=cS)only[go_sem]
   ·intro nb6 sb6 bb6 b6 gb6
    obtain ⟨n_1,out_1⟩:=sb6
    unfold fZ at b6
    try dsimp only at b6
    obtain ⟨h7,b6⟩:=ah b6
    obtain ⟨h8,b6⟩|⟨h8,b6⟩:=af b6
    ·obtain ⟨r1003,g9,b6⟩:=ae b6
     simp(config:=cS)only[go_sem,eqF h7,eqT h8]
     refine ag (nz g9) ?_
     obtain ⟨r1004,g10,b6⟩:=ae b6
     simp(config:=cS)only[go_sem]
     refine ag (uf g10) ?_
     obtain ⟨h11,b6⟩:=ah b6
     obtain ⟨h12,b6⟩:=ah b6
     cases b6
     simp(config:=cS)only[go_sem,eqT h11,eqT h12]
     refine ao gb6 ?_
     simp(config:=cS)only[go_sem]
    ·cases b6
     obtain rfl:=(ak gb6).symm
     try dsimp only at h
     cases h
     simp(config:=cS)only[go_sem,eqF h7,eqF h8]
 ·cases h
  simp(config:=cS)only[go_sem,eZf h2]
def sa (set:List Int)(v7:List (List Int))(v8 v9:Int):St:=⟨[(1,.sl (ab eI set)),(7,.sl (ab (eLS eI) v7)),(8,.lit (.int .i64 v8)),(9,.lit (.int .i64 v9))],[],2⟩
attribute [go_sem] sa
attribute [go_sem] Tryz.ntmps189 Tryz.results189
theorem xf {l:List (List Int)}{set:List Int}{res:Bool}(h:ls l set=some res):ap Tryz.prog 189 [.sl (ab (eLS eI) l),.sl (ab eI set)] [] (.lit (.bool res)) []:=by
 refine aj (ra:=[]) (md:=mdT) hT (hi:=hi00) Tryz.func189 rfl rfl (by decide +kernel) (by simp) ?_
 unfold ls at h
 obtain ⟨q1003,l1,h⟩:=ae h
 simp(config:=cS)only[go_sem]
 refine an (m1:=.mk) (m2:=.mk) [.nf [1,7,8,9] []] (sa set l ((l.length:Nat):Int)) l1 ?_ ?_
 ·simp(config:=cS)only[go_sem]
 ·intro nb2 v9_1 bb2 b2 gb2
  unfold io at b2
  try dsimp only at b2
  obtain ⟨h3,b2⟩|⟨h3,b2⟩:=af b2
  ·obtain ⟨x1001,g4,b2⟩:=ae b2
   obtain ⟨h5,h6,h7⟩:=ai g4
   obtain ⟨r1002,g8,b2⟩:=ae b2
   simp(config:=cS)only[go_sem,eqT h3,h5,h6,h7]
   refine ag (nx g8) ?_
   obtain ⟨h9,b2⟩|⟨h9,b2⟩:=af b2
   ·cases b2
    obtain rfl:=(ak gb2).symm
    try dsimp only at h
    cases h
    simp(config:=cS)only[go_sem,eZt h9]
   ·cases b2
    simp(config:=cS)only[go_sem,eZf h9]
    refine ao gb2 ?_
    simp(config:=cS)only[go_sem]
  ·cases b2
   obtain rfl:=(ak gb2).symm
   try dsimp only at h
   cases h
   simp(config:=cS)only[go_sem,eqF h3]
@[go_sem] def hi187_1:DT:=.i1 0 (.i1 1 (.i1 3 (.i1 4 (.i1 7 (.i1 8 (.fork (.i0 2 [0,1,3,4,7,8] (.fork (.i0 5 [0,1,7,8] (.i0 6 [0,1,3,4,7,8] (.i0 9 [0,1] (.i2 10 (.i2 11 .nil))))) (.i0 6 [0,1,3,4,7,8] (.i0 5 [0,1,7,8] (.i0 9 [0,1] (.i2 10 (.i2 11 .nil))))))) (.i0 6 [0,1,3,4,7,8] (.i0 2 [0,1,3,4,7,8] (.i0 5 [0,1,7,8] (.i0 9 [0,1] (.i2 10 (.i2 11 .nil))))))))))))
def Fx:Hint where
 acts:=fun _=>[]
 draws:=fun
  | 1=>⟨hi187_1,[[],[0],[],[],[3],[2,3,4],[],[],[7],[2,3,4,5,6,7,8],.range 10,.range 11],.range 12⟩
  | _=>⟨.nil,[],[]⟩
theorem PN (i:Nat):Fx.acts i=[]:=rfl
theorem PO (i:Nat):Fx.views i=none:=rfl
attribute [go_sem] PN PO Tryz.ntmps187 Tryz.results187
@[go_sem] theorem Tj:(Fx.draws 1).order=hi187_1:=rfl
theorem gr {v0 res:GState}(h:du v0=some res):ap Tryz.prog 187 [.agg (GState.encS v0)] [] (.agg [.lit (.int .i64 res.now),.ref 20000 1 0 res.times.length,.ref 20001 1 0 res.values.length]) [(20000,1,.row true (ab eI res.times)),(20001,1,.row true (ab eI res.values))]:=by
 refine aj (ra:=[.homeCell 128 1,.homeCell 128 2]) (md:=mdT) hT (hi:=Fx) Tryz.func187 rfl rfl (by decide +kernel) (by simp) ?_
 unfold du at h
 try simp(config:=cS)only[go_sem]
 refine bg ?_ ?_
 ·try simp(config:=cS)only[go_sem]
  refine bg ?_ ?_
  ·obtain ⟨h1,h⟩:=ah h
   obtain ⟨h2,h⟩:=ah h
   obtain ⟨h3,h⟩:=ah h
   obtain ⟨h4,h⟩:=ah h
   cases h
   simp(config:=cS)only[go_sem,eqT h1,eqT h2,eqT h3,eqT h4]
  ·obtain ⟨h5,h⟩:=ah h
   obtain ⟨h6,h⟩:=ah h
   obtain ⟨h7,h⟩:=ah h
   obtain ⟨h8,h⟩:=ah h
   cases h
   simp(config:=cS)only[go_sem,eqT h5,eqT h6,eqT h7,eqT h8]
 ·obtain ⟨h9,h⟩:=ah h
  obtain ⟨h10,h⟩:=ah h
  obtain ⟨h11,h⟩:=ah h
  obtain ⟨h12,h⟩:=ah h
  cases h
  simp(config:=cS)only[go_sem,eqT h9,eqT h10,eqT h11,eqT h12]
def qZ (v12:List Int)(v13:Int)(s_0:List GNode)(s_1:List GTie)(s_2 v4_0:Int)(v4_1 v4_2:List Int)(out_0:Int)(h705:List Int):(Int × (List Int))→St
 | (v14,h704)=>⟨[(3,.ptr 192 1 0 0),(4,.ptr 256 1 0 0),(6,.ptr 384 1 0 0),(7,.ptr 448 1 0 0),(12,.sl (ab eI v12)),(13,.lit (.int .i64 v13)),(14,.lit (.int .i64 v14))],[(192,1,.var [.sl (ab GNode.encS s_0),.sl (ab GTie.enc s_1),.lit (.int .i64 s_2)]),(256,1,.var [.lit (.int .i64 v4_0),.sl (ab eI v4_1),.sl (ab eI v4_2)]),(384,1,.var [.lit (.int .i64 0),.lit (.slice none 0 0),.lit (.slice none 0 0)]),(448,1,.var [.lit (.int .i64 out_0),.ref 704 1 0 h704.length,.ref 705 1 0 h705.length]),(704,1,.row true (ab eI h704)),(705,1,.row true (ab eI h705))],2⟩
attribute [go_sem] qZ
@[go_sem] def hi232_5:DT:=.i2 0 (.i2 1 (.i2 2 (.i2 3 (.i2 4 (.i2 5 (.i2 6 (.i2 7 (.i2 8 (.i2 9 (.i2 10 (.i2 11 .nil)))))))))))
def Fy:Hint where
 acts:=fun _=>[]
 draws:=fun
  | 5=>⟨hi232_5,[[],[0],[],[2],[],[2,3,4],[2,3,4,5],[2,3,4,5,6],[],[8],.range 10,.range 11],.range 12⟩
  | _=>⟨.nil,[],[]⟩
theorem PP (i:Nat):Fy.acts i=[]:=rfl
theorem PQ (i:Nat):Fy.views i=none:=rfl
attribute [go_sem] PP PQ Tryz.ntmps232 Tryz.results232
@[go_sem] theorem Tk:(Fy.draws 5).order=hi232_5:=rfl
theorem wd {s:GShow}{v1:GState}{ties:List Int}{res:GState}(h:jT s v1 ties=some res):ap Tryz.prog 232 [.agg (GShow.encS s),.agg (GState.encS v1),.sl (ab eI ties)] [] (.agg [.lit (.int .i64 res.now),.ref 20000 1 0 res.times.length,.ref 20001 1 0 res.values.length]) [(20000,1,.row true (ab eI res.times)),(20001,1,.row true (ab eI res.values))]:=by
 refine aj (ra:=[.homeCell 384 1,.homeCell 384 2]) (md:=mdT) hT (hi:=Fy) Tryz.func232 rfl rfl (by decide +kernel) (by simp) ?_
 unfold jT at h
 obtain ⟨r1001,g1,h⟩:=ae h
 simp(config:=cS)only[go_sem]
 refine ag (gr g1) ?_
 obtain ⟨q1005,l2,h⟩:=ae h
 simp(config:=cS)only[go_sem]
 refine an (m1:=.mk) (m2:=.mk) [.nf [3,4,6,7,12,13,14] [192,256,384,448,704,705]] (qZ ties ((ties.length:Nat):Int) s.nodes s.ties s.horizon v1.now v1.times v1.values r1001.now r1001.values) l2 ?_ ?_
 ·simp(config:=cS)only[go_sem]
 ·intro nb3 sb3 bb3 b3 gb3
  obtain ⟨v14_1,h704_1⟩:=sb3
  unfold ju at b3
  try dsimp only at b3
  obtain ⟨h4,b3⟩|⟨h4,b3⟩:=af b3
  ·obtain ⟨x1002,g5,b3⟩:=ae b3
   obtain ⟨h6,h7,h8⟩:=ai g5
   obtain ⟨x1003,g9,b3⟩:=ae b3
   obtain ⟨h10,h11,h12⟩:=ai g9
   obtain ⟨x1004,g13,b3⟩:=ae b3
   obtain ⟨h14,h15,h16⟩:=ai g13
   cases b3
   simp(config:=cS)only[go_sem,eqT h4,h6,h7,h8,h10,h11,h12,h14,h15,h16]
   refine ao gb3 ?_
   simp(config:=cS)only[go_sem]
  ·cases b3
   obtain rfl:=(ak gb3).symm
   try dsimp only at h
   cases h
   simp(config:=cS)only[go_sem,eqF h4]
attribute [go_sem] Tryz.ntmps186 Tryz.results186
theorem rb {s:GShow}{v1:GState}{ties:List Int}{res:GState × Bool}(h:cJ s v1 ties=some res):ap Tryz.prog 186 [.agg (GShow.encS s),.agg (GState.encS v1),.sl (ab eI ties)] [] (.tup [.agg [.lit (.int .i64 res.1.now),.ref 20000 1 0 res.1.times.length,.ref 20001 1 0 res.1.values.length],.lit (.bool res.2)]) [(20000,1,.row true (ab eI res.1.times)),(20001,1,.row true (ab eI res.1.values))]:=by
 refine aj (ra:=[.homeCell 384 1,.homeCell 384 2]) (md:=mdT) hT (hi:=hi00) Tryz.func186 rfl rfl (by decide +kernel) (by simp) ?_
 unfold cJ at h
 obtain ⟨r1001,g1,h⟩:=ae h
 simp(config:=cS)only[go_sem]
 refine ag (zK g1) ?_
 obtain ⟨r1002,g2,h⟩:=ae h
 simp(config:=cS)only[go_sem]
 refine ag (xf g2) ?_
 obtain ⟨h3,h⟩|⟨h3,h⟩:=af h
 ·obtain ⟨r1003,g4,h⟩:=ae h
  simp(config:=cS)only[go_sem,eZt h3]
  refine ag (wd g4) ?_
  cases h
  simp(config:=cS)only[go_sem]
 ·cases h
  simp(config:=cS)only[go_sem,eZf h3]
attribute [go_sem] Tryz.ntmps234 Tryz.results234
theorem BB {s:GShow}{v1:GState}{res:Bool}(h:ki s v1=some res):ap Tryz.prog 234 [.agg (GShow.encS s),.agg (GState.encS v1)] [] (.lit (.bool res)) []:=by
 refine aj (ra:=[]) (md:=mdT) hT (hi:=hi00) Tryz.func234 rfl rfl (by decide +kernel) (by simp) ?_
 unfold ki at h
 obtain ⟨r1001,g1,h⟩:=ae h
 simp(config:=cS)only[go_sem]
 refine ag (bU g1) ?_
 obtain ⟨h2,h⟩|⟨h2,h⟩:=af h
 ·obtain ⟨r1002,g3,h⟩:=ae h
  simp(config:=cS)only[go_sem,eZt h2]
  refine ag (jM g3) ?_
  obtain ⟨h4,h⟩|⟨h4,h⟩:=af h
  ·obtain ⟨h5,h⟩|⟨h5,h⟩:=af h
   ·cases h
    simp(config:=cS)only[go_sem,eZt h2,eZt h4,eqT h5]
   ·obtain ⟨r1003,g6,h⟩:=ae h
    simp(config:=cS)only[go_sem,eZt h2,eZt h4,eqF h5]
    refine ag (gr g6) ?_
    obtain ⟨r1004,g7,h⟩:=ae h
    simp(config:=cS)only[go_sem,eZt h2,eZt h4,eqF h5]
    refine ag (ny g7) ?_
    cases h
    simp(config:=cS)only[go_sem,eZt h2,eZt h4,eqF h5]
  ·cases h
   simp(config:=cS)only[go_sem,eZt h2,eZf h4]
 ·cases h
  simp(config:=cS)only[go_sem,eZf h2]
def pA (v v9:List Int)(v10:Int):(Int × Int)→St
 | (out,v11)=>⟨[(1,.sl (ab eI v)),(5,.lit (.int .i64 out)),(9,.sl (ab eI v9)),(10,.lit (.int .i64 v10)),(11,.lit (.int .i64 v11))],[],2⟩
attribute [go_sem] pA
attribute [go_sem] Tryz.ntmps231 Tryz.results231
theorem ig {l v:List Int}{res:Int}(h:bW l v=some res):ap Tryz.prog 231 [.sl (ab eI l),.sl (ab eI v)] [] (.lit (.int .i64 res)) []:=by
 refine aj (ra:=[]) (md:=mdT) hT (hi:=hi00) Tryz.func231 rfl rfl (by decide +kernel) (by simp) ?_
 unfold bW at h
 obtain ⟨q1004,l1,h⟩:=ae h
 simp(config:=cS)only[go_sem]
 refine an (m1:=.mk) (m2:=.mk) [.nf [1,5,9,10,11] []] (pA v l ((l.length:Nat):Int)) l1 ?_ ?_
 ·simp(config:=cS)only[go_sem]
 ·intro nb2 sb2 bb2 b2 gb2
  obtain ⟨out_1,v11_1⟩:=sb2
  unfold hX at b2
  try dsimp only at b2
  obtain ⟨h3,b2⟩|⟨h3,b2⟩:=af b2
  ·obtain ⟨x1001,g4,b2⟩:=ae b2
   obtain ⟨h5,h6,h7⟩:=ai g4
   obtain ⟨r1002,g8,b2⟩:=ae b2
   simp(config:=cS)only[go_sem,eqT h3,h5,h6,h7]
   refine ag (nu g8) ?_
   obtain ⟨x1003,g9,b2⟩:=ae b2
   obtain ⟨h10,h11,h12⟩:=ai g9
   obtain ⟨h13,b2⟩|⟨h13,b2⟩:=af b2
   ·cases b2
    simp(config:=cS)only[go_sem,h10,h11,h12,eqT h13]
    refine ao gb2 ?_
    simp(config:=cS)only[go_sem]
   ·cases b2
    simp(config:=cS)only[go_sem,h10,h11,h12,eqF h13]
    refine ao gb2 ?_
    simp(config:=cS)only[go_sem]
  ·cases b2
   obtain rfl:=(ak gb2).symm
   try dsimp only at h
   cases h
   simp(config:=cS)only[go_sem,eqF h3]
def nP (v10:List GNode)(v11:Int)(s_1:List GTie)(s_2 v3_0:Int)(v3_1 v3_2:List Int):(Int × (List Int))→St
 | (v12,out)=>⟨[(2,.ptr 128 1 0 0),(3,.ptr 192 1 0 0),(5,.ref 512 1 0 out.length),(10,.sl (ab GNode.encS v10)),(11,.lit (.int .i64 v11)),(12,.lit (.int .i64 v12))],[(128,1,.var [.sl (ab GNode.encS v10),.sl (ab GTie.enc s_1),.lit (.int .i64 s_2)]),(192,1,.var [.lit (.int .i64 v3_0),.sl (ab eI v3_1),.sl (ab eI v3_2)]),(512,1,.row true (ab eI out))],2⟩
attribute [go_sem] nP
attribute [go_sem] Tryz.ntmps235 Tryz.results235
theorem sC {s:GShow}{v1:GState}{res:List Int}(h:fJ s v1=some res):ap Tryz.prog 235 [.agg (GShow.encS s),.agg (GState.encS v1)] [] (.ref 20000 1 0 res.length) [(20000,1,.row true (ab eI res))]:=by
 refine aj (ra:=[.home 4]) (md:=mdT) hT (hi:=hi00) Tryz.func235 rfl rfl (by decide +kernel) (by simp) ?_
 unfold fJ at h
 obtain ⟨q1005,l1,h⟩:=ae h
 simp(config:=cS)only[go_sem]
 refine an (m1:=.mk) (m2:=.mk) [.nf [2,3,5,10,11,12] [128,192,512]] (nP s.nodes ((s.nodes.length:Nat):Int) s.ties s.horizon v1.now v1.times v1.values) l1 ?_ ?_
 ·simp(config:=cS)only[go_sem]
 ·intro nb2 sb2 bb2 b2 gb2
  obtain ⟨v12_1,out_1⟩:=sb2
  unfold fj at b2
  try dsimp only at b2
  obtain ⟨h3,b2⟩|⟨h3,b2⟩:=af b2
  ·obtain ⟨x1001,g4,b2⟩:=ae b2
   obtain ⟨h5,h6,h7⟩:=ai g4
   obtain ⟨h8,b2⟩|⟨h8,b2⟩:=af b2
   ·obtain ⟨r1002,g9,b2⟩:=ae b2
    simp(config:=cS)only[go_sem,eqT h3,h5,h6,h7,eqT h8]
    refine ag (uZ g9) ?_
    obtain ⟨h10,b2⟩|⟨h10,b2⟩:=af b2
    ·obtain ⟨x1003,g11,b2⟩:=ae b2
     obtain ⟨h12,h13,h14⟩:=ai g11
     obtain ⟨h15,b2⟩|⟨h15,b2⟩:=af b2
     ·obtain ⟨r1004,g16,b2⟩:=ae b2
      simp(config:=cS)only[go_sem,eqT h10,h12,h13,h14,eqT h15]
      refine ag (ig g16) ?_
      obtain ⟨h17,b2⟩|⟨h17,b2⟩:=af b2
      ·obtain ⟨h18,b2⟩:=ah b2
       obtain ⟨h19,b2⟩:=ah b2
       cases b2
       simp(config:=cS)only[go_sem,eqT h17,eqT h18,eqT h19]
       refine ao gb2 ?_
       simp(config:=cS)only[go_sem]
      ·cases b2
       simp(config:=cS)only[go_sem,eqF h17]
       refine ao gb2 ?_
       simp(config:=cS)only[go_sem]
     ·cases b2
      simp(config:=cS)only[go_sem,eqT h10,h12,h13,h14,eqF h15]
      refine ao gb2 ?_
      simp(config:=cS)only[go_sem]
    ·cases b2
     simp(config:=cS)only[go_sem,eqF h10]
     refine ao gb2 ?_
     simp(config:=cS)only[go_sem]
   ·cases b2
    simp(config:=cS)only[go_sem,eqT h3,h5,h6,h7,eqF h8]
    refine ao gb2 ?_
    simp(config:=cS)only[go_sem]
  ·cases b2
   obtain rfl:=(ak gb2).symm
   try dsimp only at h
   cases h
   simp(config:=cS)only[go_sem,eqF h3]
def mV (l:List Int):(Int × (List (List Int)))→St
 | (n,out)=>⟨[(5,.ref 896 1 0 l.length),(6,.ref 960 1 0 out.length),(7,.lit (.int .i64 n))],[(896,1,.row true (ab eI l)),(960,1,.row true (ab (eLO eI) out))],2⟩
attribute [go_sem] mV
attribute [go_sem] Tryz.ntmps190 Tryz.results190
theorem sb {s:GShow}{v1:GState}{res:List (List Int)}(h:eE s v1=some res):ap Tryz.prog 190 [.agg (GShow.encS s),.agg (GState.encS v1)] [] (.ref 20000 1 0 res.length) [(20000,1,.row true (ab (eLO eI) res))]:=by
 refine aj (ra:=[.home 4]) (md:=mdT) hT (hi:=hi00) Tryz.func190 rfl rfl (by decide +kernel) (by simp) ?_
 unfold eE at h
 obtain ⟨r1001,g1,h⟩:=ae h
 simp(config:=cS)only[go_sem]
 refine ag (BB g1) ?_
 obtain ⟨h2,h⟩|⟨h2,h⟩:=af h
 ·obtain ⟨r1002,g3,h⟩:=ae h
  simp(config:=cS)only[go_sem,eZt h2]
  refine ag (sC g3) ?_
  obtain ⟨h4,h⟩:=ah h
  obtain ⟨q1004,l5,h⟩:=ae h
  simp(config:=cS)only[go_sem,eqF h4]
  refine an (m1:=.mk) (m2:=.mk) [.nf [5,6,7] [896,960]] (mV r1002) l5 ?_ ?_
  ·simp(config:=cS)only[go_sem]
  ·intro nb6 sb6 bb6 b6 gb6
   obtain ⟨n_1,out_1⟩:=sb6
   unfold eD at b6
   try dsimp only at b6
   obtain ⟨h7,b6⟩|⟨h7,b6⟩:=af b6
   ·obtain ⟨r1003,g8,b6⟩:=ae b6
    simp(config:=cS)only[go_sem,eqT h7]
    refine ag (nz g8) ?_
    obtain ⟨h9,b6⟩:=ah b6
    obtain ⟨h10,b6⟩:=ah b6
    cases b6
    simp(config:=cS)only[go_sem,eqT h9,eqT h10]
    refine ao gb6 ?_
    simp(config:=cS)only[go_sem]
   ·cases b6
    obtain rfl:=(ak gb6).symm
    try dsimp only at h
    cases h
    simp(config:=cS)only[go_sem,eqF h7]
 ·cases h
  simp(config:=cS)only[go_sem,eZf h2]
def og (nodes:List Int)(v16:Int)(s_0:List GNode)(s_1:List GTie)(s_2 v4_0:Int)(v4_1 v4_2:List Int)(out_0:Int)(h897:List Int):(Int × (List Int))→St
 | (v17,h896)=>⟨[(2,.sl (ab eI nodes)),(3,.ptr 192 1 0 0),(4,.ptr 256 1 0 0),(6,.ptr 384 1 0 0),(8,.ptr 512 1 0 0),(15,.sl (ab eI nodes)),(16,.lit (.int .i64 v16)),(17,.lit (.int .i64 v17))],[(192,1,.var [.sl (ab GNode.encS s_0),.sl (ab GTie.enc s_1),.lit (.int .i64 s_2)]),(256,1,.var [.lit (.int .i64 v4_0),.sl (ab eI v4_1),.sl (ab eI v4_2)]),(384,1,.var [.lit (.int .i64 0),.lit (.slice none 0 0),.lit (.slice none 0 0)]),(512,1,.var [.lit (.int .i64 out_0),.ref 896 1 0 h896.length,.ref 897 1 0 h897.length]),(896,1,.row true (ab eI h896)),(897,1,.row true (ab eI h897))],2⟩
attribute [go_sem] og
def oh (nodes:List Int)(s_0:List GNode)(s_1:List GTie)(s_2 out_0:Int)(h896 h897:List Int):(Int × (List Int))→St
 | (p,props)=>⟨[(2,.sl (ab eI nodes)),(3,.ptr 192 1 0 0),(6,.ptr 384 1 0 0),(8,.ptr 512 1 0 0),(11,.ref 1792 1 0 props.length),(12,.lit (.int .i64 p))],[(192,1,.var [.sl (ab GNode.encS s_0),.sl (ab GTie.enc s_1),.lit (.int .i64 s_2)]),(384,1,.var [.lit (.int .i64 0),.lit (.slice none 0 0),.lit (.slice none 0 0)]),(512,1,.var [.lit (.int .i64 out_0),.ref 896 1 0 h896.length,.ref 897 1 0 h897.length]),(896,1,.row true (ab eI h896)),(897,1,.row true (ab eI h897)),(1792,1,.row true (ab eI props))],2⟩
attribute [go_sem] oh
attribute [go_sem] Tryz.ntmps192 Tryz.results192
theorem oW {s:GShow}{v1:GState}{nodes:List Int}{res:GState × (List Int)}(h:dW s v1 nodes=some res):ap Tryz.prog 192 [.agg (GShow.encS s),.agg (GState.encS v1),.sl (ab eI nodes)] [] (.tup [.agg [.lit (.int .i64 res.1.now),.ref 20000 1 0 res.1.times.length,.ref 20001 1 0 res.1.values.length],.ref 20002 1 0 res.2.length]) [(20000,1,.row true (ab eI res.1.times)),(20001,1,.row true (ab eI res.1.values)),(20002,1,.row true (ab eI res.2))]:=by
 refine aj (ra:=[.homeCell 384 1,.homeCell 384 2,.home 7]) (md:=mdT) hT (hi:=hi00) Tryz.func192 rfl rfl (by decide +kernel) (by simp) ?_
 unfold dW at h
 obtain ⟨r1001,g1,h⟩:=ae h
 simp(config:=cS)only[go_sem]
 refine ag (gr g1) ?_
 obtain ⟨q1007,l2,h⟩:=ae h
 simp(config:=cS)only[go_sem]
 refine an (m1:=.mk) (m2:=.mk) [.nf [2,3,4,6,8,15,16,17] [192,256,384,512,896,897]] (og nodes ((nodes.length:Nat):Int) s.nodes s.ties s.horizon v1.now v1.times v1.values r1001.now r1001.values) l2 ?_ ?_
 ·simp(config:=cS)only[go_sem]
 ·intro nb3 sb3 bb3 b3 gb3
  obtain ⟨v17_1,h896_1⟩:=sb3
  unfold ga at b3
  try dsimp only at b3
  obtain ⟨h4,b3⟩|⟨h4,b3⟩:=af b3
  ·obtain ⟨x1002,g5,b3⟩:=ae b3
   obtain ⟨h6,h7,h8⟩:=ai g5
   obtain ⟨x1003,g9,b3⟩:=ae b3
   obtain ⟨h10,h11,h12⟩:=ai g9
   cases b3
   simp(config:=cS)only[go_sem,eqT h4,h6,h7,h8,h10,h11,h12]
   refine ao gb3 ?_
   simp(config:=cS)only[go_sem]
  ·cases b3
   obtain rfl:=(ak gb3).symm
   try dsimp only at h
   obtain ⟨q1006,l14,h⟩:=ae h
   simp(config:=cS)only[go_sem,eqF h4]
   refine an (m1:=.mk) (m2:=.mk) [.nf [2,3,6,8,11,12] [192,384,512,896,897,1792]] (oh nodes s.nodes s.ties s.horizon r1001.now h896_1 r1001.values) l14 ?_ ?_
   ·simp(config:=cS)only[go_sem]
   ·intro nb15 sb15 bb15 b15 gb15
    obtain ⟨p_2,props_2⟩:=sb15
    unfold gb at b15
    try dsimp only at b15
    obtain ⟨h16,b15⟩|⟨h16,b15⟩:=af b15
    ·obtain ⟨r1004,g17,b15⟩:=ae b15
     simp(config:=cS)only[go_sem,eqT h16]
     refine ag (fq g17) ?_
     obtain ⟨r1005,g18,b15⟩:=ae b15
     simp(config:=cS)only[go_sem]
     refine ag (jL g18) ?_
     obtain ⟨h19,b15⟩|⟨h19,b15⟩:=af b15
     ·obtain ⟨h20,b15⟩:=ah b15
      obtain ⟨h21,b15⟩:=ah b15
      cases b15
      simp(config:=cS)only[go_sem,eZt h19,eqT h20,eqT h21]
      refine ao gb15 ?_
      simp(config:=cS)only[go_sem]
     ·cases b15
      simp(config:=cS)only[go_sem,eZf h19]
      refine ao gb15 ?_
      simp(config:=cS)only[go_sem]
    ·cases b15
     obtain rfl:=(ak gb15).symm
     try dsimp only at h
     cases h
     simp(config:=cS)only[go_sem,eqF h16]
attribute [go_sem] Tryz.ntmps265 Tryz.results265
theorem vI {s:GShow}{v1:GState}{nodes:List Int}{res:GState × (List Int) × Bool}(h:iR s v1 nodes=some res):ap Tryz.prog 265 [.agg (GShow.encS s),.agg (GState.encS v1),.sl (ab eI nodes)] [] (.tup [.agg [.lit (.int .i64 res.1.now),.ref 20000 1 0 res.1.times.length,.ref 20001 1 0 res.1.values.length],.ref 20002 1 0 res.2.1.length,.lit (.bool res.2.2)]) [(20000,1,.row true (ab eI res.1.times)),(20001,1,.row true (ab eI res.1.values)),(20002,1,.row true (ab eI res.2.1))]:=by
 refine aj (ra:=[.homeCell 384 1,.homeCell 384 2,.home 7]) (md:=mdT) hT (hi:=hi00) Tryz.func265 rfl rfl (by decide +kernel) (by simp) ?_
 unfold iR at h
 obtain ⟨r1001,g1,h⟩:=ae h
 simp(config:=cS)only[go_sem]
 refine ag (sb g1) ?_
 obtain ⟨r1002,g2,h⟩:=ae h
 simp(config:=cS)only[go_sem]
 refine ag (xf g2) ?_
 obtain ⟨h3,h⟩|⟨h3,h⟩:=af h
 ·obtain ⟨r1003,g4,h⟩:=ae h
  simp(config:=cS)only[go_sem,eZt h3]
  refine ag (oW g4) ?_
  cases h
  simp(config:=cS)only[go_sem]
 ·cases h
  simp(config:=cS)only[go_sem,eZf h3]
def ol (values v12:List Int)(v13 out_0:Int)(h704:List Int):(Int × (List Int))→St
 | (v14,h705)=>⟨[(2,.sl (ab eI values)),(6,.ptr 384 1 0 0),(7,.ptr 448 1 0 0),(12,.sl (ab eI v12)),(13,.lit (.int .i64 v13)),(14,.lit (.int .i64 v14))],[(384,1,.var [.lit (.int .i64 0),.lit (.slice none 0 0),.lit (.slice none 0 0)]),(448,1,.var [.lit (.int .i64 out_0),.ref 704 1 0 h704.length,.ref 705 1 0 h705.length]),(704,1,.row true (ab eI h704)),(705,1,.row true (ab eI h705))],2⟩
attribute [go_sem] ol
@[go_sem] def hi193_5:DT:=.i2 0 (.i2 1 (.i2 2 (.i2 3 (.i2 4 (.i2 5 (.i2 6 (.i2 7 (.i2 8 (.i2 9 .nil)))))))))
def Fz:Hint where
 acts:=fun _=>[]
 draws:=fun
  | 5=>⟨hi193_5,[[],[0],[],[2],[],[],[4,5],[4,5,6],.range 8,.range 9],.range 10⟩
  | _=>⟨.nil,[],[]⟩
theorem PS (i:Nat):Fz.acts i=[]:=rfl
theorem PT (i:Nat):Fz.views i=none:=rfl
attribute [go_sem] PS PT Tryz.ntmps193 Tryz.results193
@[go_sem] theorem Tl:(Fz.draws 5).order=hi193_5:=rfl
theorem ji {v0:GState}{props values:List Int}{res:GState}(h:dX v0 props values=some res):ap Tryz.prog 193 [.agg (GState.encS v0),.sl (ab eI props),.sl (ab eI values)] [] (.agg [.lit (.int .i64 res.now),.ref 20000 1 0 res.times.length,.ref 20001 1 0 res.values.length]) [(20000,1,.row true (ab eI res.times)),(20001,1,.row true (ab eI res.values))]:=by
 refine aj (ra:=[.homeCell 384 1,.homeCell 384 2]) (md:=mdT) hT (hi:=Fz) Tryz.func193 rfl rfl (by decide +kernel) (by simp) ?_
 unfold dX at h
 obtain ⟨r1001,g1,h⟩:=ae h
 simp(config:=cS)only[go_sem]
 refine ag (gr g1) ?_
 obtain ⟨q1005,l2,h⟩:=ae h
 simp(config:=cS)only[go_sem]
 refine an (m1:=.mk) (m2:=.mk) [.nf [2,6,7,12,13,14] [384,448,704,705]] (ol values props ((props.length:Nat):Int) r1001.now r1001.times) l2 ?_ ?_
 ·simp(config:=cS)only[go_sem]
 ·intro nb3 sb3 bb3 b3 gb3
  obtain ⟨v14_1,h705_1⟩:=sb3
  unfold gd at b3
  try dsimp only at b3
  obtain ⟨h4,b3⟩|⟨h4,b3⟩:=af b3
  ·obtain ⟨x1002,g5,b3⟩:=ae b3
   obtain ⟨h6,h7,h8⟩:=ai g5
   obtain ⟨x1003,g9,b3⟩:=ae b3
   obtain ⟨h10,h11,h12⟩:=ai g9
   obtain ⟨x1004,g13,b3⟩:=ae b3
   obtain ⟨h14,h15,h16⟩:=ai g13
   cases b3
   simp(config:=cS)only[go_sem,eqT h4,h6,h7,h8,h10,h11,h12,h14,h15,h16]
   refine ao gb3 ?_
   simp(config:=cS)only[go_sem]
  ·cases b3
   obtain rfl:=(ak gb3).symm
   try dsimp only at h
   cases h
   simp(config:=cS)only[go_sem,eqF h4]
def pB (v63 e_0:Int)(e_1 e_2 e_3:List Int)(z_0:Int)(h2944 h2945 v62:List Int):(Int × (List Int))→St
 | (v64,values)=>⟨[(5,.ptr 320 1 0 0),(6,.ptr 384 1 0 0),(10,.ptr 640 1 0 0),(11,.ref 2946 1 0 v62.length),(13,.ref 3904 1 0 values.length),(62,.ref 2946 1 0 v62.length),(63,.lit (.int .i64 v63)),(64,.lit (.int .i64 v64))],[(320,1,.var [.lit (.int .i64 e_0),.sl (ab eI e_1),.sl (ab eI e_2),.sl (ab eI e_3)]),(384,1,.var [.lit (.int .i64 0),.lit (.slice none 0 0),.lit (.slice none 0 0)]),(640,1,.var [.lit (.int .i64 z_0),.ref 2944 1 0 h2944.length,.ref 2945 1 0 h2945.length]),(2944,1,.row true (ab eI h2944)),(2945,1,.row true (ab eI h2945)),(2946,1,.row true (ab eI v62)),(3904,1,.row true (ab eI values))],2⟩
attribute [go_sem] pB
attribute [go_sem] Tryz.ntmps238 Tryz.results238
theorem BC {s:GShow}{v1:GState}{e:GEntry}{res:GState × Bool}(h:kj s v1 e=some res):ap Tryz.prog 238 [.agg (GShow.encS s),.agg (GState.encS v1),.agg (GEntry.encS e)] [] (.tup [.agg [.lit (.int .i64 res.1.now),.ref 20000 1 0 res.1.times.length,.ref 20001 1 0 res.1.values.length],.lit (.bool res.2)]) [(20000,1,.row true (ab eI res.1.times)),(20001,1,.row true (ab eI res.1.values))]:=by
 refine aj (ra:=[.homeCell 384 1,.homeCell 384 2]) (md:=mdT) hT (hi:=hi00) Tryz.func238 rfl rfl (by decide +kernel) (by simp) ?_
 unfold kj at h
 obtain ⟨r1001,g1,h⟩:=ae h
 simp(config:=cS)only[go_sem]
 refine ag (rb g1) ?_
 obtain ⟨h2,h⟩|⟨h2,h⟩:=af h
 ·obtain ⟨h3,h⟩|⟨h3,h⟩:=af h
  ·obtain ⟨r1002,g4,h⟩:=ae h
   simp(config:=cS)only[go_sem,eZt h2,eqT h3]
   refine ag (nw g4) ?_
   obtain ⟨h5,h⟩|⟨h5,h⟩:=af h
   ·obtain ⟨r1003,g6,h⟩:=ae h
    simp(config:=cS)only[go_sem,eZt h5]
    refine ag (vI g6) ?_
    obtain ⟨h7,h⟩|⟨h7,h⟩:=af h
    ·obtain ⟨h8,h⟩|⟨h8,h⟩:=af h
     ·obtain ⟨q1007,l9,h⟩:=ae h
      simp(config:=cS)only[go_sem,eZt h7,eqT h8]
      refine an (m1:=.mk) (m2:=.mk) [.nf [5,6,10,11,13,62,63,64] [320,384,640,2944,2945,2946,3904]] (pB ((r1003.2.1.length:Nat):Int) e.now e.ties e.nodes e.values r1003.1.now r1003.1.times r1003.1.values r1003.2.1) l9 ?_ ?_
      ·simp(config:=cS)only[go_sem]
      ·intro nb10 sb10 bb10 b10 gb10
       obtain ⟨v64_1,values_1⟩:=sb10
       unfold eF at b10
       try dsimp only at b10
       obtain ⟨h11,b10⟩|⟨h11,b10⟩:=af b10
       ·obtain ⟨x1004,g12,b10⟩:=ae b10
        obtain ⟨h13,h14,h15⟩:=ai g12
        obtain ⟨x1005,g16,b10⟩:=ae b10
        obtain ⟨h17,h18,h19⟩:=ai g16
        obtain ⟨h20,b10⟩|⟨h20,b10⟩:=af b10
        ·obtain ⟨h21,b10⟩:=ah b10
         obtain ⟨h22,b10⟩:=ah b10
         cases b10
         simp(config:=cS)only[go_sem,eqT h11,h13,h14,h15,h17,h18,h19,eqT h20,eqT h21,eqT h22]
         refine ao gb10 ?_
         simp(config:=cS)only[go_sem]
        ·obtain ⟨h23,b10⟩|⟨h23,b10⟩:=af b10
         ·obtain ⟨h24,b10⟩:=ah b10
          obtain ⟨h25,b10⟩:=ah b10
          cases b10
          simp(config:=cS)only[go_sem,eqT h11,h13,h14,h15,h17,h18,h19,eqF h20,eqT h23,eqT h24,eqT h25]
          refine ao gb10 ?_
          simp(config:=cS)only[go_sem]
         ·cases b10
          obtain rfl:=(ak gb10).symm
          try dsimp only at h
          cases h
          simp(config:=cS)only[go_sem,eqT h11,h13,h14,h15,h17,h18,h19,eqF h20,eqF h23]
       ·cases b10
        obtain rfl:=(ak gb10).symm
        try dsimp only at h
        obtain ⟨r1006,g28,h⟩:=ae h
        simp(config:=cS)only[go_sem,eqF h11]
        refine ag (ji g28) ?_
        cases h
        simp(config:=cS)only[go_sem]
     ·cases h
      simp(config:=cS)only[go_sem,eZt h7,eqF h8]
    ·cases h
     simp(config:=cS)only[go_sem,eZf h7]
   ·cases h
    simp(config:=cS)only[go_sem,eZf h5]
  ·cases h
   simp(config:=cS)only[go_sem,eZt h2,eqF h3]
 ·cases h
  simp(config:=cS)only[go_sem,eZf h2]
def om (v13:List GEntry)(v14:Int)(s_0:List GNode)(s_1:List GTie)(s_2:Int):(Int × Int × (List Int) × (List Int))→St
 | (v15,v6_0,h768,h769)=>⟨[(2,.ptr 128 1 0 0),(4,.ptr 256 1 0 0),(6,.ptr 384 1 0 0),(13,.sl (ab GEntry.encS v13)),(14,.lit (.int .i64 v14)),(15,.lit (.int .i64 v15))],[(128,1,.var [.sl (ab GNode.encS s_0),.sl (ab GTie.enc s_1),.lit (.int .i64 s_2)]),(256,1,.var [.lit (.int .i64 0),.lit (.slice none 0 0),.lit (.slice none 0 0)]),(384,1,.var [.lit (.int .i64 v6_0),.ref 768 1 0 h768.length,.ref 769 1 0 h769.length]),(768,1,.row true (ab eI h768)),(769,1,.row true (ab eI h769))],2⟩
attribute [go_sem] om
@[go_sem] def hi199_10:DT:=.i1 0 (.i2 1 (.i0 2 [0] (.i2 3 (.i2 4 .nil))))
def FA:Hint where
 acts:=fun _=>[]
 draws:=fun
  | 10=>⟨hi199_10,[[],[],[1],[0,1,2],[0,1,2,3]],.range 5⟩
  | _=>⟨.nil,[],[]⟩
theorem PU (i:Nat):FA.acts i=[]:=rfl
theorem PV (i:Nat):FA.views i=none:=rfl
attribute [go_sem] PU PV Tryz.ntmps199 Tryz.results199
@[go_sem] theorem SV:(FA.draws 10).order=hi199_10:=rfl
theorem zL {s:GShow}{log:List GEntry}{res:GState × Bool}(h:jv s log=some res):ap Tryz.prog 199 [.agg (GShow.encS s),.sl (ab GEntry.encS log)] [] (.tup [.agg [.lit (.int .i64 res.1.now),.ref 20000 1 0 res.1.times.length,.ref 20001 1 0 res.1.values.length],.lit (.bool res.2)]) [(20000,1,.row true (ab eI res.1.times)),(20001,1,.row true (ab eI res.1.values))]:=by
 refine aj (ra:=[.homeCell 256 1,.homeCell 256 2]) (md:=mdT) hT (hi:=FA) Tryz.func199 rfl rfl (by decide +kernel) (by simp) ?_
 unfold jv at h
 obtain ⟨r1001,g1,h⟩:=ae h
 simp(config:=cS)only[go_sem]
 refine ag (sA g1) ?_
 obtain ⟨q1005,l2,h⟩:=ae h
 simp(config:=cS)only[go_sem]
 refine an (m1:=.mk) (m2:=.mk) [.nfp [2,4,6,13,14,15] [(128,128),(256,256),(384,384),(1472,768),(768,768),(1473,769),(769,769)] []] (om log ((log.length:Nat):Int) s.nodes s.ties s.horizon) l2 ?_ ?_
 ·simp(config:=cS)only[go_sem]
 ·intro nb3 sb3 bb3 b3 gb3
  obtain ⟨v15_1,v6_0_1,h768_1,h769_1⟩:=sb3
  unfold gg at b3
  try dsimp only at b3
  obtain ⟨h4,b3⟩|⟨h4,b3⟩:=af b3
  ·obtain ⟨x1002,g5,b3⟩:=ae b3
   obtain ⟨h6,h7,h8⟩:=ai g5
   obtain ⟨r1003,g9,b3⟩:=ae b3
   simp(config:=cS)only[go_sem,eqT h4,h6,h7,h8]
   refine ag (BC g9) ?_
   obtain ⟨h10,b3⟩|⟨h10,b3⟩:=af b3
   ·cases b3
    simp(config:=cS)only[go_sem,eZt h10]
    refine ao gb3 ?_
    simp(config:=cS)only[go_sem]
   ·cases b3
    obtain rfl:=(ak gb3).symm
    try dsimp only at h
    cases h
    simp(config:=cS)only[go_sem,eZf h10]
  ·cases b3
   obtain rfl:=(ak gb3).symm
   try dsimp only at h
   obtain ⟨r1004,g13,h⟩:=ae h
   simp(config:=cS)only[go_sem,eqF h4]
   refine ag (jM g13) ?_
   cases h
   simp(config:=cS)only[go_sem]
attribute [go_sem] Tryz.ntmps200 Tryz.results200
theorem yr {a b:GState}{res:Bool}(h:iG a b=some res):ap Tryz.prog 200 [.agg (GState.encS a),.agg (GState.encS b)] [] (.lit (.bool res)) []:=by
 refine aj (ra:=[]) (md:=mdT) hT (hi:=hi00) Tryz.func200 rfl rfl (by decide +kernel) (by simp) ?_
 unfold iG at h
 obtain ⟨h1,h⟩|⟨h1,h⟩:=af h
 ·obtain ⟨r1001,g2,h⟩:=ae h
  simp(config:=cS)only[go_sem,eqT h1]
  refine ag (nx g2) ?_
  obtain ⟨h3,h⟩|⟨h3,h⟩:=af h
  ·obtain ⟨r1002,g4,h⟩:=ae h
   simp(config:=cS)only[go_sem,eqT h1,eZt h3]
   refine ag (nx g4) ?_
   cases h
   simp(config:=cS)only[go_sem,eqT h1,eZt h3]
  ·cases h
   simp(config:=cS)only[go_sem,eqT h1,eZf h3]
 ·cases h
  simp(config:=cS)only[go_sem,eqF h1]
attribute [go_sem] Tryz.ntmps122 Tryz.results122
theorem we {d:GDesk}{res:Bool}(h:jU d=some res):ap Tryz.prog 122 [.agg (GDesk.encS d)] [] (.lit (.bool res)) []:=by
 refine aj (ra:=[]) (md:=mdT) hT (hi:=hi00) Tryz.func122 rfl rfl (by decide +kernel) (by simp) ?_
 unfold jU at h
 obtain ⟨r1001,g1,h⟩:=ae h
 simp(config:=cS)only[go_sem]
 refine ag (ny g1) ?_
 obtain ⟨h2,h⟩|⟨h2,h⟩:=af h
 ·obtain ⟨h3,h⟩|⟨h3,h⟩:=af h
  ·obtain ⟨r1002,g4,h⟩:=ae h
   simp(config:=cS)only[go_sem,eZt h2,eqT h3]
   refine ag (zL g4) ?_
   obtain ⟨h5,h⟩|⟨h5,h⟩:=af h
   ·obtain ⟨r1003,g6,h⟩:=ae h
    simp(config:=cS)only[go_sem,eZt h2,eqT h3,eZt h5]
    refine ag (yr g6) ?_
    cases h
    simp(config:=cS)only[go_sem,eZt h2,eqT h3,eZt h5]
   ·cases h
    simp(config:=cS)only[go_sem,eZt h2,eqT h3,eZf h5]
  ·cases h
   simp(config:=cS)only[go_sem,eZt h2,eqF h3]
 ·cases h
  simp(config:=cS)only[go_sem,eZf h2]
@[go_sem] def hi230_10:DT:=.i2 0 (.i2 1 (.i2 2 (.i2 3 (.i2 4 (.i2 5 (.i2 6 (.i2 7 (.i2 8 (.i2 9 (.i2 10 (.i2 11 (.i2 12 (.i2 13 (.i2 14 (.i2 15 (.i2 16 (.i2 17 (.i2 18 (.i2 19 (.i2 20 .nil))))))))))))))))))))
@[go_sem] def hi230_8:DT:=.i2 0 (.i2 1 (.i2 2 (.i2 3 (.i2 4 (.i2 5 (.i2 6 (.i2 7 (.i2 8 (.i2 9 (.i2 10 (.i2 11 (.i2 12 (.i2 13 (.i2 14 (.i2 15 (.i2 16 (.i2 17 (.i2 18 (.i2 19 (.i2 20 .nil))))))))))))))))))))
def BD:Hint where
 acts:=fun _=>[]
 draws:=fun
  | 8=>⟨hi230_8,[[],[0],[],[2],[0,1,2,3],.range 5,.range 6,[],[7],.range 9,.range 10,.range 11,.range 12,.range 13,.range 12,.range 15,.range 12,[0,1,2,3,4,5,6,7,8,9,10,11,16],.range 18,.range 19,.range 20],.range 21⟩
  | 10=>⟨hi230_10,[[],[0],[],[2],[0,1,2,3],.range 5,.range 6,[],[7],.range 9,.range 10,.range 11,.range 12,.range 12,[0,1,2,3,4,5,6,7,8,9,10,11,13],.range 15,.range 12,[0,1,2,3,4,5,6,7,8,9,10,11,16],.range 18,.range 19,.range 20],.range 21⟩
  | _=>⟨.nil,[],[]⟩
theorem PW (i:Nat):BD.acts i=[]:=rfl
theorem PX (i:Nat):BD.views i=none:=rfl
attribute [go_sem] PW PX Tryz.ntmps230 Tryz.results230
@[go_sem] theorem Tm:(BD.draws 8).order=hi230_8:=rfl
@[go_sem] theorem SW:(BD.draws 10).order=hi230_10:=rfl
theorem Dc {s:GShow}{v1:GState}{t:GTie}{res:Bool}(h:lu s v1 t=some res):ap Tryz.prog 230 [.agg (GShow.encS s),.agg (GState.encS v1),.agg (GTie.enc t)] [] (.lit (.bool res)) []:=by
 refine aj (ra:=[]) (md:=mdT) hT (hi:=BD) Tryz.func230 rfl rfl (by decide +kernel) (by simp) ?_
 unfold lu at h
 obtain ⟨x1001,g1,h⟩:=ae h
 obtain ⟨h2,h3,h4⟩:=ai g1
 obtain ⟨x1002,g5,h⟩:=ae h
 obtain ⟨h6,h7,h8⟩:=ai g5
 obtain ⟨h9,h⟩|⟨h9,h⟩:=af h
 ·obtain ⟨h10,h⟩|⟨h10,h⟩:=af h
  ·cases h
   simp(config:=cS)only[go_sem,h2,h3,h4,h6,h7,h8,eqT h9,eZt h10]
  ·obtain ⟨h11,h⟩|⟨h11,h⟩:=af h
   ·cases h
    simp(config:=cS)only[go_sem,h2,h3,h4,h6,h7,h8,eqT h9,eZf h10,eqT h11]
   ·obtain ⟨x1003,g12,h⟩:=ae h
    obtain ⟨h13,h14,h15⟩:=ai g12
    obtain ⟨r1004,g16,h⟩:=ae h
    simp(config:=cS)only[go_sem,h2,h3,h4,h6,h7,h8,eqT h9,eZf h10,eqF h11,h13,h14,h15]
    refine ag (ig g16) ?_
    obtain ⟨h17,h⟩|⟨h17,h⟩:=af h
    ·cases h
     simp(config:=cS)only[go_sem,eqT h17]
    ·cases h
     simp(config:=cS)only[go_sem,eqF h17]
 ·obtain ⟨h18,h⟩|⟨h18,h⟩:=af h
  ·obtain ⟨h19,h⟩|⟨h19,h⟩:=af h
   ·cases h
    simp(config:=cS)only[go_sem,h2,h3,h4,h6,h7,h8,eqF h9,eqT h18,eZt h19]
   ·obtain ⟨x1005,g20,h⟩:=ae h
    obtain ⟨h21,h22,h23⟩:=ai g20
    obtain ⟨r1006,g24,h⟩:=ae h
    simp(config:=cS)only[go_sem,h2,h3,h4,h6,h7,h8,eqF h9,eqT h18,eZf h19,h21,h22,h23]
    refine ag (ig g24) ?_
    obtain ⟨h25,h⟩|⟨h25,h⟩:=af h
    ·cases h
     simp(config:=cS)only[go_sem,eqT h25]
    ·cases h
     simp(config:=cS)only[go_sem,eqF h25]
  ·obtain ⟨r1007,g26,h⟩:=ae h
   simp(config:=cS)only[go_sem,h2,h3,h4,h6,h7,h8,eqF h9,eqF h18]
   refine ag (bU g26) ?_
   cases h
   simp(config:=cS)only[go_sem]
def oo (v10:List GTie)(v11:Int)(s_0:List GNode)(s_2 v3_0:Int)(v3_1 v3_2:List Int)(v12:Int):St:=⟨[(2,.ptr 128 1 0 0),(3,.ptr 192 1 0 0),(10,.sl (ab GTie.enc v10)),(11,.lit (.int .i64 v11)),(12,.lit (.int .i64 v12))],[(128,1,.var [.sl (ab GNode.encS s_0),.sl (ab GTie.enc v10),.lit (.int .i64 s_2)]),(192,1,.var [.lit (.int .i64 v3_0),.sl (ab eI v3_1),.sl (ab eI v3_2)])],2⟩
attribute [go_sem] oo
def oq (v22:List GNode)(v23:Int)(s_1:List GTie)(s_2 v3_0:Int)(v3_1 v3_2:List Int)(v24:Int):St:=⟨[(2,.ptr 128 1 0 0),(3,.ptr 192 1 0 0),(22,.sl (ab GNode.encS v22)),(23,.lit (.int .i64 v23)),(24,.lit (.int .i64 v24))],[(128,1,.var [.sl (ab GNode.encS v22),.sl (ab GTie.enc s_1),.lit (.int .i64 s_2)]),(192,1,.var [.lit (.int .i64 v3_0),.sl (ab eI v3_1),.sl (ab eI v3_2)])],2⟩
attribute [go_sem] oq
attribute [go_sem] Tryz.ntmps178 Tryz.results178
theorem oX {s:GShow}{v1:GState}{res:Bool}(h:dY s v1=some res):ap Tryz.prog 178 [.agg (GShow.encS s),.agg (GState.encS v1)] [] (.lit (.bool res)) []:=by
 refine aj (ra:=[]) (md:=mdT) hT (hi:=hi00) Tryz.func178 rfl rfl (by decide +kernel) (by simp) ?_
 unfold dY at h
 obtain ⟨q1007,l1,h⟩:=ae h
 simp(config:=cS)only[go_sem]
 refine an (m1:=.mk) (m2:=.mk) [.nf [2,3,10,11,12] [128,192]] (oo s.ties ((s.ties.length:Nat):Int) s.nodes s.horizon v1.now v1.times v1.values) l1 ?_ ?_
 ·simp(config:=cS)only[go_sem]
 ·intro nb2 v12_1 bb2 b2 gb2
  unfold dM at b2
  try dsimp only at b2
  obtain ⟨h3,b2⟩|⟨h3,b2⟩:=af b2
  ·obtain ⟨x1001,g4,b2⟩:=ae b2
   obtain ⟨h5,h6,h7⟩:=ai g4
   obtain ⟨r1002,g8,b2⟩:=ae b2
   simp(config:=cS)only[go_sem,eqT h3,h5,h6,h7]
   refine ag (Dc g8) ?_
   obtain ⟨h9,b2⟩|⟨h9,b2⟩:=af b2
   ·cases b2
    obtain rfl:=(ak gb2).symm
    try dsimp only at h
    cases h
    simp(config:=cS)only[go_sem,eZt h9]
   ·cases b2
    simp(config:=cS)only[go_sem,eZf h9]
    refine ao gb2 ?_
    simp(config:=cS)only[go_sem]
  ·cases b2
   obtain rfl:=(ak gb2).symm
   try dsimp only at h
   obtain ⟨q1006,l12,h⟩:=ae h
   simp(config:=cS)only[go_sem,eqF h3]
   refine an (m1:=.mk) (m2:=.mk) [.nf [2,3,22,23,24] [128,192]] (oq s.nodes ((s.nodes.length:Nat):Int) s.ties s.horizon v1.now v1.times v1.values) l12 ?_ ?_
   ·simp(config:=cS)only[go_sem]
   ·intro nb13 v24_2 bb13 b13 gb13
    unfold bN at b13
    try dsimp only at b13
    obtain ⟨h14,b13⟩|⟨h14,b13⟩:=af b13
    ·obtain ⟨x1003,g15,b13⟩:=ae b13
     obtain ⟨h16,h17,h18⟩:=ai g15
     obtain ⟨h19,b13⟩|⟨h19,b13⟩:=af b13
     ·obtain ⟨x1004,g20,b13⟩:=ae b13
      obtain ⟨h21,h22,h23⟩:=ai g20
      obtain ⟨h24,b13⟩|⟨h24,b13⟩:=af b13
      ·obtain ⟨r1005,g25,b13⟩:=ae b13
       simp(config:=cS)only[go_sem,eqT h14,h16,h17,h18,eqT h19,h21,h22,h23,eqT h24]
       refine ag (ig g25) ?_
       obtain ⟨h26,b13⟩|⟨h26,b13⟩:=af b13
       ·cases b13
        obtain rfl:=(ak gb13).symm
        try dsimp only at h
        cases h
        simp(config:=cS)only[go_sem,eqT h26]
       ·cases b13
        simp(config:=cS)only[go_sem,eqF h26]
        refine ao gb13 ?_
        simp(config:=cS)only[go_sem]
      ·cases b13
       simp(config:=cS)only[go_sem,eqT h14,h16,h17,h18,eqT h19,h21,h22,h23,eqF h24]
       refine ao gb13 ?_
       simp(config:=cS)only[go_sem]
     ·cases b13
      simp(config:=cS)only[go_sem,eqT h14,h16,h17,h18,eqF h19]
      refine ao gb13 ?_
      simp(config:=cS)only[go_sem]
    ·cases b13
     obtain rfl:=(ak gb13).symm
     try dsimp only at h
     cases h
     simp(config:=cS)only[go_sem,eqF h14]
def qp (v8:List GNode)(v9 v3_0:Int)(v3_1 v3_2:List Int)(v10:Int):St:=⟨[(3,.ptr 192 1 0 0),(8,.sl (ab GNode.encS v8)),(9,.lit (.int .i64 v9)),(10,.lit (.int .i64 v10))],[(192,1,.var [.lit (.int .i64 v3_0),.sl (ab eI v3_1),.sl (ab eI v3_2)])],2⟩
attribute [go_sem] qp
attribute [go_sem] Tryz.ntmps179 Tryz.results179
theorem rx {s:GShow}{v1:GState}{res:Bool}(h:gD s v1=some res):ap Tryz.prog 179 [.agg (GShow.encS s),.agg (GState.encS v1)] [] (.lit (.bool res)) []:=by
 refine aj (ra:=[]) (md:=mdT) hT (hi:=hi00) Tryz.func179 rfl rfl (by decide +kernel) (by simp) ?_
 unfold gD at h
 obtain ⟨q1004,l1,h⟩:=ae h
 simp(config:=cS)only[go_sem]
 refine an (m1:=.mk) (m2:=.mk) [.nf [3,8,9,10] [192]] (qp s.nodes ((s.nodes.length:Nat):Int) v1.now v1.times v1.values) l1 ?_ ?_
 ·simp(config:=cS)only[go_sem]
 ·intro nb2 v10_1 bb2 b2 gb2
  unfold fK at b2
  try dsimp only at b2
  obtain ⟨h3,b2⟩|⟨h3,b2⟩:=af b2
  ·obtain ⟨x1001,g4,b2⟩:=ae b2
   obtain ⟨h5,h6,h7⟩:=ai g4
   obtain ⟨x1002,g8,b2⟩:=ae b2
   obtain ⟨h9,h10,h11⟩:=ai g8
   obtain ⟨h12,b2⟩|⟨h12,b2⟩:=af b2
   ·obtain ⟨r1003,g13,b2⟩:=ae b2
    simp(config:=cS)only[go_sem,eqT h3,h5,h6,h7,h9,h10,h11,eqT h12]
    refine ag (ig g13) ?_
    obtain ⟨h14,b2⟩|⟨h14,b2⟩:=af b2
    ·cases b2
     obtain rfl:=(ak gb2).symm
     try dsimp only at h
     cases h
     simp(config:=cS)only[go_sem,eqT h14]
    ·cases b2
     simp(config:=cS)only[go_sem,eqF h14]
     refine ao gb2 ?_
     simp(config:=cS)only[go_sem]
   ·cases b2
    simp(config:=cS)only[go_sem,eqT h3,h5,h6,h7,h9,h10,h11,eqF h12]
    refine ao gb2 ?_
    simp(config:=cS)only[go_sem]
  ·cases b2
   obtain rfl:=(ak gb2).symm
   try dsimp only at h
   cases h
   simp(config:=cS)only[go_sem,eqF h3]
def pC (ties v21:List Int)(v22:Int)(d_0:List GNode)(d_1:List GTie)(d_2 d_3:Int)(d_4 d_5:List Int)(d_6:Bool)(d_7:List GEntry)(v23:Int):St:=⟨[(1,.sl (ab eI ties)),(3,.ptr 192 1 0 0),(6,.ptr 384 1 0 0),(21,.sl (ab eI v21)),(22,.lit (.int .i64 v22)),(23,.lit (.int .i64 v23))],[(192,1,.var [.sl (ab GNode.encS d_0),.sl (ab GTie.enc d_1),.lit (.int .i64 d_2),.lit (.int .i64 d_3),.sl (ab eI d_4),.sl (ab eI d_5),.lit (.bool d_6),.sl (ab GEntry.encS d_7)]),(384,1,.var [.lit (.int .i64 0),.lit (.slice none 0 0),.lit (.slice none 0 0)])],2⟩
attribute [go_sem] pC
attribute [go_sem] Tryz.ntmps108 Tryz.results108
theorem BE {d:GDesk}{ties values:List Int}{res:GState × Int}(h:kk d ties values=some res):ap Tryz.prog 108 [.agg (GDesk.encS d),.sl (ab eI ties),.sl (ab eI values)] [] (.tup [.agg [.lit (.int .i64 res.1.now),.ref 20000 1 0 res.1.times.length,.ref 20001 1 0 res.1.values.length],.lit (.int .i64 res.2)]) [(20000,1,.row true (ab eI res.1.times)),(20001,1,.row true (ab eI res.1.values))]:=by
 refine aj (ra:=[.homeCell 384 1,.homeCell 384 2]) (md:=mdT) hT (hi:=hi00) Tryz.func108 rfl rfl (by decide +kernel) (by simp) ?_
 unfold kk at h
 obtain ⟨r1001,g1,h⟩:=ae h
 simp(config:=cS)only[go_sem]
 refine ag (we g1) ?_
 obtain ⟨h2,h⟩|⟨h2,h⟩:=af h
 ·obtain ⟨h3,h⟩|⟨h3,h⟩:=af h
  ·obtain ⟨q1006,l4,h⟩:=ae h
   simp(config:=cS)only[go_sem,eZt h2,eqT h3]
   refine an (m1:=.mk) (m2:=.mk) [.nf [1,3,6,21,22,23] [192,384]] (pC ties values ((values.length:Nat):Int) d.show_.nodes d.show_.ties d.show_.horizon d.state.now d.state.times d.state.values d.lazy d.log) l4 ?_ ?_
   ·simp(config:=cS)only[go_sem,eZt h2,eqT h3]
   ·intro nb5 v23_1 bb5 b5 gb5
    unfold eG at b5
    try dsimp only at b5
    obtain ⟨h6,b5⟩|⟨h6,b5⟩:=af b5
    ·obtain ⟨x1002,g7,b5⟩:=ae b5
     obtain ⟨h8,h9,h10⟩:=ai g7
     obtain ⟨h11,b5⟩|⟨h11,b5⟩:=af b5
     ·cases b5
      simp(config:=cS)only[go_sem,eZt h2,eqT h3,eqT h6,h8,h9,h10,eqT h11]
      refine ao gb5 ?_
      simp(config:=cS)only[go_sem,eZt h2,eqT h3,eqT h6,h8,h9,h10,eqT h11]
     ·obtain ⟨h12,b5⟩|⟨h12,b5⟩:=af b5
      ·cases b5
       simp(config:=cS)only[go_sem,eZt h2,eqT h3,eqT h6,h8,h9,h10,eqF h11,eqT h12]
       refine ao gb5 ?_
       simp(config:=cS)only[go_sem,eZt h2,eqT h3,eqT h6,h8,h9,h10,eqF h11,eqT h12]
      ·cases b5
       obtain rfl:=(ak gb5).symm
       try dsimp only at h
       cases h
       simp(config:=cS)only[go_sem,eZt h2,eqT h3,eqT h6,h8,h9,h10,eqF h11,eqF h12]
    ·cases b5
     obtain rfl:=(ak gb5).symm
     try dsimp only at h
     obtain ⟨r1003,g15,h⟩:=ae h
     simp(config:=cS)only[go_sem,eZt h2,eqT h3,eqF h6]
     refine ag (oX g15) ?_
     obtain ⟨h16,h⟩|⟨h16,h⟩:=af h
     ·cases h
      simp(config:=cS)only[go_sem,eZt h2,eqT h3,eqF h6,eZt h16]
     ·obtain ⟨r1004,g17,h⟩:=ae h
      simp(config:=cS)only[go_sem,eZt h2,eqT h3,eqF h6,eZf h16]
      refine ag (rx g17) ?_
      obtain ⟨h18,h⟩|⟨h18,h⟩:=af h
      ·cases h
       simp(config:=cS)only[go_sem,eZt h2,eqT h3,eqF h6,eZf h16,eZt h18]
      ·obtain ⟨h19,h⟩|⟨h19,h⟩:=af h
       ·cases h
        simp(config:=cS)only[go_sem,eZt h2,eqT h3,eqF h6,eZf h16,eZf h18,eqT h19]
       ·obtain ⟨r1005,g20,h⟩:=ae h
        simp(config:=cS)only[go_sem,eZt h2,eqT h3,eqF h6,eZf h16,eZf h18,eqF h19]
        refine ag (rb g20) ?_
        obtain ⟨h21,h⟩|⟨h21,h⟩:=af h
        ·cases h
         simp(config:=cS)only[go_sem,eZt h2,eqT h3,eqF h6,eZf h16,eZf h18,eqF h19,eZt h21]
        ·cases h
         simp(config:=cS)only[go_sem,eZt h2,eqT h3,eqF h6,eZf h16,eZf h18,eqF h19,eZf h21]
  ·cases h
   simp(config:=cS)only[go_sem,eZt h2,eqF h3]
 ·cases h
  simp(config:=cS)only[go_sem,eZf h2]
def ot (v17:List GNode)(v18:Int)(s_1:List GTie)(s_2 v3_0:Int)(v3_1 v3_2:List Int):(Int × (List Int) × (List Int) × (List Bool))→St
 | (v19,low,high,sure)=>⟨[(2,.ptr 128 1 0 0),(3,.ptr 192 1 0 0),(7,.ref 832 1 0 low.length),(8,.ref 896 1 0 high.length),(9,.ref 960 1 0 sure.length),(17,.sl (ab GNode.encS v17)),(18,.lit (.int .i64 v18)),(19,.lit (.int .i64 v19))],[(128,1,.var [.sl (ab GNode.encS v17),.sl (ab GTie.enc s_1),.lit (.int .i64 s_2)]),(192,1,.var [.lit (.int .i64 v3_0),.sl (ab eI v3_1),.sl (ab eI v3_2)]),(832,1,.row true (ab eI low)),(896,1,.row true (ab eI high)),(960,1,.row true (ab eB sure))],2⟩
attribute [go_sem] ot
attribute [go_sem] Tryz.ntmps274 Tryz.results274
theorem zM {s:GShow}{v1:GState}{res:(List Int) × (List Int) × (List Bool)}(h:jw s v1=some res):ap Tryz.prog 274 [.agg (GShow.encS s),.agg (GState.encS v1)] [] (.tup [.ref 20000 1 0 res.1.length,.ref 20001 1 0 res.2.1.length,.ref 20002 1 0 res.2.2.length]) [(20000,1,.row true (ab eI res.1)),(20001,1,.row true (ab eI res.2.1)),(20002,1,.row true (ab eB res.2.2))]:=by
 refine aj (ra:=[.home 4,.home 5,.home 6]) (md:=mdT) hT (hi:=hi00) Tryz.func274 rfl rfl (by decide +kernel) (by simp) ?_
 unfold jw at h
 obtain ⟨q1004,l1,h⟩:=ae h
 simp(config:=cS)only[go_sem]
 refine an (m1:=.mk) (m2:=.mk) [.nf [2,3,7,8,9,17,18,19] [128,192,832,896,960]] (ot s.nodes ((s.nodes.length:Nat):Int) s.ties s.horizon v1.now v1.times v1.values) l1 ?_ ?_
 ·simp(config:=cS)only[go_sem]
 ·intro nb2 sb2 bb2 b2 gb2
  obtain ⟨v19_1,low_1,high_1,sure_1⟩:=sb2
  unfold gh at b2
  try dsimp only at b2
  obtain ⟨h3,b2⟩|⟨h3,b2⟩:=af b2
  ·obtain ⟨x1001,g4,b2⟩:=ae b2
   obtain ⟨h5,h6,h7⟩:=ai g4
   obtain ⟨x1002,g8,b2⟩:=ae b2
   obtain ⟨h9,h10,h11⟩:=ai g8
   obtain ⟨r1003,g12,b2⟩:=ae b2
   simp(config:=cS)only[go_sem,eqT h3,h5,h6,h7,h9,h10,h11]
   refine ag (ig g12) ?_
   obtain ⟨h13,b2⟩:=ah b2
   obtain ⟨h14,b2⟩:=ah b2
   obtain ⟨h15,b2⟩|⟨h15,b2⟩:=af b2
   ·obtain ⟨h16,b2⟩:=ah b2
    obtain ⟨h17,b2⟩:=ah b2
    obtain ⟨h18,b2⟩:=ah b2
    obtain ⟨h19,b2⟩:=ah b2
    cases b2
    simp(config:=cS)only[go_sem,eqT h13,eqT h14,eqT h15,eqT h16,eqT h17,eqT h18,eqT h19]
    refine ao gb2 ?_
    simp(config:=cS)only[go_sem]
   ·obtain ⟨h20,b2⟩:=ah b2
    obtain ⟨h21,b2⟩:=ah b2
    obtain ⟨h22,b2⟩:=ah b2
    obtain ⟨h23,b2⟩:=ah b2
    cases b2
    simp(config:=cS)only[go_sem,eqT h13,eqT h14,eqF h15,eqT h20,eqT h21,eqT h22,eqT h23]
    refine ao gb2 ?_
    simp(config:=cS)only[go_sem]
  ·cases b2
   obtain rfl:=(ak gb2).symm
   try dsimp only at h
   cases h
   simp(config:=cS)only[go_sem,eqF h3]
def mW (round:Int)(v27:List GTie)(v28:Int)(s_0:List GNode)(s_2:Int)(sure:List Bool):(Int × (List Int) × (List Int))→St
 | (v29,low,high)=>⟨[(2,.ptr 128 1 0 0),(5,.ref 960 1 0 low.length),(6,.ref 961 1 0 high.length),(7,.ref 962 1 0 sure.length),(8,.lit (.int .i64 round)),(27,.sl (ab GTie.enc v27)),(28,.lit (.int .i64 v28)),(29,.lit (.int .i64 v29))],[(128,1,.var [.sl (ab GNode.encS s_0),.sl (ab GTie.enc v27),.lit (.int .i64 s_2)]),(960,1,.row true (ab eI low)),(961,1,.row true (ab eI high)),(962,1,.row true (ab eB sure))],2⟩
attribute [go_sem] mW
def mX (s_0:List GNode)(s_1:List GTie)(s_2:Int)(sure:List Bool):(Int × (List Int) × (List Int))→St
 | (round,low,high)=>⟨[(2,.ptr 128 1 0 0),(5,.ref 960 1 0 low.length),(6,.ref 961 1 0 high.length),(7,.ref 962 1 0 sure.length),(8,.lit (.int .i64 round))],[(128,1,.var [.sl (ab GNode.encS s_0),.sl (ab GTie.enc s_1),.lit (.int .i64 s_2)]),(960,1,.row true (ab eI low)),(961,1,.row true (ab eI high)),(962,1,.row true (ab eB sure))],2⟩
attribute [go_sem] mX
def mY (v121:Int)(low high:List Int)(sure:List Bool)(v122:Int):St:=⟨[(5,.ref 960 1 0 low.length),(6,.ref 961 1 0 high.length),(7,.ref 962 1 0 sure.length),(121,.lit (.int .i64 v121)),(122,.lit (.int .i64 v122))],[(960,1,.row true (ab eI low)),(961,1,.row true (ab eI high)),(962,1,.row true (ab eB sure))],2⟩
attribute [go_sem] mY
@[go_sem] def hi262_17:DT:=.i2 0 (.i2 1 (.i2 2 (.i2 3 (.i2 4 (.i2 5 (.i2 6 (.i2 7 (.i2 8 (.i2 9 (.i2 10 (.i2 11 (.i2 12 (.i2 13 (.i2 14 .nil))))))))))))))
@[go_sem] def hi262_12:DT:=.i2 0 (.i2 1 (.i2 2 (.i2 3 (.i2 4 (.i2 5 (.i2 6 (.i2 7 (.i2 8 (.i2 9 (.i2 10 (.i2 11 (.i2 12 (.i2 13 (.i2 14 (.i2 15 (.i2 16 (.i2 17 (.i2 18 .nil))))))))))))))))))
@[go_sem] def hi262_11:DT:=.i2 0 (.i2 1 (.i2 2 (.i2 3 (.i2 4 (.i2 5 (.i2 6 (.i2 7 (.i2 8 (.i2 9 (.i2 10 (.i2 11 (.i2 12 (.i2 13 (.i2 14 (.i2 15 (.i2 16 (.i2 17 (.i2 18 .nil))))))))))))))))))
@[go_sem] def hi262_10:DT:=.i2 0 (.i2 1 (.i2 2 (.i2 3 (.i2 4 (.i2 5 (.i2 6 (.i2 7 (.i2 8 (.i2 9 (.i2 10 (.i2 11 (.i2 12 (.i2 13 (.i2 14 (.i2 15 (.i2 16 (.i2 17 (.i2 18 .nil))))))))))))))))))
@[go_sem] def hi262_9:DT:=.i2 0 (.i2 1 (.i2 2 (.i2 3 (.i2 4 (.i2 5 (.i2 6 (.i2 7 (.i2 8 (.i2 9 (.i2 10 (.i2 11 (.i2 12 (.i2 13 (.i2 14 (.i2 15 (.i2 16 (.i2 17 (.i2 18 .nil))))))))))))))))))
def ug:Hint where
 acts:=fun _=>[]
 draws:=fun
  | 9=>⟨hi262_9,[[],[],[1],[],[],[4],[3,4,5],[3,4,5,6],[],[],[9],[8,9,10],[8,9,10,11],[],[13],[8,9,10,11,12,13,14],[3,4,5,6,7,8,9,10,11,12,13,14,15],.range 17,.range 18],.range 19⟩
  | 10=>⟨hi262_10,[[],[],[1],[],[],[4],[3,4,5],[3,4,5,6],[],[],[9],[8,9,10],[8,9,10,11],[],[13],[8,9,10,11,12,13,14],[3,4,5,6,7,8,9,10,11,12,13,14,15],.range 17,.range 18],.range 19⟩
  | 11=>⟨hi262_11,[[],[],[1],[],[],[4],[3,4,5],[3,4,5,6],[],[],[9],[8,9,10],[8,9,10,11],[],[13],[8,9,10,11,12,13,14],[3,4,5,6,7,8,9,10,11,12,13,14,15],.range 17,.range 18],.range 19⟩
  | 12=>⟨hi262_12,[[],[],[1],[],[],[4],[3,4,5],[3,4,5,6],[],[],[9],[8,9,10],[8,9,10,11],[],[13],[8,9,10,11,12,13,14],[3,4,5,6,7,8,9,10,11,12,13,14,15],.range 17,.range 18],.range 19⟩
  | 17=>⟨hi262_17,[[],[],[0,1],[0,1,2],[0,1,2,3],.range 5,.range 5,.range 7,.range 8,.range 5,.range 5,[0,1,2,3,4,9,10],[0,1,2,3,4,9,10,11],.range 13,.range 14],.range 15⟩
  | _=>⟨.nil,[],[]⟩
theorem PY (i:Nat):ug.acts i=[]:=rfl
theorem PZ (i:Nat):ug.views i=none:=rfl
attribute [go_sem] PY PZ Tryz.ntmps262 Tryz.results262
@[go_sem] theorem Tn:(ug.draws 9).order=hi262_9:=rfl
@[go_sem] theorem SX:(ug.draws 10).order=hi262_10:=rfl
@[go_sem] theorem SY:(ug.draws 11).order=hi262_11:=rfl
@[go_sem] theorem SZ:(ug.draws 12).order=hi262_12:=rfl
@[go_sem] theorem Ta:(ug.draws 17).order=hi262_17:=rfl
theorem xg {s:GShow}{v1:GState}{res:Bool}(h:hY s v1=some res):ap Tryz.prog 262 [.agg (GShow.encS s),.agg (GState.encS v1)] [] (.lit (.bool res)) []:=by
 refine aj (ra:=[]) (md:=mdT) hT (hi:=ug) Tryz.func262 rfl rfl (by decide +kernel) (by simp) ?_
 unfold hY at h
 obtain ⟨r1001,g1,h⟩:=ae h
 simp(config:=cS)only[go_sem]
 refine ag (zM g1) ?_
 obtain ⟨q1018,l2,h⟩:=ae h
 simp(config:=cS)only[go_sem]
 refine an (m1:=.mk) (m2:=.mk) [.nf [2,5,6,7,8] [128,960,961,962]] (mX s.nodes s.ties s.horizon r1001.2.2) l2 ?_ ?_
 ·simp(config:=cS)only[go_sem]
 ·intro nb3 sb3 bb3 b3 gb3
  obtain ⟨round_1,low_1,high_1⟩:=sb3
  unfold eJ at b3
  try dsimp only at b3
  obtain ⟨h4,b3⟩|⟨h4,b3⟩:=af b3
  ·obtain ⟨q1013,l5,b3⟩:=ae b3
   simp(config:=cS)only[go_sem,eqT h4]
   refine an (m1:=.mk) (m2:=.mk) [.nf [2,5,6,7,8,27,28,29] [128,960,961,962]] (mW round_1 s.ties ((s.ties.length:Nat):Int) s.nodes s.horizon r1001.2.2) l5 ?_ ?_
   ·simp(config:=cS)only[go_sem]
   ·intro nb6 sb6 bb6 b6 gb6
    obtain ⟨v29_2,low_2,high_2⟩:=sb6
    unfold eH at b6
    try dsimp only at b6
    obtain ⟨h7,b6⟩|⟨h7,b6⟩:=af b6
    ·obtain ⟨x1002,g8,b6⟩:=ae b6
     obtain ⟨h9,h10,h11⟩:=ai g8
     obtain ⟨x1003,g12,b6⟩:=ae b6
     obtain ⟨h13,h14,h15⟩:=ai g12
     obtain ⟨h16,b6⟩|⟨h16,b6⟩:=af b6
     ·obtain ⟨x1004,g17,b6⟩:=ae b6
      obtain ⟨h18,h19,h20⟩:=ai g17
      obtain ⟨h21,b6⟩|⟨h21,b6⟩:=af b6
      ·obtain ⟨x1005,g22,b6⟩:=ae b6
       obtain ⟨h23,h24,h25⟩:=ai g22
       obtain ⟨x1006,g26,b6⟩:=ae b6
       obtain ⟨h27,h28,h29⟩:=ai g26
       obtain ⟨x1007,g30,b6⟩:=ae b6
       obtain ⟨h31,h32,h33⟩:=ai g30
       obtain ⟨x1008,g34,b6⟩:=ae b6
       obtain ⟨h35,h36,h37⟩:=ai g34
       obtain ⟨x1009,g38,b6⟩:=ae b6
       obtain ⟨h39,h40,h41⟩:=ai g38
       obtain ⟨x1010,g42,b6⟩:=ae b6
       obtain ⟨h43,h44,h45⟩:=ai g42
       obtain ⟨x1011,g46,b6⟩:=ae b6
       obtain ⟨h47,h48,h49⟩:=ai g46
       obtain ⟨x1012,g50,b6⟩:=ae b6
       obtain ⟨h51,h52,h53⟩:=ai g50
       cases b6
       simp(config:=cS)only[go_sem,eqT h7,h9,h10,h11,h13,h14,h15,eZt h16,h18,h19,h20,eZt h21,h23,h24,h25,h27,h28,h29,h31,h32,h33,h35,h36,h37,h39,h40,h41,h43,h44,h45,h47,h48,h49,h51,h52,h53]
       refine ao gb6 ?_
       simp(config:=cS)only[go_sem]
      ·cases b6
       simp(config:=cS)only[go_sem,eqT h7,h9,h10,h11,h13,h14,h15,eZt h16,h18,h19,h20,eZf h21]
       refine ao gb6 ?_
       simp(config:=cS)only[go_sem]
     ·cases b6
      simp(config:=cS)only[go_sem,eqT h7,h9,h10,h11,h13,h14,h15,eZf h16]
      refine ao gb6 ?_
      simp(config:=cS)only[go_sem]
    ·cases b6
     obtain rfl:=(ak gb6).symm
     try dsimp only at b3
     cases b3
     simp(config:=cS)only[go_sem,eqF h7]
     refine ao gb3 ?_
     simp(config:=cS)only[go_sem]
  ·cases b3
   obtain rfl:=(ak gb3).symm
   try dsimp only at h
   obtain ⟨q1017,l56,h⟩:=ae h
   simp(config:=cS)only[go_sem,eqF h4]
   refine an (m1:=.mk) (m2:=.mk) [.nf [5,6,7,121,122] [960,961,962]] (mY ((low_1.length:Nat):Int) low_1 high_1 r1001.2.2) l56 ?_ ?_
   ·simp(config:=cS)only[go_sem]
   ·intro nb57 v122_3 bb57 b57 gb57
    unfold eL at b57
    try dsimp only at b57
    obtain ⟨h58,b57⟩|⟨h58,b57⟩:=af b57
    ·obtain ⟨x1014,g59,b57⟩:=ae b57
     obtain ⟨h60,h61,h62⟩:=ai g59
     obtain ⟨h63,b57⟩|⟨h63,b57⟩:=af b57
     ·obtain ⟨x1015,g64,b57⟩:=ae b57
      obtain ⟨h65,h66,h67⟩:=ai g64
      obtain ⟨x1016,g68,b57⟩:=ae b57
      obtain ⟨h69,h70,h71⟩:=ai g68
      obtain ⟨h72,b57⟩|⟨h72,b57⟩:=af b57
      ·cases b57
       obtain rfl:=(ak gb57).symm
       try dsimp only at h
       cases h
       simp(config:=cS)only[go_sem,eqT h58,h60,h61,h62,eZt h63,h65,h66,h67,h69,h70,h71,eqT h72]
      ·cases b57
       simp(config:=cS)only[go_sem,eqT h58,h60,h61,h62,eZt h63,h65,h66,h67,h69,h70,h71,eqF h72]
       refine ao gb57 ?_
       simp(config:=cS)only[go_sem]
     ·cases b57
      simp(config:=cS)only[go_sem,eqT h58,h60,h61,h62,eZf h63]
      refine ao gb57 ?_
      simp(config:=cS)only[go_sem]
    ·cases b57
     obtain rfl:=(ak gb57).symm
     try dsimp only at h
     cases h
     simp(config:=cS)only[go_sem,eqF h58]
def lI (props:List Int)(v10 v11:Int):St:=⟨[(0,.sl (ab eI props)),(9,.sl (ab eI props)),(10,.lit (.int .i64 v10)),(11,.lit (.int .i64 v11))],[],2⟩
attribute [go_sem] lI
def lJ (props:List Int)(n v44:Int)(out:List (List Int)):(Int × (List Int))→St
 | (v45,l)=>⟨[(0,.sl (ab eI props)),(5,.ref 2112 1 0 out.length),(6,.lit (.int .i64 n)),(7,.ref 2688 1 0 l.length),(44,.lit (.int .i64 v44)),(45,.lit (.int .i64 v45))],[(2112,1,.row true (ab (eLO eI) out)),(2688,1,.row true (ab eI l))],2⟩
attribute [go_sem] lJ
def lK (props:List Int):(Int × (List (List Int)))→St
 | (n,out)=>⟨[(0,.sl (ab eI props)),(5,.ref 2112 1 0 out.length),(6,.lit (.int .i64 n))],[(2112,1,.row true (ab (eLO eI) out))],2⟩
attribute [go_sem] lK
attribute [go_sem] Tryz.ntmps236 Tryz.results236
theorem va {props:List Int}{res:List (List Int)}(h:eN props=some res):ap Tryz.prog 236 [.sl (ab eI props)] [] (.ref 20000 1 0 res.length) [(20000,1,.row true (ab (eLO eI) res))]:=by
 refine aj (ra:=[.home 2]) (md:=mdT) hT (hi:=hi00) Tryz.func236 rfl rfl (by decide +kernel) (by simp) ?_
 unfold eN at h
 obtain ⟨q1006,l1,h⟩:=ae h
 simp(config:=cS)only[go_sem]
 refine an (m1:=.mk) (m2:=.mk) [.nf [0,9,10,11] []] (lI props ((props.length:Nat):Int)) l1 ?_ ?_
 ·simp(config:=cS)only[go_sem]
 ·intro nb2 v11_1 bb2 b2 gb2
  unfold cZ at b2
  try dsimp only at b2
  obtain ⟨h3,b2⟩|⟨h3,b2⟩:=af b2
  ·obtain ⟨x1001,g4,b2⟩:=ae b2
   obtain ⟨h5,h6,h7⟩:=ai g4
   obtain ⟨r1002,g8,b2⟩:=ae b2
   simp(config:=cS)only[go_sem,eqT h3,h5,h6,h7]
   refine ag (bU g8) ?_
   obtain ⟨h9,b2⟩|⟨h9,b2⟩:=af b2
   ·obtain ⟨h10,b2⟩|⟨h10,b2⟩:=af b2
    ·obtain ⟨x1003,g11,b2⟩:=ae b2
     obtain ⟨h12,h13,h14⟩:=ai g11
     obtain ⟨h15,b2⟩|⟨h15,b2⟩:=af b2
     ·cases b2
      obtain rfl:=(ak gb2).symm
      try dsimp only at h
      cases h
      simp(config:=cS)only[go_sem,eZt h9,eqT h10,h12,h13,h14,eqT h15]
     ·cases b2
      simp(config:=cS)only[go_sem,eZt h9,eqT h10,h12,h13,h14,eqF h15]
      refine ao gb2 ?_
      simp(config:=cS)only[go_sem]
    ·cases b2
     simp(config:=cS)only[go_sem,eZt h9,eqF h10]
     refine ao gb2 ?_
     simp(config:=cS)only[go_sem]
   ·cases b2
    obtain rfl:=(ak gb2).symm
    try dsimp only at h
    cases h
    simp(config:=cS)only[go_sem,eZf h9]
  ·cases b2
   obtain rfl:=(ak gb2).symm
   try dsimp only at h
   obtain ⟨q1005,l19,h⟩:=ae h
   simp(config:=cS)only[go_sem,eqF h3]
   refine an (m1:=.mk) (m2:=.mk) [.nf [0,5,6] [2112]] (lK props) l19 ?_ ?_
   ·simp(config:=cS)only[go_sem]
   ·intro nb20 sb20 bb20 b20 gb20
    obtain ⟨n_2,out_2⟩:=sb20
    unfold db at b20
    try dsimp only at b20
    obtain ⟨h21,b20⟩:=ah b20
    obtain ⟨h22,b20⟩|⟨h22,b20⟩:=af b20
    ·obtain ⟨q1004,l23,b20⟩:=ae b20
     simp(config:=cS)only[go_sem,eqF h21,eqT h22]
     refine an (m1:=.mk) (m2:=.mk) [.nf [0,5,6,7,44,45] [2112,2688]] (lJ props n_2 ((props.length:Nat):Int) out_2) l23 ?_ ?_
     ·simp(config:=cS)only[go_sem]
     ·intro nb24 sb24 bb24 b24 gb24
      obtain ⟨v45_3,l_3⟩:=sb24
      unfold da at b24
      try dsimp only at b24
      obtain ⟨h25,b24⟩|⟨h25,b24⟩:=af b24
      ·obtain ⟨h26,b24⟩:=ah b24
       obtain ⟨h27,b24⟩:=ah b24
       obtain ⟨h28,b24⟩:=ah b24
       cases b24
       simp(config:=cS)only[go_sem,eqT h25,eqF h26,eqT h27,eqT h28]
       refine ao gb24 ?_
       simp(config:=cS)only[go_sem]
      ·cases b24
       obtain rfl:=(ak gb24).symm
       try dsimp only at b20
       obtain ⟨h30,b20⟩:=ah b20
       obtain ⟨h31,b20⟩:=ah b20
       cases b20
       simp(config:=cS)only[go_sem,eqF h25,eqT h30,eqT h31]
       refine ao gb20 ?_
       simp(config:=cS)only[go_sem]
    ·cases b20
     obtain rfl:=(ak gb20).symm
     try dsimp only at h
     cases h
     simp(config:=cS)only[go_sem,eqF h21,eqF h22]
def qq (v20:Int)(s_0:List GNode)(s_1:List GTie)(s_2 y_0:Int)(h960 h961 props:List Int)(v19:List (List Int))(v21:Int):St:=⟨[(3,.ptr 192 1 0 0),(7,.ptr 448 1 0 0),(8,.ref 962 1 0 props.length),(19,.ref 1216 1 0 v19.length),(20,.lit (.int .i64 v20)),(21,.lit (.int .i64 v21))],[(192,1,.var [.sl (ab GNode.encS s_0),.sl (ab GTie.enc s_1),.lit (.int .i64 s_2)]),(448,1,.var [.lit (.int .i64 y_0),.ref 960 1 0 h960.length,.ref 961 1 0 h961.length]),(960,1,.row true (ab eI h960)),(961,1,.row true (ab eI h961)),(962,1,.row true (ab eI props)),(1216,1,.tree (ab (eLS eI) v19))],2⟩
attribute [go_sem] qq
@[go_sem] def hi191_5:DT:=.i1 0 (.i2 1 (.i2 2 (.i2 3 (.i0 4 [0] (.i2 5 (.i2 6 .nil))))))
def FB:Hint where
 acts:=fun _=>[]
 draws:=fun
  | 5=>⟨hi191_5,[[],[],[],[],[1,2,3],.range 5,.range 6],.range 7⟩
  | _=>⟨.nil,[],[]⟩
@[go_sem] theorem Uv (i:Nat):FB.acts i=[]:=rfl
theorem Qa (i:Nat):FB.views i=none:=rfl
attribute [go_sem] Qa Tryz.ntmps191 Tryz.results191
@[go_sem] theorem To:(FB.draws 5).order=hi191_5:=rfl
theorem tu {rec:GShow→GState→Option Bool}(hrec:∀ {s:GShow} {v1:GState} {res:Bool},rec s v1=some res→ap Tryz.prog 237 [.agg (GShow.encS s),.agg (GState.encS v1)] [] (.lit (.bool res)) []){s:GShow}{v1:GState}{nodes:List Int}{res:Bool}(h:gE rec s v1 nodes=some res):ap Tryz.prog 191 [.agg (GShow.encS s),.agg (GState.encS v1),.sl (ab eI nodes)] [] (.lit (.bool res)) []:=by
 refine aj (ra:=[]) (md:=mdT) hT (hi:=FB) Tryz.func191 rfl rfl (by decide +kernel) (by simp) ?_
 unfold gE at h
 obtain ⟨r1001,g1,h⟩:=ae h
 simp(config:=cS)only[go_sem]
 refine ag (oW g1) ?_
 obtain ⟨r1002,g2,h⟩:=ae h
 simp(config:=cS)only[go_sem]
 refine ag (va g2) ?_
 obtain ⟨q1006,l3,h⟩:=ae h
 simp(config:=cS)only[go_sem]
 refine an (m1:=.mk) (m2:=.mk) [.freeze [1216],.nf [3,7,8,19,20,21] [192,448,960,961,962,1216]] (qq ((r1002.length:Nat):Int) s.nodes s.ties s.horizon r1001.1.now r1001.1.times r1001.1.values r1001.2 r1002) l3 ?_ ?_
 ·simp(config:=cS)only[go_sem]
 ·intro nb4 v21_1 bb4 b4 gb4
  unfold iH at b4
  try dsimp only at b4
  obtain ⟨h5,b4⟩|⟨h5,b4⟩:=af b4
  ·obtain ⟨x1003,g6,b4⟩:=ae b4
   obtain ⟨h7,h8,h9⟩:=ai g6
   obtain ⟨r1004,g10,b4⟩:=ae b4
   simp(config:=cS)only[go_sem,eqT h5,h7,h8,h9]
   refine ag (ji g10) ?_
   obtain ⟨r1005,g11,b4⟩:=ae b4
   simp(config:=cS)only[go_sem]
   refine ag (hrec g11) ?_
   obtain ⟨h12,b4⟩|⟨h12,b4⟩:=af b4
   ·cases b4
    simp(config:=cS)only[go_sem,eZt h12]
    refine ao gb4 ?_
    simp(config:=cS)only[go_sem]
   ·cases b4
    obtain rfl:=(ak gb4).symm
    try dsimp only at h
    cases h
    simp(config:=cS)only[go_sem,eZf h12]
  ·cases b4
   obtain rfl:=(ak gb4).symm
   try dsimp only at h
   cases h
   simp(config:=cS)only[go_sem,eqF h5]
def rc (s_0:List GNode)(s_1:List GTie)(s_2 v3_0:Int)(v3_1 v3_2 l:List Int)(n:Int):St:=⟨[(2,.ptr 128 1 0 0),(3,.ptr 192 1 0 0),(5,.ref 576 1 0 l.length),(6,.lit (.int .i64 n))],[(128,1,.var [.sl (ab GNode.encS s_0),.sl (ab GTie.enc s_1),.lit (.int .i64 s_2)]),(192,1,.var [.lit (.int .i64 v3_0),.sl (ab eI v3_1),.sl (ab eI v3_2)]),(576,1,.row true (ab eI l))],2⟩
attribute [go_sem] rc
@[go_sem] def hi263_5:DT:=.i1 0 (.i1 1 (.i2 2 (.i2 3 (.i0 4 [0,1] (.i2 5 .nil)))))
def FC:Hint where
 acts:=fun _=>[]
 draws:=fun
  | 5=>⟨hi263_5,[[],[],[],[],[2,3],.range 5],.range 6⟩
  | _=>⟨.nil,[],[]⟩
theorem Qb (i:Nat):FC.acts i=[]:=rfl
theorem Qc (i:Nat):FC.views i=none:=rfl
attribute [go_sem] Qb Qc Tryz.ntmps263 Tryz.results263
@[go_sem] theorem Tp:(FC.draws 5).order=hi263_5:=rfl
theorem BF {rec:GShow→GState→Option Bool}(hrec:∀ {s:GShow} {v1:GState} {res:Bool},rec s v1=some res→ap Tryz.prog 237 [.agg (GShow.encS s),.agg (GState.encS v1)] [] (.lit (.bool res)) []){s:GShow}{v1:GState}{res:Bool}(h:kl rec s v1=some res):ap Tryz.prog 263 [.agg (GShow.encS s),.agg (GState.encS v1)] [] (.lit (.bool res)) []:=by
 refine aj (ra:=[]) (md:=mdT) hT (hi:=FC) Tryz.func263 rfl rfl (by decide +kernel) (by simp) ?_
 unfold kl at h
 obtain ⟨r1001,g1,h⟩:=ae h
 simp(config:=cS)only[go_sem]
 refine ag (sC g1) ?_
 obtain ⟨h2,h⟩:=ah h
 obtain ⟨q1004,l3,h⟩:=ae h
 simp(config:=cS)only[go_sem,eqF h2]
 refine an (m1:=.mk) (m2:=.mk) [.nf [2,3,5,6] [128,192,576]] (rc s.nodes s.ties s.horizon v1.now v1.times v1.values r1001) l3 ?_ ?_
 ·simp(config:=cS)only[go_sem]
 ·intro nb4 n_1 bb4 b4 gb4
  unfold gF at b4
  try dsimp only at b4
  obtain ⟨h5,b4⟩|⟨h5,b4⟩:=af b4
  ·obtain ⟨r1002,g6,b4⟩:=ae b4
   simp(config:=cS)only[go_sem,eqT h5]
   refine ag (nz g6) ?_
   obtain ⟨r1003,g7,b4⟩:=ae b4
   simp(config:=cS)only[go_sem]
   refine ag (tu @hrec g7) ?_
   obtain ⟨h8,b4⟩|⟨h8,b4⟩:=af b4
   ·cases b4
    obtain rfl:=(ak gb4).symm
    try dsimp only at h
    cases h
    simp(config:=cS)only[go_sem,eZt h8]
   ·cases b4
    simp(config:=cS)only[go_sem,eZf h8]
    refine ao gb4 ?_
    simp(config:=cS)only[go_sem]
  ·cases b4
   obtain rfl:=(ak gb4).symm
   try dsimp only at h
   cases h
   simp(config:=cS)only[go_sem,eqF h5]
end Go.Proofs.YtghfphjfkdbpjaaGreatY
