/- Functions. -/
import Derived.Test.YtpkcmjnlnbddbaaGreatDoorXdM
import Derived.Test.YtpkcmjnlnbddbaaGreatDoorXd37
set_option linter.all false
set_option maxRecDepth 100000
set_option maxHeartbeats 4000000
namespace Go.Proofs.Qd
open Go
attribute [go_sem] Tryz.ntmps53 Tryz.results53
attribute [go_sem] Tryz.ntmps117 Tryz.results117
def tY (a:List GNode):(Int × Int)→St
 | (b,i)=>⟨[(0,.sl (ab GNode.encS a)),(1,.lit (.int .i64 b)),(5,.lit (.int .i64 i))],[],2⟩
attribute [go_sem] tY
attribute [go_sem] Tryz.ntmps51 Tryz.results51
attribute [go_sem] Tryz.ntmps52 Tryz.results52
attribute [go_sem] Tryz.ntmps9 Tryz.results9
def uU (a:List Int):(Int × (List Int))→St
 | (i,b)=>⟨[(0,.sl (ab eI a)),(3,.ref 448 1 0 b.length),(4,.lit (.int .i64 i))],[(448,1,.row true (ab eI b))],2⟩
attribute [go_sem] uU
attribute [go_sem] Tryz.ntmps14 Tryz.results14
attribute [go_sem] Tryz.ntmps127 Tryz.results127
def tZ (a:List GNode):(Int × (List GNode))→St
 | (i,b)=>⟨[(0,.sl (ab GNode.encS a)),(3,.ref 448 1 0 b.length),(4,.lit (.int .i64 i))],[(448,1,.row true (ab GNode.encO b))],2⟩
attribute [go_sem] tZ
attribute [go_sem] Tryz.ntmps57 Tryz.results57
attribute [go_sem] Tryz.ntmps128 Tryz.results128
def uV (a:List GTie):(Int × (List GTie))→St
 | (i,b)=>⟨[(0,.sl (ab GTie.enc a)),(3,.ref 448 1 0 b.length),(4,.lit (.int .i64 i))],[(448,1,.row true (ab GTie.enc b))],2⟩
attribute [go_sem] uV
attribute [go_sem] Tryz.ntmps58 Tryz.results58
attribute [go_sem] Tryz.ntmps12 Tryz.results12
attribute [go_sem] Tryz.ntmps124 Tryz.results124
theorem gy {n lo hi:Int}{res:Bool}(h:cG n lo hi=some res):al Tryz.prog 124 [.lit (.int .i64 n),.lit (.int .i64 lo),.lit (.int .i64 hi)] [] (.lit (.bool res)) []:=by
 refine ai (ra:=[]) (md:=mdT) hT (hi:=hi00) Tryz.func124 rfl rfl (by decide +kernel) (by simp) ?_
 unfold cG at h
 obtain ⟨h1,h⟩|⟨h1,h⟩:=af h
 ·cases h
  simp(config:=cS)only[go_sem,eqT h1]
 ·cases h
  simp(config:=cS)only[go_sem,eqF h1]
def oW (s:ByteArray)(i:Int):St:=⟨[(0,.lit (.string s)),(3,.lit (.int .i64 i))],[],2⟩
attribute [go_sem] oW
attribute [go_sem] Tryz.ntmps274 Tryz.results274
theorem Ft {s:ByteArray}{res:Bool}(h:kP s=some res):al Tryz.prog 274 [.lit (.string s)] [] (.lit (.bool res)) []:=by
 refine ai (ra:=[]) (md:=mdT) hT (hi:=hi00) Tryz.func274 rfl rfl (by decide +kernel) (by simp) ?_
 unfold kP at h
 obtain ⟨q03,l1,h⟩:=ae h
 simp(config:=cS)only[go_sem]
 refine ar (m1:=.mk) (m2:=.mk) [.nf [0,3] []] (oW s) l1 ?_ ?_
 ·simp(config:=cS)only[go_sem]
 ·intro nb2 i_1 bb2 b2 gb2
  unfold fX at b2
  try dsimp only at b2
  obtain ⟨h3,b2⟩|⟨h3,b2⟩:=af b2
  ·obtain ⟨c1001,g4,b2⟩:=ae b2
   obtain ⟨h5,h6,h7⟩:=ij g4
   obtain ⟨h8,b2⟩|⟨h8,b2⟩:=af b2
   ·obtain ⟨h9,b2⟩|⟨h9,b2⟩:=af b2
    ·cases b2
     simp(config:=cS)only[go_sem,eqT h3,h5,h6,h7,eqT h8,eqT h9]
     refine au gb2 ?_
     simp(config:=cS)only[go_sem]
    ·obtain ⟨h10,b2⟩|⟨h10,b2⟩:=af b2
     ·cases b2
      obtain rfl:=(aj gb2).symm
      try dsimp only at h
      cases h
      simp(config:=cS)only[go_sem,eqT h3,h5,h6,h7,eqT h8,eqF h9,eqT h10]
     ·obtain ⟨h12,b2⟩|⟨h12,b2⟩:=af b2
      ·cases b2
       obtain rfl:=(aj gb2).symm
       try dsimp only at h
       cases h
       simp(config:=cS)only[go_sem,eqT h3,h5,h6,h7,eqT h8,eqF h9,eqF h10,eqT h12]
      ·obtain ⟨h14,b2⟩|⟨h14,b2⟩:=af b2
       ·cases b2
        obtain rfl:=(aj gb2).symm
        try dsimp only at h
        cases h
        simp(config:=cS)only[go_sem,eqT h3,h5,h6,h7,eqT h8,eqF h9,eqF h10,eqF h12,eqT h14]
       ·cases b2
        simp(config:=cS)only[go_sem,eqT h3,h5,h6,h7,eqT h8,eqF h9,eqF h10,eqF h12,eqF h14]
        refine au gb2 ?_
        simp(config:=cS)only[go_sem]
   ·obtain ⟨h16,b2⟩|⟨h16,b2⟩:=af b2
    ·cases b2
     obtain rfl:=(aj gb2).symm
     try dsimp only at h
     cases h
     simp(config:=cS)only[go_sem,eqT h3,h5,h6,h7,eqF h8,eqT h16]
    ·obtain ⟨h18,b2⟩|⟨h18,b2⟩:=af b2
     ·cases b2
      obtain rfl:=(aj gb2).symm
      try dsimp only at h
      cases h
      simp(config:=cS)only[go_sem,eqT h3,h5,h6,h7,eqF h8,eqF h16,eqT h18]
     ·obtain ⟨h20,b2⟩|⟨h20,b2⟩:=af b2
      ·cases b2
       obtain rfl:=(aj gb2).symm
       try dsimp only at h
       cases h
       simp(config:=cS)only[go_sem,eqT h3,h5,h6,h7,eqF h8,eqF h16,eqF h18,eqT h20]
      ·cases b2
       simp(config:=cS)only[go_sem,eqT h3,h5,h6,h7,eqF h8,eqF h16,eqF h18,eqF h20]
       refine au gb2 ?_
       simp(config:=cS)only[go_sem]
  ·cases b2
   obtain rfl:=(aj gb2).symm
   try dsimp only at h
   obtain ⟨r02,g23,h⟩:=ae h
   simp(config:=cS)only[go_sem,eqF h3]
   refine ag (gy g23) ?_
   cases h
   simp(config:=cS)only[go_sem]
attribute [go_sem] Tryz.ntmps122 Tryz.results122
theorem pu {n res:Int}(h:dv n=some res):al Tryz.prog 122 [.lit (.int .i64 n)] [] (.lit (.int .i64 res)) []:=by
 refine ai (ra:=[]) (md:=mdT) hT (hi:=hi00) Tryz.func122 rfl rfl (by decide +kernel) (by simp) ?_
 unfold dv at h
 obtain ⟨h1,h⟩|⟨h1,h⟩:=af h
 ·cases h
  simp(config:=cS)only[go_sem,eqT h1]
 ·cases h
  simp(config:=cS)only[go_sem,eqF h1]
def oc (l:List Int)(a b:Int):St:=⟨[(0,.sl (ab eI l)),(5,.sl (ab eI l)),(6,.lit (.int .i64 a)),(7,.lit (.int .i64 b))],[],2⟩
attribute [go_sem] oc
attribute [go_sem] Tryz.ntmps275 Tryz.results275
theorem pv {l:List Int}{res:Bool}(h:fY l=some res):al Tryz.prog 275 [.sl (ab eI l)] [] (.lit (.bool res)) []:=by
 refine ai (ra:=[]) (md:=mdT) hT (hi:=hi00) Tryz.func275 rfl rfl (by decide +kernel) (by simp) ?_
 unfold fY at h
 obtain ⟨q06,l1,h⟩:=ae h
 simp(config:=cS)only[go_sem]
 refine ar (m1:=.mk) (m2:=.mk) [.nf [0,5,6,7] []] (oc l ((l.length:Nat):Int)) l1 ?_ ?_
 ·simp(config:=cS)only[go_sem]
 ·intro nb2 v7_1 bb2 b2 gb2
  unfold fk at b2
  try dsimp only at b2
  obtain ⟨h3,b2⟩|⟨h3,b2⟩:=af b2
  ·obtain ⟨x01,g4,b2⟩:=ae b2
   obtain ⟨h5,h6,h7⟩:=ak g4
   obtain ⟨h8,b2⟩|⟨h8,b2⟩:=af b2
   ·cases b2
    obtain rfl:=(aj gb2).symm
    try dsimp only at h
    cases h
    simp(config:=cS)only[go_sem,eqT h3,h5,h6,h7,eqT h8]
   ·obtain ⟨r02,g10,b2⟩:=ae b2
    simp(config:=cS)only[go_sem,eqT h3,h5,h6,h7,eqF h8]
    refine ag (gy g10) ?_
    obtain ⟨h11,b2⟩|⟨h11,b2⟩:=af b2
    ·obtain ⟨h12,b2⟩|⟨h12,b2⟩:=af b2
     ·obtain ⟨x03,g13,b2⟩:=ae b2
      obtain ⟨h14,h15,h16⟩:=ak g13
      obtain ⟨r04,g17,b2⟩:=ae b2
      simp(config:=cS)only[go_sem,eqT h3,h5,h6,h7,eqF h8,eZt h11,eqT h12,h14,h15,h16]
      refine ag (pu g17) ?_
      obtain ⟨r05,g18,b2⟩:=ae b2
      simp(config:=cS)only[go_sem,eqT h3,h5,h6,h7,eqF h8,eZt h11,eqT h12,h14,h15,h16]
      refine ag (pu g18) ?_
      obtain ⟨h19,b2⟩|⟨h19,b2⟩:=af b2
      ·cases b2
       obtain rfl:=(aj gb2).symm
       try dsimp only at h
       cases h
       simp(config:=cS)only[go_sem,eqT h3,h5,h6,h7,eqF h8,eZt h11,eqT h12,h14,h15,h16,eqT h19]
      ·cases b2
       simp(config:=cS)only[go_sem,eqT h3,h5,h6,h7,eqF h8,eZt h11,eqT h12,h14,h15,h16,eqF h19]
       refine au gb2 ?_
       simp(config:=cS)only[go_sem,eqT h3,h5,h6,h7,eqF h8,eZt h11,eqT h12,h14,h15,h16,eqF h19]
     ·cases b2
      simp(config:=cS)only[go_sem,eqT h3,h5,h6,h7,eqF h8,eZt h11,eqF h12]
      refine au gb2 ?_
      simp(config:=cS)only[go_sem,eqT h3,h5,h6,h7,eqF h8,eZt h11,eqF h12]
    ·cases b2
     obtain rfl:=(aj gb2).symm
     try dsimp only at h
     cases h
     simp(config:=cS)only[go_sem,eqT h3,h5,h6,h7,eqF h8,eZf h11]
  ·cases b2
   obtain rfl:=(aj gb2).symm
   try dsimp only at h
   cases h
   simp(config:=cS)only[go_sem,eqF h3]
attribute [go_sem] Tryz.ntmps217 Tryz.results217
theorem Fu {n:GNode}{res:Bool}(h:kQ n=some res):al Tryz.prog 217 [.agg (GNode.encS n)] [] (.lit (.bool res)) []:=by
 refine ai (ra:=[]) (md:=mdT) hT (hi:=hi00) Tryz.func217 rfl rfl (by decide +kernel) (by simp) ?_
 unfold kQ at h
 obtain ⟨r01,g1,h⟩:=ae h
 simp(config:=cS)only[go_sem]
 refine ag (Ft g1) ?_
 obtain ⟨h2,h⟩|⟨h2,h⟩:=af h
 ·obtain ⟨r02,g3,h⟩:=ae h
  simp(config:=cS)only[go_sem,eZt h2]
  refine ag (pv g3) ?_
  obtain ⟨h4,h⟩|⟨h4,h⟩:=af h
  ·obtain ⟨r03,g5,h⟩:=ae h
   simp(config:=cS)only[go_sem,eZt h2,eZt h4]
   refine ag (gy g5) ?_
   cases h
   simp(config:=cS)only[go_sem,eZt h2,eZt h4]
  ·cases h
   simp(config:=cS)only[go_sem,eZt h2,eZf h4]
 ·cases h
  simp(config:=cS)only[go_sem,eZf h2]
def mC (a:ByteArray)(c:List GNode)(d b:Int):St:=⟨[(1,.lit (.string a)),(8,.sl (ab GNode.encS c)),(9,.lit (.int .i64 d)),(10,.lit (.int .i64 b))],[],2⟩
attribute [go_sem] mC
attribute [go_sem] Tryz.ntmps218 Tryz.results218
theorem zO {s:GShow}{name:ByteArray}{res:Int}(h:iz s name=some res):al Tryz.prog 218 [.agg (GShow.encS s),.lit (.string name)] [] (.lit (.int .i64 res)) []:=by
 refine ai (ra:=[]) (md:=mdT) hT (hi:=hi00) Tryz.func218 rfl rfl (by decide +kernel) (by simp) ?_
 unfold iz at h
 obtain ⟨q02,l1,h⟩:=ae h
 simp(config:=cS)only[go_sem]
 refine ar (m1:=.mk) (m2:=.mk) [.nf [1,8,9,10] []] (mC name s.nodes ((s.nodes.length:Nat):Int)) l1 ?_ ?_
 ·simp(config:=cS)only[go_sem]
 ·intro nb2 v10_1 bb2 b2 gb2
  unfold dP at b2
  try dsimp only at b2
  obtain ⟨h3,b2⟩|⟨h3,b2⟩:=af b2
  ·obtain ⟨x01,g4,b2⟩:=ae b2
   obtain ⟨h5,h6,h7⟩:=ak g4
   obtain ⟨h8,b2⟩|⟨h8,b2⟩:=af b2
   ·cases b2
    obtain rfl:=(aj gb2).symm
    try dsimp only at h
    cases h
    simp(config:=cS)only[go_sem,eqT h3,h5,h6,h7,eqT h8]
   ·cases b2
    simp(config:=cS)only[go_sem,eqT h3,h5,h6,h7,eqF h8]
    refine au gb2 ?_
    simp(config:=cS)only[go_sem]
  ·cases b2
   obtain rfl:=(aj gb2).symm
   try dsimp only at h
   cases h
   simp(config:=cS)only[go_sem,eqF h3]
def ml (p:Int)(b:List GNode)(c a:Int):St:=⟨[(1,.lit (.int .i64 p)),(8,.sl (ab GNode.encS b)),(9,.lit (.int .i64 c)),(10,.lit (.int .i64 a))],[],2⟩
attribute [go_sem] ml
attribute [go_sem] Tryz.ntmps121 Tryz.results121
theorem jH {s:GShow}{p res:Int}(h:co s p=some res):al Tryz.prog 121 [.agg (GShow.encS s),.lit (.int .i64 p)] [] (.lit (.int .i64 res)) []:=by
 refine ai (ra:=[]) (md:=mdT) hT (hi:=hi00) Tryz.func121 rfl rfl (by decide +kernel) (by simp) ?_
 unfold co at h
 obtain ⟨q02,l1,h⟩:=ae h
 simp(config:=cS)only[go_sem]
 refine ar (m1:=.mk) (m2:=.mk) [.nf [1,8,9,10] []] (ml p s.nodes ((s.nodes.length:Nat):Int)) l1 ?_ ?_
 ·simp(config:=cS)only[go_sem]
 ·intro nb2 v10_1 bb2 b2 gb2
  unfold dw at b2
  try dsimp only at b2
  obtain ⟨h3,b2⟩|⟨h3,b2⟩:=af b2
  ·obtain ⟨x01,g4,b2⟩:=ae b2
   obtain ⟨h5,h6,h7⟩:=ak g4
   obtain ⟨h8,b2⟩|⟨h8,b2⟩:=af b2
   ·cases b2
    obtain rfl:=(aj gb2).symm
    try dsimp only at h
    cases h
    simp(config:=cS)only[go_sem,eqT h3,h5,h6,h7,eqT h8]
   ·cases b2
    simp(config:=cS)only[go_sem,eqT h3,h5,h6,h7,eqF h8]
    refine au gb2 ?_
    simp(config:=cS)only[go_sem]
  ·cases b2
   obtain rfl:=(aj gb2).symm
   try dsimp only at h
   cases h
   simp(config:=cS)only[go_sem,eqF h3]
def oX (n:Int)(a:List Int)(b c:Int):St:=⟨[(1,.lit (.int .i64 n)),(7,.sl (ab eI a)),(8,.lit (.int .i64 b)),(9,.lit (.int .i64 c))],[],2⟩
attribute [go_sem] oX
attribute [go_sem] Tryz.ntmps219 Tryz.results219
theorem qr {l:List Int}{n:Int}{res:Bool}(h:dX l n=some res):al Tryz.prog 219 [.sl (ab eI l),.lit (.int .i64 n)] [] (.lit (.bool res)) []:=by
 refine ai (ra:=[]) (md:=mdT) hT (hi:=hi00) Tryz.func219 rfl rfl (by decide +kernel) (by simp) ?_
 unfold dX at h
 obtain ⟨q02,l1,h⟩:=ae h
 simp(config:=cS)only[go_sem]
 refine ar (m1:=.mk) (m2:=.mk) [.nf [1,7,8,9] []] (oX n l ((l.length:Nat):Int)) l1 ?_ ?_
 ·simp(config:=cS)only[go_sem]
 ·intro nb2 v9_1 bb2 b2 gb2
  unfold fZ at b2
  try dsimp only at b2
  obtain ⟨h3,b2⟩|⟨h3,b2⟩:=af b2
  ·obtain ⟨x01,g4,b2⟩:=ae b2
   obtain ⟨h5,h6,h7⟩:=ak g4
   obtain ⟨h8,b2⟩|⟨h8,b2⟩:=af b2
   ·cases b2
    obtain rfl:=(aj gb2).symm
    try dsimp only at h
    cases h
    simp(config:=cS)only[go_sem,eqT h3,h5,h6,h7,eqT h8]
   ·cases b2
    simp(config:=cS)only[go_sem,eqT h3,h5,h6,h7,eqF h8]
    refine au gb2 ?_
    simp(config:=cS)only[go_sem]
  ·cases b2
   obtain rfl:=(aj gb2).symm
   try dsimp only at h
   cases h
   simp(config:=cS)only[go_sem,eqF h3]
def lm (a b:List Int)(c d:Int):St:=⟨[(0,.sl (ab eI a)),(15,.sl (ab eI b)),(16,.lit (.int .i64 c)),(17,.lit (.int .i64 d))],[],2⟩
attribute [go_sem] lm
attribute [go_sem] Tryz.ntmps220 Tryz.results220
theorem uW {a b:List Int}{res:Bool}(h:dQ a b=some res):al Tryz.prog 220 [.sl (ab eI a),.sl (ab eI b)] [] (.lit (.bool res)) []:=by
 refine ai (ra:=[]) (md:=mdT) hT (hi:=hi00) Tryz.func220 rfl rfl (by decide +kernel) (by simp) ?_
 unfold dQ at h
 obtain ⟨r01,g1,h⟩:=ae h
 simp(config:=cS)only[go_sem]
 refine ag (pv g1) ?_
 obtain ⟨h2,h⟩|⟨h2,h⟩:=af h
 ·obtain ⟨r02,g3,h⟩:=ae h
  simp(config:=cS)only[go_sem,eZt h2]
  refine ag (pv g3) ?_
  obtain ⟨h4,h⟩|⟨h4,h⟩:=af h
  ·obtain ⟨q05,l5,h⟩:=ae h
   simp(config:=cS)only[go_sem,eZt h2,eZt h4]
   refine ar (m1:=.mk) (m2:=.mk) [.nf [0,15,16,17] []] (lm a b ((b.length:Nat):Int)) l5 ?_ ?_
   ·simp(config:=cS)only[go_sem,eZt h2,eZt h4]
   ·intro nb6 v17_1 bb6 b6 gb6
    unfold cK at b6
    try dsimp only at b6
    obtain ⟨h7,b6⟩|⟨h7,b6⟩:=af b6
    ·obtain ⟨x03,g8,b6⟩:=ae b6
     obtain ⟨h9,h10,h11⟩:=ak g8
     obtain ⟨r04,g12,b6⟩:=ae b6
     simp(config:=cS)only[go_sem,eZt h2,eZt h4,eqT h7,h9,h10,h11]
     refine ag (qr g12) ?_
     obtain ⟨h13,b6⟩|⟨h13,b6⟩:=af b6
     ·cases b6
      simp(config:=cS)only[go_sem,eZt h2,eZt h4,eqT h7,h9,h10,h11,eZt h13]
      refine au gb6 ?_
      simp(config:=cS)only[go_sem,eZt h2,eZt h4,eqT h7,h9,h10,h11,eZt h13]
     ·cases b6
      obtain rfl:=(aj gb6).symm
      try dsimp only at h
      cases h
      simp(config:=cS)only[go_sem,eZt h2,eZt h4,eqT h7,h9,h10,h11,eZf h13]
    ·cases b6
     obtain rfl:=(aj gb6).symm
     try dsimp only at h
     cases h
     simp(config:=cS)only[go_sem,eZt h2,eZt h4,eqF h7]
  ·cases h
   simp(config:=cS)only[go_sem,eZt h2,eZf h4]
 ·cases h
  simp(config:=cS)only[go_sem,eZf h2]
def nn (a:List GNode)(b:Int)(c:List GTie)(d e:Int):St:=⟨[(1,.ptr 64 1 0 0),(33,.sl (ab GNode.encS a)),(34,.lit (.int .i64 b)),(35,.lit (.int .i64 e))],[(64,1,.var [.sl (ab GNode.encS a),.sl (ab GTie.enc c),.lit (.int .i64 d)])],2⟩
attribute [go_sem] nn
def np (a:List GNode)(c d:Int)(b:List Int)(e:Int)(f:List GTie)(g:Int)(h:ByteArray)(i j:Int):St:=⟨[(1,.ptr 64 1 0 0),(6,.ptr 384 1 0 0),(66,.sl (ab GNode.encS a)),(67,.lit (.int .i64 c)),(68,.lit (.int .i64 d)),(73,.sl (ab eI b)),(74,.lit (.int .i64 e)),(75,.lit (.int .i64 j))],[(64,1,.var [.sl (ab GNode.encS a),.sl (ab GTie.enc f),.lit (.int .i64 g)]),(384,1,.var [.lit (.string h),.sl (ab eI b),.lit (.int .i64 i)])],2⟩
attribute [go_sem] np
def nq (a:List GNode)(b:Int)(c:List GTie)(d e:Int):St:=⟨[(1,.ptr 64 1 0 0),(66,.sl (ab GNode.encS a)),(67,.lit (.int .i64 b)),(68,.lit (.int .i64 e))],[(64,1,.var [.sl (ab GNode.encS a),.sl (ab GTie.enc c),.lit (.int .i64 d)])],2⟩
attribute [go_sem] nq
@[go_sem] def hi140_16:DT:=.i2 0 (.i2 1 (.i2 2 (.i2 3 (.i2 4 (.i2 5 (.i2 6 (.i2 7 (.i2 8 (.i2 9 (.i2 10 (.i2 11 (.i2 12 (.i2 13 (.i2 14 (.i2 15 (.i2 16 (.i2 17 (.i2 18 (.i2 19 (.i2 20 (.i2 21 (.i2 22 (.i2 23 (.i2 24 (.i2 25 (.i2 26 (.i2 27 (.i2 28 (.i2 29 (.i2 30 (.i2 31 (.i2 32 (.i2 33 (.i2 34 .nil))))))))))))))))))))))))))))))))))
@[go_sem] def hi140_15:DT:=.i1 0 (.i2 1 (.i0 2 [0] (.i2 3 (.i2 4 .nil))))
def BQ:Hint where
 acts:=fun _=>[]
 draws:=fun
  | 15=>⟨hi140_15,[[],[],[1],[0,1,2],[0,1,2,3]],.range 5⟩
  | 16=>⟨hi140_16,[[],[0],[0,1],[0,1,2],[0,1,2,3],[0,1,2],.range 6,.range 7,.range 8,[0,1,2],.range 10,.range 11,.range 12,.range 13,.range 14,.range 13,.range 16,.range 17,.range 18,.range 13,[0,1,2,3,4,5,6,7,8,9,10,11,12,19],.range 21,.range 22,.range 23,.range 24,.range 25,.range 24,[0,1,2,3,4,5,6,7,8,9,10,11,12,13,14,15,16,17,18,19,20,21,22,23,26],.range 24,[0,1,2,3,4,5,6,7,8,9,10,11,12,13,14,15,16,17,18,19,20,21,22,23,26,27,28],[0,1,2,3,4,5,6,7,8,9,10,11,12,13,14,15,16,17,18,19,20,21,22,23,26,27,28,29],[0,1,2,3,4,5,6,7,8,9,10,11,12,13,14,15,16,17,18,19,20,21,22,23,26,27,28,29,30],.range 32,.range 33,.range 34],.range 35⟩
  | _=>⟨.nil,[],[]⟩
theorem RZ (i:Nat):BQ.acts i=[]:=rfl
theorem Sa (i:Nat):BQ.views i=none:=rfl
attribute [go_sem] RZ Sa Tryz.ntmps140 Tryz.results140
@[go_sem] theorem Wj:(BQ.draws 15).order=hi140_15:=rfl
@[go_sem] theorem Wk:(BQ.draws 16).order=hi140_16:=rfl
theorem BR {s:GShow}{res:Bool}(h:je s=some res):al Tryz.prog 140 [.agg (GShow.encS s)] [] (.lit (.bool res)) []:=by
 refine ai (ra:=[]) (md:=mdT) hT (hi:=BQ) Tryz.func140 rfl rfl (by decide +kernel) (by simp) ?_
 unfold je at h
 obtain ⟨r01,g1,h⟩:=ae h
 simp(config:=cS)only[go_sem]
 refine ag (gy g1) ?_
 obtain ⟨h2,h⟩|⟨h2,h⟩:=af h
 ·obtain ⟨x02,g3,h⟩:=ae h
  obtain ⟨h5,h6⟩:=dg (k:=0) g3
  obtain ⟨h7,h⟩|⟨h7,h⟩:=af h
  ·cases h
   simp(config:=cS)only[go_sem,eZt h2,h5,h6,eqT h7]
  ·obtain ⟨h8,h⟩|⟨h8,h⟩:=af h
   ·obtain ⟨q17,l9,h⟩:=ae h
    simp(config:=cS)only[go_sem,eZt h2,h5,h6,eqF h7,eqT h8]
    refine ar (m1:=.mk) (m2:=.mk) [.nf [1,33,34,35] [64]] (nn s.nodes ((s.nodes.length:Nat):Int) s.ties s.horizon) l9 ?_ ?_
    ·simp(config:=cS)only[go_sem,eZt h2,h5,h6,eqF h7,eqT h8]
    ·intro nb10 v35_1 bb10 b10 gb10
     unfold em at b10
     try dsimp only at b10
     obtain ⟨h11,b10⟩|⟨h11,b10⟩:=af b10
     ·obtain ⟨x03,g12,b10⟩:=ae b10
      obtain ⟨h13,h14,h15⟩:=ak g12
      obtain ⟨r04,g16,b10⟩:=ae b10
      simp(config:=cS)only[go_sem,eZt h2,h5,h6,eqF h7,eqT h8,eqT h11,h13,h14,h15]
      refine ag (Fu g16) ?_
      obtain ⟨h17,b10⟩|⟨h17,b10⟩:=af b10
      ·obtain ⟨r05,g18,b10⟩:=ae b10
       simp(config:=cS)only[go_sem,eZt h2,h5,h6,eqF h7,eqT h8,eqT h11,h13,h14,h15,eZt h17]
       refine ag (zO g18) ?_
       obtain ⟨h19,b10⟩|⟨h19,b10⟩:=af b10
       ·obtain ⟨h20,b10⟩|⟨h20,b10⟩:=af b10
        ·cases b10
         simp(config:=cS)only[go_sem,eZt h2,h5,h6,eqF h7,eqT h8,eqT h11,h13,h14,h15,eZt h17,eqT h19,eqT h20]
         refine au gb10 ?_
         simp(config:=cS)only[go_sem,eZt h2,h5,h6,eqF h7,eqT h8,eqT h11,h13,h14,h15,eZt h17,eqT h19,eqT h20]
        ·obtain ⟨r06,g21,b10⟩:=ae b10
         simp(config:=cS)only[go_sem,eZt h2,h5,h6,eqF h7,eqT h8,eqT h11,h13,h14,h15,eZt h17,eqT h19,eqF h20]
         refine ag (jH g21) ?_
         obtain ⟨h22,b10⟩|⟨h22,b10⟩:=af b10
         ·cases b10
          simp(config:=cS)only[go_sem,eZt h2,h5,h6,eqF h7,eqT h8,eqT h11,h13,h14,h15,eZt h17,eqT h19,eqF h20,eqT h22]
          refine au gb10 ?_
          simp(config:=cS)only[go_sem,eZt h2,h5,h6,eqF h7,eqT h8,eqT h11,h13,h14,h15,eZt h17,eqT h19,eqF h20,eqT h22]
         ·cases b10
          obtain rfl:=(aj gb10).symm
          try dsimp only at h
          cases h
          simp(config:=cS)only[go_sem,eZt h2,h5,h6,eqF h7,eqT h8,eqT h11,h13,h14,h15,eZt h17,eqT h19,eqF h20,eqF h22]
       ·cases b10
        obtain rfl:=(aj gb10).symm
        try dsimp only at h
        cases h
        simp(config:=cS)only[go_sem,eZt h2,h5,h6,eqF h7,eqT h8,eqT h11,h13,h14,h15,eZt h17,eqF h19]
      ·cases b10
       obtain rfl:=(aj gb10).symm
       try dsimp only at h
       cases h
       simp(config:=cS)only[go_sem,eZt h2,h5,h6,eqF h7,eqT h8,eqT h11,h13,h14,h15,eZf h17]
     ·cases b10
      obtain rfl:=(aj gb10).symm
      try dsimp only at h
      obtain ⟨q16,l27,h⟩:=ae h
      simp(config:=cS)only[go_sem,eZt h2,h5,h6,eqF h7,eqT h8,eqF h11]
      refine ar (m1:=.mk) (m2:=.mk) [.nf [1,66,67,68] [64]] (nq s.nodes ((s.nodes.length:Nat):Int) s.ties s.horizon) l27 ?_ ?_
      ·simp(config:=cS)only[go_sem,eZt h2,h5,h6,eqF h7,eqT h8,eqF h11]
      ·intro nb28 v68_2 bb28 b28 gb28
       unfold ep at b28
       try dsimp only at b28
       obtain ⟨h29,b28⟩|⟨h29,b28⟩:=af b28
       ·obtain ⟨x07,g30,b28⟩:=ae b28
        obtain ⟨h31,h32,h33⟩:=ak g30
        obtain ⟨q15,l34,b28⟩:=ae b28
        simp(config:=cS)only[go_sem,eZt h2,h5,h6,eqF h7,eqT h8,eqF h11,eqT h29,h31,h32,h33]
        refine ar (m1:=.mk) (m2:=.mk) [.nf [1,6,66,67,68,73,74,75] [64,384]] (np s.nodes ((s.nodes.length:Nat):Int) v68_2 x07.label ((x07.label.length:Nat):Int) s.ties s.horizon x07.name x07.watch) l34 ?_ ?_
        ·simp(config:=cS)only[go_sem,eZt h2,h5,h6,eqF h7,eqT h8,eqF h11,eqT h29,h31,h32,h33]
        ·intro nb35 v75_3 bb35 b35 gb35
         unfold eo at b35
         try dsimp only at b35
         obtain ⟨h36,b35⟩|⟨h36,b35⟩:=af b35
         ·obtain ⟨x08,g37,b35⟩:=ae b35
          obtain ⟨h38,h39,h40⟩:=ak g37
          obtain ⟨r09,g41,b35⟩:=ae b35
          simp(config:=cS)only[go_sem,eZt h2,h5,h6,eqF h7,eqT h8,eqF h11,eqT h29,h31,h32,h33,eqT h36,h38,h39,h40]
          refine ag (pu g41) ?_
          obtain ⟨r10,g42,b35⟩:=ae b35
          simp(config:=cS)only[go_sem,eZt h2,h5,h6,eqF h7,eqT h8,eqF h11,eqT h29,h31,h32,h33,eqT h36,h38,h39,h40]
          refine ag (jH g42) ?_
          obtain ⟨h43,b35⟩|⟨h43,b35⟩:=af b35
          ·cases b35
           obtain rfl:=(aj gb35).symm
           try dsimp only at b28
           cases b28
           obtain rfl:=(aj gb28).symm
           try dsimp only at h
           cases h
           simp(config:=cS)only[go_sem,eZt h2,h5,h6,eqF h7,eqT h8,eqF h11,eqT h29,h31,h32,h33,eqT h36,h38,h39,h40,eqT h43]
          ·obtain ⟨x11,g46,b35⟩:=ae b35
           obtain ⟨h47,h48,h49⟩:=ak g46
           obtain ⟨r12,g50,b35⟩:=ae b35
           simp(config:=cS)only[go_sem,eZt h2,h5,h6,eqF h7,eqT h8,eqF h11,eqT h29,h31,h32,h33,eqT h36,h38,h39,h40,eqF h43,h47,h48,h49]
           refine ag (qr g50) ?_
           obtain ⟨h51,b35⟩|⟨h51,b35⟩:=af b35
           ·cases b35
            obtain rfl:=(aj gb35).symm
            try dsimp only at b28
            cases b28
            obtain rfl:=(aj gb28).symm
            try dsimp only at h
            cases h
            simp(config:=cS)only[go_sem,eZt h2,h5,h6,eqF h7,eqT h8,eqF h11,eqT h29,h31,h32,h33,eqT h36,h38,h39,h40,eqF h43,h47,h48,h49,eZt h51]
           ·obtain ⟨r13,g54,b35⟩:=ae b35
            simp(config:=cS)only[go_sem,eZt h2,h5,h6,eqF h7,eqT h8,eqF h11,eqT h29,h31,h32,h33,eqT h36,h38,h39,h40,eqF h43,h47,h48,h49,eZf h51]
            refine ag (qr g54) ?_
            obtain ⟨h55,b35⟩|⟨h55,b35⟩:=af b35
            ·cases b35
             obtain rfl:=(aj gb35).symm
             try dsimp only at b28
             cases b28
             obtain rfl:=(aj gb28).symm
             try dsimp only at h
             cases h
             simp(config:=cS)only[go_sem,eZt h2,h5,h6,eqF h7,eqT h8,eqF h11,eqT h29,h31,h32,h33,eqT h36,h38,h39,h40,eqF h43,h47,h48,h49,eZf h51,eZt h55]
            ·obtain ⟨r14,g58,b35⟩:=ae b35
             simp(config:=cS)only[go_sem,eZt h2,h5,h6,eqF h7,eqT h8,eqF h11,eqT h29,h31,h32,h33,eqT h36,h38,h39,h40,eqF h43,h47,h48,h49,eZf h51,eZf h55]
             refine ag (uW g58) ?_
             obtain ⟨h59,b35⟩|⟨h59,b35⟩:=af b35
             ·cases b35
              simp(config:=cS)only[go_sem,eZt h2,h5,h6,eqF h7,eqT h8,eqF h11,eqT h29,h31,h32,h33,eqT h36,h38,h39,h40,eqF h43,h47,h48,h49,eZf h51,eZf h55,eZt h59]
              refine au gb35 ?_
              simp(config:=cS)only[go_sem,eZt h2,h5,h6,eqF h7,eqT h8,eqF h11,eqT h29,h31,h32,h33,eqT h36,h38,h39,h40,eqF h43,h47,h48,h49,eZf h51,eZf h55,eZt h59]
             ·cases b35
              obtain rfl:=(aj gb35).symm
              try dsimp only at b28
              cases b28
              obtain rfl:=(aj gb28).symm
              try dsimp only at h
              cases h
              simp(config:=cS)only[go_sem,eZt h2,h5,h6,eqF h7,eqT h8,eqF h11,eqT h29,h31,h32,h33,eqT h36,h38,h39,h40,eqF h43,h47,h48,h49,eZf h51,eZf h55,eZf h59]
         ·cases b35
          obtain rfl:=(aj gb35).symm
          try dsimp only at b28
          cases b28
          simp(config:=cS)only[go_sem,eZt h2,h5,h6,eqF h7,eqT h8,eqF h11,eqT h29,h31,h32,h33,eqF h36]
          refine au gb28 ?_
          simp(config:=cS)only[go_sem,eZt h2,h5,h6,eqF h7,eqT h8,eqF h11,eqT h29,h31,h32,h33,eqF h36]
       ·cases b28
        obtain rfl:=(aj gb28).symm
        try dsimp only at h
        cases h
        simp(config:=cS)only[go_sem,eZt h2,h5,h6,eqF h7,eqT h8,eqF h11,eqF h29]
   ·cases h
    simp(config:=cS)only[go_sem,eZt h2,h5,h6,eqF h7,eqF h8]
 ·cases h
  simp(config:=cS)only[go_sem,eZf h2]
def oe (b a:List Int)(c d:Int):St:=⟨[(1,.sl (ab eI b)),(12,.sl (ab eI a)),(13,.lit (.int .i64 c)),(14,.lit (.int .i64 d))],[],2⟩
attribute [go_sem] oe
attribute [go_sem] Tryz.ntmps221 Tryz.results221
theorem Du {a b:List Int}{res:Bool}(h:jX a b=some res):al Tryz.prog 221 [.sl (ab eI a),.sl (ab eI b)] [] (.lit (.bool res)) []:=by
 refine ai (ra:=[]) (md:=mdT) hT (hi:=hi00) Tryz.func221 rfl rfl (by decide +kernel) (by simp) ?_
 unfold jX at h
 obtain ⟨h1,h⟩|⟨h1,h⟩:=af h
 ·obtain ⟨q03,l2,h⟩:=ae h
  simp(config:=cS)only[go_sem,eqT h1]
  refine ar (m1:=.mk) (m2:=.mk) [.nf [1,12,13,14] []] (oe b a ((a.length:Nat):Int)) l2 ?_ ?_
  ·simp(config:=cS)only[go_sem]
  ·intro nb3 v14_1 bb3 b3 gb3
   unfold fm at b3
   try dsimp only at b3
   obtain ⟨h4,b3⟩|⟨h4,b3⟩:=af b3
   ·obtain ⟨x01,g5,b3⟩:=ae b3
    obtain ⟨h6,h7,h8⟩:=ak g5
    obtain ⟨x02,g9,b3⟩:=ae b3
    obtain ⟨h10,h11,h12⟩:=ak g9
    obtain ⟨h13,b3⟩|⟨h13,b3⟩:=af b3
    ·cases b3
     simp(config:=cS)only[go_sem,eqT h4,h6,h7,h8,h10,h11,h12,eqT h13]
     refine au gb3 ?_
     simp(config:=cS)only[go_sem]
    ·cases b3
     obtain rfl:=(aj gb3).symm
     try dsimp only at h
     cases h
     simp(config:=cS)only[go_sem,eqT h4,h6,h7,h8,h10,h11,h12,eqF h13]
   ·cases b3
    obtain rfl:=(aj gb3).symm
    try dsimp only at h
    cases h
    simp(config:=cS)only[go_sem,eqF h4]
 ·cases h
  simp(config:=cS)only[go_sem,eqF h1]
def og (a:Int)(c:List GTie)(d b:Int):St:=⟨[(1,.lit (.int .i64 a)),(8,.sl (ab GTie.enc c)),(9,.lit (.int .i64 d)),(10,.lit (.int .i64 b))],[],2⟩
attribute [go_sem] og
attribute [go_sem] Tryz.ntmps222 Tryz.results222
theorem Dv {s:GShow}{node res:Int}(h:jY s node=some res):al Tryz.prog 222 [.agg (GShow.encS s),.lit (.int .i64 node)] [] (.lit (.int .i64 res)) []:=by
 refine ai (ra:=[]) (md:=mdT) hT (hi:=hi00) Tryz.func222 rfl rfl (by decide +kernel) (by simp) ?_
 unfold jY at h
 obtain ⟨q02,l1,h⟩:=ae h
 simp(config:=cS)only[go_sem]
 refine ar (m1:=.mk) (m2:=.mk) [.nf [1,8,9,10] []] (og node s.ties ((s.ties.length:Nat):Int)) l1 ?_ ?_
 ·simp(config:=cS)only[go_sem]
 ·intro nb2 v10_1 bb2 b2 gb2
  unfold fo at b2
  try dsimp only at b2
  obtain ⟨h3,b2⟩|⟨h3,b2⟩:=af b2
  ·obtain ⟨x01,g4,b2⟩:=ae b2
   obtain ⟨h5,h6,h7⟩:=ak g4
   obtain ⟨h8,b2⟩|⟨h8,b2⟩:=af b2
   ·obtain ⟨h9,b2⟩|⟨h9,b2⟩:=af b2
    ·cases b2
     obtain rfl:=(aj gb2).symm
     try dsimp only at h
     cases h
     simp(config:=cS)only[go_sem,eqT h3,h5,h6,h7,eZt h8,eqT h9]
    ·cases b2
     simp(config:=cS)only[go_sem,eqT h3,h5,h6,h7,eZt h8,eqF h9]
     refine au gb2 ?_
     simp(config:=cS)only[go_sem]
   ·cases b2
    simp(config:=cS)only[go_sem,eqT h3,h5,h6,h7,eZf h8]
    refine au gb2 ?_
    simp(config:=cS)only[go_sem]
  ·cases b2
   obtain rfl:=(aj gb2).symm
   try dsimp only at h
   cases h
   simp(config:=cS)only[go_sem,eqF h3]
@[go_sem] def hi141_5:DT:=.i2 0 (.i2 1 (.i2 2 (.i2 3 (.i2 4 (.i2 5 (.i2 6 (.i2 7 (.i2 8 (.i2 9 (.i2 10 (.i2 11 (.i2 12 (.i2 13 (.i2 14 (.i2 15 (.i2 16 (.i2 17 (.i2 18 (.i2 19 (.i2 20 (.i2 21 (.i2 22 (.i2 23 (.i2 24 (.i2 25 (.i2 26 (.i2 27 (.i2 28 (.i2 29 (.i2 30 (.i2 31 (.i2 32 (.i2 33 (.i2 34 (.i2 35 (.i2 36 (.i2 37 (.i2 38 (.i2 39 (.i2 40 (.i2 41 (.i2 42 (.i2 44 (.i2 43 (.i2 45 (.i2 46 (.i2 47 (.i2 48 .nil))))))))))))))))))))))))))))))))))))))))))))))))
def Gp:Hint where
 acts:=fun _=>[]
 draws:=fun
  | 5=>⟨hi141_5,[[],[0],[0,1],[0,1,2],[0,1,2,3],.range 5,.range 6,.range 7,.range 8,.range 9,.range 10,.range 11,.range 12,.range 13,.range 14,.range 13,[0,1,2,3,4,5,6,7,8,9,10,11,12,15],.range 17,.range 18,.range 19,.range 20,.range 21,.range 22,.range 23,.range 24,.range 23,[0,1,2,3,4,5,6,7,8,9,10,11,12,13,14,15,16,17,18,19,20,21,22,25],.range 27,.range 28,.range 29,.range 23,[0,1,2,3,4,5,6,7,8,9,10,11,12,13,14,15,16,17,18,19,20,21,22,30],.range 23,[0,1,2,3,4,5,6,7,8,9,10,11,12,13,14,15,16,17,18,19,20,21,22,32],[0,1,2,3,4,5,6,7,8,9,10,11,12,13,14,15,16,17,18,19,20,21,22,30,31,32,33],[0,1,2,3,4,5,6,7,8,9,10,11,12,13,14,15,16,17,18,19,20,21,22,30,31,32,33,34],[0,1,2,3,4,5,6,7,8,9,10,11,12,13,14,15,16,17,18,19,20,21,22,30,31,32,33,34,35],.range 37,.range 38,.range 39,.range 40,.range 40,[0,1,2,3,4,5,6,7,8,9,10,11,12,13,14,15,16,17,18,19,20,21,22,23,24,25,26,27,28,29,30,31,32,33,34,35,36,37,38,39,41],.range 43,.range 40,.range 45,.range 46,.range 47,.range 48],.range 49⟩
  | _=>⟨.nil,[],[]⟩
theorem Sb (i:Nat):Gp.acts i=[]:=rfl
theorem Sc (i:Nat):Gp.views i=none:=rfl
attribute [go_sem] Sb Sc Tryz.ntmps141 Tryz.results141
@[go_sem] theorem Xj:(Gp.draws 5).order=hi141_5:=rfl
theorem Fv {s:GShow}{i:Int}{res:Bool}(h:kR s i=some res):al Tryz.prog 141 [.agg (GShow.encS s),.lit (.int .i64 i)] [] (.lit (.bool res)) []:=by
 refine ai (ra:=[]) (md:=mdT) hT (hi:=Gp) Tryz.func141 rfl rfl (by decide +kernel) (by simp) ?_
 unfold kR at h
 obtain ⟨x01,g1,h⟩:=ae h
 obtain ⟨h2,h3,h4⟩:=ak g1
 obtain ⟨r02,g5,h⟩:=ae h
 simp(config:=cS)only[go_sem,h2,h3,h4]
 refine ag (gy g5) ?_
 obtain ⟨h6,h⟩|⟨h6,h⟩:=af h
 ·obtain ⟨r03,g7,h⟩:=ae h
  simp(config:=cS)only[go_sem,h2,h3,h4,eZt h6]
  refine ag (gy g7) ?_
  obtain ⟨h8,h⟩|⟨h8,h⟩:=af h
  ·obtain ⟨h9,h⟩|⟨h9,h⟩:=af h
   ·cases h
    simp(config:=cS)only[go_sem,h2,h3,h4,eZt h6,eZt h8,eqT h9]
   ·obtain ⟨h10,h⟩|⟨h10,h⟩:=af h
    ·cases h
     simp(config:=cS)only[go_sem,h2,h3,h4,eZt h6,eZt h8,eqF h9,eqT h10]
    ·obtain ⟨h11,h⟩|⟨h11,h⟩:=af h
     ·cases h
      simp(config:=cS)only[go_sem,h2,h3,h4,eZt h6,eZt h8,eqF h9,eqF h10,eqT h11]
     ·obtain ⟨h12,h⟩|⟨h12,h⟩:=af h
      ·cases h
       simp(config:=cS)only[go_sem,h2,h3,h4,eZt h6,eZt h8,eqF h9,eqF h10,eqF h11,eqT h12]
      ·obtain ⟨h13,h⟩|⟨h13,h⟩:=af h
       ·obtain ⟨h14,h⟩|⟨h14,h⟩:=af h
        ·obtain ⟨h15,h⟩|⟨h15,h⟩:=af h
         ·cases h
          simp(config:=cS)only[go_sem,h2,h3,h4,eZt h6,eZt h8,eqF h9,eqF h10,eqF h11,eqF h12,eZt h13,eqT h14,eqT h15]
         ·obtain ⟨x04,g16,h⟩:=ae h
          obtain ⟨h17,h18,h19⟩:=ak g16
          obtain ⟨h20,h⟩|⟨h20,h⟩:=af h
          ·obtain ⟨x05,g21,h⟩:=ae h
           obtain ⟨h22,h23,h24⟩:=ak g21
           obtain ⟨r06,g25,h⟩:=ae h
           simp(config:=cS)only[go_sem,h2,h3,h4,eZt h6,eZt h8,eqF h9,eqF h10,eqF h11,eqF h12,eZt h13,eqT h14,eqF h15,h17,h18,h19,eqT h20,h22,h23,h24]
           refine ag (Du g25) ?_
           obtain ⟨h26,h⟩|⟨h26,h⟩:=af h
           ·obtain ⟨r07,g27,h⟩:=ae h
            simp(config:=cS)only[go_sem,h2,h3,h4,eZt h6,eZt h8,eqF h9,eqF h10,eqF h11,eqF h12,eZt h13,eqT h14,eqF h15,h17,h18,h19,eqT h20,h22,h23,h24,eZt h26]
            refine ag (Dv g27) ?_
            cases h
            simp(config:=cS)only[go_sem,h2,h3,h4,eZt h6,eZt h8,eqF h9,eqF h10,eqF h11,eqF h12,eZt h13,eqT h14,eqF h15,h17,h18,h19,eqT h20,h22,h23,h24,eZt h26]
           ·cases h
            simp(config:=cS)only[go_sem,h2,h3,h4,eZt h6,eZt h8,eqF h9,eqF h10,eqF h11,eqF h12,eZt h13,eqT h14,eqF h15,h17,h18,h19,eqT h20,h22,h23,h24,eZf h26]
          ·cases h
           simp(config:=cS)only[go_sem,h2,h3,h4,eZt h6,eZt h8,eqF h9,eqF h10,eqF h11,eqF h12,eZt h13,eqT h14,eqF h15,h17,h18,h19,eqF h20]
        ·cases h
         simp(config:=cS)only[go_sem,h2,h3,h4,eZt h6,eZt h8,eqF h9,eqF h10,eqF h11,eqF h12,eZt h13,eqF h14]
       ·cases h
        simp(config:=cS)only[go_sem,h2,h3,h4,eZt h6,eZt h8,eqF h9,eqF h10,eqF h11,eqF h12,eZf h13]
  ·cases h
   simp(config:=cS)only[go_sem,h2,h3,h4,eZt h6,eZf h8]
 ·cases h
  simp(config:=cS)only[go_sem,h2,h3,h4,eZf h6]
def oY (a:Int)(b:List GNode)(c:List GTie)(d e:Int):St:=⟨[(1,.ptr 64 1 0 0),(21,.lit (.int .i64 a)),(22,.lit (.int .i64 e))],[(64,1,.var [.sl (ab GNode.encS b),.sl (ab GTie.enc c),.lit (.int .i64 d)])],2⟩
attribute [go_sem] oY
attribute [go_sem] Tryz.ntmps69 Tryz.results69
theorem Fw {s:GShow}{res:Bool}(h:kS s=some res):al Tryz.prog 69 [.agg (GShow.encS s)] [] (.lit (.bool res)) []:=by
 refine ai (ra:=[]) (md:=mdT) hT (hi:=hi00) Tryz.func69 rfl rfl (by decide +kernel) (by simp) ?_
 unfold kS at h
 obtain ⟨r01,g1,h⟩:=ae h
 simp(config:=cS)only[go_sem]
 refine ag (BR g1) ?_
 obtain ⟨h2,h⟩|⟨h2,h⟩:=af h
 ·obtain ⟨h3,h⟩|⟨h3,h⟩:=af h
  ·cases h
   simp(config:=cS)only[go_sem,eZt h2,eqT h3]
  ·obtain ⟨r02,g4,h⟩:=ae h
   simp(config:=cS)only[go_sem,eZt h2,eqF h3]
   refine ag (gy g4) ?_
   obtain ⟨h5,h⟩|⟨h5,h⟩:=af h
   ·obtain ⟨q04,l6,h⟩:=ae h
    simp(config:=cS)only[go_sem,eZt h5]
    refine ar (m1:=.mk) (m2:=.mk) [.nf [1,21,22] [64]] (oY ((s.ties.length:Nat):Int) s.nodes s.ties s.horizon) l6 ?_ ?_
    ·simp(config:=cS)only[go_sem]
    ·intro nb7 v22_1 bb7 b7 gb7
     unfold ga at b7
     try dsimp only at b7
     obtain ⟨h8,b7⟩|⟨h8,b7⟩:=af b7
     ·obtain ⟨r03,g9,b7⟩:=ae b7
      simp(config:=cS)only[go_sem,eqT h8]
      refine ag (Fv g9) ?_
      obtain ⟨h10,b7⟩|⟨h10,b7⟩:=af b7
      ·cases b7
       simp(config:=cS)only[go_sem,eZt h10]
       refine au gb7 ?_
       simp(config:=cS)only[go_sem]
      ·cases b7
       obtain rfl:=(aj gb7).symm
       try dsimp only at h
       cases h
       simp(config:=cS)only[go_sem,eZf h10]
     ·cases b7
      obtain rfl:=(aj gb7).symm
      try dsimp only at h
      cases h
      simp(config:=cS)only[go_sem,eqF h8]
   ·cases h
    simp(config:=cS)only[go_sem,eZf h5]
 ·cases h
  simp(config:=cS)only[go_sem,eZf h2]
def oh (c:List GTie)(d:Int):(Int × (List Int))→St
 | (b,a)=>⟨[(3,.ref 384 1 0 a.length),(8,.sl (ab GTie.enc c)),(9,.lit (.int .i64 d)),(10,.lit (.int .i64 b))],[(384,1,.row true (ab eI a))],2⟩
attribute [go_sem] oh
attribute [go_sem] Tryz.ntmps136 Tryz.results136
theorem tc {s:GShow}{res:List Int}(h:iq s=some res):al Tryz.prog 136 [.agg (GShow.encS s)] [] (.ref 20000 1 0 res.length) [(20000,1,.row true (ab eI res))]:=by
 refine ai (ra:=[.home 2]) (md:=mdT) hT (hi:=hi00) Tryz.func136 rfl rfl (by decide +kernel) (by simp) ?_
 unfold iq at h
 obtain ⟨q02,l1,h⟩:=ae h
 simp(config:=cS)only[go_sem]
 refine ar (m1:=.mk) (m2:=.mk) [.nf [3,8,9,10] [384]] (oh s.ties ((s.ties.length:Nat):Int)) l1 ?_ ?_
 ·simp(config:=cS)only[go_sem]
 ·intro nb2 sb2 bb2 b2 gb2
  obtain ⟨v10_1,out_1⟩:=sb2
  unfold gT at b2
  try dsimp only at b2
  obtain ⟨h3,b2⟩|⟨h3,b2⟩:=af b2
  ·obtain ⟨x01,g4,b2⟩:=ae b2
   obtain ⟨h5,h6,h7⟩:=ak g4
   obtain ⟨h8,b2⟩|⟨h8,b2⟩:=af b2
   ·obtain ⟨h9,b2⟩:=am b2
    obtain ⟨h10,b2⟩:=am b2
    cases b2
    simp(config:=cS)only[go_sem,eqT h3,h5,h6,h7,eZt h8,eqT h9,eqT h10]
    refine au gb2 ?_
    simp(config:=cS)only[go_sem]
   ·cases b2
    simp(config:=cS)only[go_sem,eqT h3,h5,h6,h7,eZf h8]
    refine au gb2 ?_
    simp(config:=cS)only[go_sem]
  ·cases b2
   obtain rfl:=(aj gb2).symm
   try dsimp only at h
   cases h
   simp(config:=cS)only[go_sem,eqF h3]
def ln (b:Int)(c:List GNode)(d:List GTie)(e:Int)(a:List Int):(Int × Int)→St
 | (n,f)=>⟨[(1,.ptr 64 1 0 0),(3,.lit (.int .i64 n)),(11,.ref 704 1 0 a.length),(12,.lit (.int .i64 b)),(13,.lit (.int .i64 f))],[(64,1,.var [.sl (ab GNode.encS c),.sl (ab GTie.enc d),.lit (.int .i64 e)]),(704,1,.row true (ab eI a))],2⟩
attribute [go_sem] ln
def lp (a:List GNode)(b:List GTie)(c:Int):(Int × Int)→St
 | (n,p)=>⟨[(1,.ptr 64 1 0 0),(3,.lit (.int .i64 n)),(6,.lit (.int .i64 p))],[(64,1,.var [.sl (ab GNode.encS a),.sl (ab GTie.enc b),.lit (.int .i64 c)])],2⟩
attribute [go_sem] lp
@[go_sem] def hi66_7:DT:=.i2 0 (.i2 1 (.i2 2 (.i2 3 (.i2 4 (.i2 5 (.i2 6 (.i2 7 (.i2 8 (.i2 9 (.i2 10 (.i2 11 (.i2 12 (.i2 13 (.i2 14 (.i2 15 (.i2 16 .nil))))))))))))))))
def hi66:Hint where
 acts:=fun _=>[]
 draws:=fun
  | 7=>⟨hi66_7,[[],[],[1],[],[1,2,3],[1,2,3,4],[1,2,3,4,5],[],[7],[],[7,8,9],[7,8,9,10],[7,8,9,10,11],[1,2,3,4,5,6,7,8,9,10,11,12],[1,2,3,4,5,6,7,8,9,10,11,12,13],.range 15,.range 16],.range 17⟩
  | _=>⟨.nil,[],[]⟩
theorem UX (i:Nat):hi66.acts i=[]:=rfl
theorem UY (i:Nat):hi66.views i=none:=rfl
attribute [go_sem] UX UY Tryz.ntmps66 Tryz.results66
@[go_sem] theorem Yt:(hi66.draws 7).order=hi66_7:=rfl
theorem iP {s:GShow}{res:Int}(h:cT s=some res):al Tryz.prog 66 [.agg (GShow.encS s)] [] (.lit (.int .i64 res)) []:=by
 refine ai (ra:=[]) (md:=mdT) hT (hi:=hi66) Tryz.func66 rfl rfl (by decide +kernel) (by simp) ?_
 unfold cT at h
 obtain ⟨r01,g1,h⟩:=ae h
 simp(config:=cS)only[go_sem]
 refine ag (Fw g1) ?_
 obtain ⟨h2,h⟩|⟨h2,h⟩:=af h
 ·obtain ⟨r02,g3,h⟩:=ae h
  simp(config:=cS)only[go_sem,eZt h2]
  refine ag (tc g3) ?_
  obtain ⟨q07,l4,h⟩:=ae h
  simp(config:=cS)only[go_sem]
  refine ar (m1:=.mk) (m2:=.mk) [.nf [1,3,11,12,13] [64,704]] (ln ((r02.length:Nat):Int) s.nodes s.ties s.horizon r02) l4 ?_ ?_
  ·simp(config:=cS)only[go_sem]
  ·intro nb5 sb5 bb5 b5 gb5
   obtain ⟨n_1,v13_1⟩:=sb5
   unfold cN at b5
   try dsimp only at b5
   obtain ⟨h6,b5⟩|⟨h6,b5⟩:=af b5
   ·obtain ⟨x03,g7,b5⟩:=ae b5
    obtain ⟨h8,h9,h10⟩:=ak g7
    obtain ⟨x04,g11,b5⟩:=ae b5
    obtain ⟨h12,h13,h14⟩:=ak g11
    cases b5
    simp(config:=cS)only[go_sem,eqT h6,h8,h9,h10,h12,h13,h14]
    refine au gb5 ?_
    simp(config:=cS)only[go_sem]
   ·cases b5
    obtain rfl:=(aj gb5).symm
    try dsimp only at h
    obtain ⟨q06,l16,h⟩:=ae h
    simp(config:=cS)only[go_sem,eqF h6]
    refine ar (m1:=.mk) (m2:=.mk) [.nf [1,3,6] [64]] (lp s.nodes s.ties s.horizon) l16 ?_ ?_
    ·simp(config:=cS)only[go_sem]
    ·intro nb17 sb17 bb17 b17 gb17
     obtain ⟨n_2,p_2⟩:=sb17
     unfold dT at b17
     try dsimp only at b17
     obtain ⟨h18,b17⟩|⟨h18,b17⟩:=af b17
     ·obtain ⟨r05,g19,b17⟩:=ae b17
      simp(config:=cS)only[go_sem,eqT h18]
      refine ag (jH g19) ?_
      obtain ⟨h20,b17⟩|⟨h20,b17⟩:=af b17
      ·cases b17
       simp(config:=cS)only[go_sem,eqT h20]
       refine au gb17 ?_
       simp(config:=cS)only[go_sem]
      ·cases b17
       simp(config:=cS)only[go_sem,eqF h20]
       refine au gb17 ?_
       simp(config:=cS)only[go_sem]
     ·cases b17
      obtain rfl:=(aj gb17).symm
      try dsimp only at h
      cases h
      simp(config:=cS)only[go_sem,eqF h18]
 ·cases h
  simp(config:=cS)only[go_sem,eZf h2]
def nr (c:Int)(d:List GNode)(e:List GTie)(f:Int)(b:List Int):(Int × Int × (List Int))→St
 | (n,g,a)=>⟨[(1,.lit (.int .i64 n)),(2,.ptr 128 1 0 0),(4,.ptr 256 1 0 0),(6,.ptr 384 1 0 0),(21,.ref 1344 1 0 b.length),(22,.lit (.int .i64 c)),(23,.lit (.int .i64 g))],[(128,1,.var [.sl (ab GNode.encS d),.sl (ab GTie.enc e),.lit (.int .i64 f)]),(256,1,.var [.lit (.slice none 0 0),.lit (.slice none 0 0)]),(384,1,.var [.ref 100024576 1 0 a.length,.lit (.slice none 0 0)]),(100024576,1,.row true (ab eI a)),(1344,1,.row true (ab eI b))],2⟩
attribute [go_sem] nr
def nu (c:List GNode)(d:List GTie)(e:Int)(a:List Int):(Int × Int × (List Int))→St
 | (n,p,b)=>⟨[(1,.lit (.int .i64 n)),(2,.ptr 128 1 0 0),(4,.ptr 256 1 0 0),(6,.ptr 384 1 0 0),(10,.lit (.int .i64 p))],[(128,1,.var [.sl (ab GNode.encS c),.sl (ab GTie.enc d),.lit (.int .i64 e)]),(256,1,.var [.lit (.slice none 0 0),.lit (.slice none 0 0)]),(384,1,.var [.ref 100024576 1 0 a.length,.ref 100024577 1 0 b.length]),(100024576,1,.row true (ab eI a)),(100024577,1,.row true (ab eI b))],2⟩
attribute [go_sem] nu
@[go_sem] def hi67_8:DT:=.i1 0 (.i1 1 (.i2 2 (.i2 3 (.i2 4 (.i2 5 (.i2 6 (.i2 7 (.i2 8 (.i2 9 (.i2 10 (.i2 11 (.i0 12 [0,1] (.i2 13 (.i2 14 (.i2 15 .nil)))))))))))))))
@[go_sem] def hi67_7:DT:=.i2 0 (.i2 1 (.i2 2 (.i2 3 (.i2 4 (.i2 5 (.i2 6 (.i2 7 (.i2 8 (.i2 9 (.i2 10 (.i2 11 (.i2 12 (.i2 13 (.i2 14 .nil))))))))))))))
def hi67:Hint where
 acts:=fun _=>[]
 draws:=fun
  | 7=>⟨hi67_7,[[],[0],[],[0,1,2],[0,1,2,3],.range 5,[],[6],[],[6,7,8],[6,7,8,9],[6,7,8,9,10],.range 12,.range 13,.range 14],.range 15⟩
  | 8=>⟨hi67_8,[[],[0],[],[2],[],[2,3,4],[2,3,4,5],[2,3,4,5,6],[],[],[8,9],[2,3,4,5,6,7,8,9,10],[2,3,4,5,6,7,8,9,10,11],.range 13,.range 14,.range 15],.range 16⟩
  | _=>⟨.nil,[],[]⟩
theorem UZ (i:Nat):hi67.acts i=[]:=rfl
theorem Va (i:Nat):hi67.views i=none:=rfl
attribute [go_sem] UZ Va Tryz.ntmps67 Tryz.results67
@[go_sem] theorem Yu:(hi67.draws 7).order=hi67_7:=rfl
@[go_sem] theorem Yv:(hi67.draws 8).order=hi67_8:=rfl
theorem lq {s:GShow}{n:Int}{res:GChoice × Bool}(h:jj s n=some res):al Tryz.prog 67 [.agg (GShow.encS s),.lit (.int .i64 n)] [] (.tup [.agg [.ref 20000 1 0 res.1.lengths.length,.ref 20001 1 0 res.1.values.length],.lit (.bool res.2)]) [(20000,1,.row true (ab eI res.1.lengths)),(20001,1,.row true (ab eI res.1.values))]:=by
 refine ai (ra:=[.homeCell 256 0,.homeCell 256 1]) (md:=mdT) hT (hi:=hi67) Tryz.func67 rfl rfl (by decide +kernel) (by simp) ?_
 unfold jj at h
 obtain ⟨r01,g1,h⟩:=ae h
 simp(config:=cS)only[go_sem]
 refine ag (iP g1) ?_
 obtain ⟨r02,g2,h⟩:=ae h
 simp(config:=cS)only[go_sem]
 refine ag (gy g2) ?_
 obtain ⟨h3,h⟩|⟨h3,h⟩:=af h
 ·obtain ⟨r03,g4,h⟩:=ae h
  simp(config:=cS)only[go_sem,eZt h3]
  refine ag (tc g4) ?_
  obtain ⟨q08,l5,h⟩:=ae h
  simp(config:=cS)only[go_sem]
  refine ar (m1:=.mk) (m2:=.mk) [.homeCell 384 0,.nf [1,2,4,6,21,22,23] [128,256,384,100024576,1344]] (nr ((r03.length:Nat):Int) s.nodes s.ties s.horizon r03) l5 ?_ ?_
  ·simp(config:=cS)only[go_sem]
  ·intro nb6 sb6 bb6 b6 gb6
   obtain ⟨n_1,v23_1,h100024576_1⟩:=sb6
   unfold eF at b6
   try dsimp only at b6
   obtain ⟨h7,b6⟩|⟨h7,b6⟩:=af b6
   ·obtain ⟨x04,g8,b6⟩:=ae b6
    obtain ⟨h9,h10,h11⟩:=ak g8
    obtain ⟨x05,g12,b6⟩:=ae b6
    obtain ⟨h13,h14,h15⟩:=ak g12
    obtain ⟨h16,b6⟩:=am b6
    obtain ⟨h17,b6⟩:=am b6
    obtain ⟨h18,b6⟩:=am b6
    cases b6
    simp(config:=cS)only[go_sem,eqT h7,h9,h10,h11,h13,h14,h15,eqF h16,eqT h17,eqT h18]
    refine au gb6 ?_
    simp(config:=cS)only[go_sem]
   ·cases b6
    obtain rfl:=(aj gb6).symm
    try dsimp only at h
    obtain ⟨q07,l20,h⟩:=ae h
    simp(config:=cS)only[go_sem,eqF h7]
    refine ar (m1:=.mk) (m2:=.mk) [.homeCell 384 1,.nf [1,2,4,6,10] [128,256,384,100024576,100024577]] (nu s.nodes s.ties s.horizon h100024576_1) l20 ?_ ?_
    ·simp(config:=cS)only[go_sem]
    ·intro nb21 sb21 bb21 b21 gb21
     obtain ⟨n_2,p_2,h100024577_2⟩:=sb21
     unfold gA at b21
     try dsimp only at b21
     obtain ⟨h22,b21⟩|⟨h22,b21⟩:=af b21
     ·obtain ⟨r06,g23,b21⟩:=ae b21
      simp(config:=cS)only[go_sem,eqT h22]
      refine ag (jH g23) ?_
      obtain ⟨h24,b21⟩|⟨h24,b21⟩:=af b21
      ·obtain ⟨h25,b21⟩:=am b21
       obtain ⟨h26,b21⟩:=am b21
       cases b21
       simp(config:=cS)only[go_sem,eqT h24,eqT h25,eqT h26]
       refine au gb21 ?_
       simp(config:=cS)only[go_sem]
      ·obtain ⟨h27,b21⟩:=am b21
       obtain ⟨h28,b21⟩:=am b21
       cases b21
       simp(config:=cS)only[go_sem,eqF h24,eqT h27,eqT h28]
       refine au gb21 ?_
       simp(config:=cS)only[go_sem]
     ·cases b21
      obtain rfl:=(aj gb21).symm
      try dsimp only at h
      cases h
      simp(config:=cS)only[go_sem,eqF h22]
 ·cases h
  simp(config:=cS)only[go_sem,eZf h3]
def ua (d:List GNode)(e c:Int)(b:List GTie):(Int × (List GNode))→St
 | (f,a)=>⟨[(2,.ptr 128 1 0 0),(3,.ptr 192 1 0 0),(14,.sl (ab GNode.encS d)),(15,.lit (.int .i64 e)),(16,.lit (.int .i64 f))],[(128,1,.var [.lit (.slice none 0 0),.lit (.slice none 0 0),.lit (.int .i64 0)]),(192,1,.var [.ref 100012288 1 0 a.length,.ref 384 1 0 b.length,.lit (.int .i64 c)]),(100012288,1,.row true (ab GNode.encO a)),(384,1,.row true (ab GTie.enc b))],2⟩
attribute [go_sem] ua
@[go_sem] def hi212_5:DT:=.i1 0 (.i1 1 (.i1 2 (.i1 3 (.i1 5 (.i1 6 (.i1 8 (.i1 9 (.i0 4 [0,1,2,3,5,6,8,9] (.i0 7 [0,1,2,3,8,9] (.i2 10 (.i0 11 [0,1] (.i2 12 (.i2 13 (.i2 14 .nil))))))))))))))
@[go_sem] def hi212_1:DT:=.i1 1 (.i1 2 (.i1 4 (.i1 5 (.fork (.i0 0 [1,2,4,5] (.fork (.i0 3 [4,5] (.i2 6 (.i0 7 [1,2,4,5] (.i2 8 .nil)))) (.i0 7 [1,2,4,5] (.i0 3 [4,5] (.i2 6 (.i2 8 .nil)))))) (.i0 7 [1,2,4,5] (.i0 0 [1,2,4,5] (.i0 3 [4,5] (.i2 6 (.i2 8 .nil)))))))))
def Gq:Hint where
 acts:=fun _=>[]
 draws:=fun
  | 1=>⟨hi212_1,[[],[],[1],[0,1,2],[],[4],.range 6,[],.range 8],.range 9⟩
  | 5=>⟨hi212_5,[[],[0],[],[2],[],[],[5],[4,5,6],[],[8],[2,3,4,5,6,7,8,9],[2,3,4,5,6,7,8,9,10],.range 12,.range 13,.range 14],.range 15⟩
  | _=>⟨.nil,[],[]⟩
theorem Sd (i:Nat):Gq.acts i=[]:=rfl
theorem Se (i:Nat):Gq.views i=none:=rfl
attribute [go_sem] Sd Se Tryz.ntmps212 Tryz.results212
@[go_sem] theorem Xk:(Gq.draws 1).order=hi212_1:=rfl
@[go_sem] theorem Xl:(Gq.draws 5).order=hi212_5:=rfl
def rL (c:Int)(b:List Int):(Int × (List Int))→St
 | (d,a)=>⟨[(2,.ptr 128 1 0 0),(3,.ptr 192 1 0 0),(14,.lit (.int .i64 c)),(15,.lit (.int .i64 d))],[(128,1,.var [.lit (.int .i64 0),.lit (.slice none 0 0),.lit (.slice none 0 0)]),(192,1,.var [.lit (.int .i64 0),.ref 100012289 1 0 a.length,.ref 640 1 0 b.length]),(100012289,1,.row true (ab eI a)),(640,1,.row true (ab eI b))],2⟩
attribute [go_sem] rL
attribute [go_sem] Tryz.ntmps94 Tryz.results94
@[go_sem] def hi137_3:DT:=.i2 0 (.i1 2 (.i2 4 (.i0 1 [2] (.i2 3 (.i2 5 (.i2 6 (.i2 7 .nil)))))))
def Kv:Hint where
 acts:=fun _=>[]
 draws:=fun
  | 3=>⟨hi137_3,[[],[0],[],[0,1,2],[],.range 5,.range 6,.range 7],.range 8⟩
  | _=>⟨.nil,[],[]⟩
theorem Sf (i:Nat):Kv.acts i=[]:=rfl
theorem Sg (i:Nat):Kv.views i=none:=rfl
attribute [go_sem] Sf Sg Tryz.ntmps137 Tryz.results137
@[go_sem] theorem Xm:(Kv.draws 3).order=hi137_3:=rfl
def td (d:Int)(e:List GNode)(f:List GTie)(g:Int)(b c a:List Int)(h:Int):St:=⟨[(2,.ptr 128 1 0 0),(3,.ptr 192 1 0 0),(27,.ref 896 1 0 a.length),(28,.lit (.int .i64 d)),(29,.lit (.int .i64 h))],[(128,1,.var [.sl (ab GNode.encS e),.sl (ab GTie.enc f),.lit (.int .i64 g)]),(192,1,.var [.sl (ab eI b),.sl (ab eI c)]),(896,1,.row true (ab eI a))],2⟩
attribute [go_sem] td
def te (a:List Int)(b:Int)(c:List GNode)(d:List GTie)(e f:Int):St:=⟨[(2,.ptr 128 1 0 0),(55,.sl (ab eI a)),(56,.lit (.int .i64 b)),(57,.lit (.int .i64 f))],[(128,1,.var [.sl (ab GNode.encS c),.sl (ab GTie.enc d),.lit (.int .i64 e)])],2⟩
attribute [go_sem] te
@[go_sem] def hi118_9:DT:=.i2 0 (.i2 1 (.i2 2 (.i2 3 (.i2 4 (.i2 5 (.i2 6 (.i2 7 (.i2 8 (.i2 9 (.i2 10 (.i2 11 (.i2 12 (.i2 13 (.i2 14 (.i2 15 (.i2 16 (.i2 17 (.i2 18 .nil))))))))))))))))))
def Kw:Hint where
 acts:=fun _=>[]
 draws:=fun
  | 9=>⟨hi118_9,[[],[0],[],[0,1,2],[0,1,2,3],[],[5],[],[5,6,7],[5,6,7,8],[5,6,7,8,9],[],[11],[],[11,12,13],[11,12,13,14],[11,12,13,14,15],.range 17,.range 18],.range 19⟩
  | _=>⟨.nil,[],[]⟩
theorem Si (i:Nat):Kw.acts i=[]:=rfl
theorem Sj (i:Nat):Kw.views i=none:=rfl
attribute [go_sem] Si Sj Tryz.ntmps118 Tryz.results118
@[go_sem] theorem Xn:(Kw.draws 9).order=hi118_9:=rfl
@[go_sem] def hi258_1:DT:=.i1 0 (.i1 1 (.i1 3 (.i1 4 (.i1 7 (.i1 8 (.fork (.i0 2 [0,1,3,4,7,8] (.fork (.i0 5 [0,1,7,8] (.i0 6 [0,1,3,4,7,8] (.i0 9 [0,1] (.i2 10 (.i2 11 .nil))))) (.i0 6 [0,1,3,4,7,8] (.i0 5 [0,1,7,8] (.i0 9 [0,1] (.i2 10 (.i2 11 .nil))))))) (.i0 6 [0,1,3,4,7,8] (.i0 2 [0,1,3,4,7,8] (.i0 5 [0,1,7,8] (.i0 9 [0,1] (.i2 10 (.i2 11 .nil))))))))))))
def Kx:Hint where
 acts:=fun _=>[]
 draws:=fun
  | 1=>⟨hi258_1,[[],[0],[],[],[3],[2,3,4],[],[],[7],[2,3,4,5,6,7,8],.range 10,.range 11],.range 12⟩
  | _=>⟨.nil,[],[]⟩
theorem Sk (i:Nat):Kx.acts i=[]:=rfl
theorem Sl (i:Nat):Kx.views i=none:=rfl
attribute [go_sem] Sk Sl Tryz.ntmps258 Tryz.results258
@[go_sem] theorem Xo:(Kx.draws 1).order=hi258_1:=rfl
@[go_sem] def hi270_1:DT:=.i1 0 (.i1 1 (.i1 3 (.i1 4 (.i1 7 (.i1 8 (.i1 11 (.i1 12 (.fork (.i0 2 [0,1,3,4,7,8,11,12] (.fork (.i0 5 [0,1,7,8,11,12] (.fork (.i0 6 [0,1,3,4,7,8,11,12] (.fork (.i0 9 [0,1,11,12] (.i0 10 [0,1,3,4,7,8,11,12] (.i0 13 [0,1] (.i2 14 (.i2 15 .nil))))) (.i0 10 [0,1,3,4,7,8,11,12] (.i0 9 [0,1,11,12] (.i0 13 [0,1] (.i2 14 (.i2 15 .nil))))))) (.i0 10 [0,1,3,4,7,8,11,12] (.i0 6 [0,1,3,4,7,8,11,12] (.i0 9 [0,1,11,12] (.i0 13 [0,1] (.i2 14 (.i2 15 .nil)))))))) (.fork (.i0 6 [0,1,3,4,7,8,11,12] (.fork (.i0 5 [0,1,7,8,11,12] (.fork (.i0 9 [0,1,11,12] (.i0 10 [0,1,3,4,7,8,11,12] (.i0 13 [0,1] (.i2 14 (.i2 15 .nil))))) (.i0 10 [0,1,3,4,7,8,11,12] (.i0 9 [0,1,11,12] (.i0 13 [0,1] (.i2 14 (.i2 15 .nil))))))) (.i0 10 [0,1,3,4,7,8,11,12] (.i0 5 [0,1,7,8,11,12] (.i0 9 [0,1,11,12] (.i0 13 [0,1] (.i2 14 (.i2 15 .nil)))))))) (.i0 10 [0,1,3,4,7,8,11,12] (.fork (.i0 5 [0,1,7,8,11,12] (.i0 6 [0,1,3,4,7,8,11,12] (.i0 9 [0,1,11,12] (.i0 13 [0,1] (.i2 14 (.i2 15 .nil)))))) (.i0 6 [0,1,3,4,7,8,11,12] (.i0 5 [0,1,7,8,11,12] (.i0 9 [0,1,11,12] (.i0 13 [0,1] (.i2 14 (.i2 15 .nil))))))))))) (.fork (.i0 6 [0,1,3,4,7,8,11,12] (.fork (.i0 2 [0,1,3,4,7,8,11,12] (.fork (.i0 5 [0,1,7,8,11,12] (.fork (.i0 9 [0,1,11,12] (.i0 10 [0,1,3,4,7,8,11,12] (.i0 13 [0,1] (.i2 14 (.i2 15 .nil))))) (.i0 10 [0,1,3,4,7,8,11,12] (.i0 9 [0,1,11,12] (.i0 13 [0,1] (.i2 14 (.i2 15 .nil))))))) (.i0 10 [0,1,3,4,7,8,11,12] (.i0 5 [0,1,7,8,11,12] (.i0 9 [0,1,11,12] (.i0 13 [0,1] (.i2 14 (.i2 15 .nil)))))))) (.i0 10 [0,1,3,4,7,8,11,12] (.i0 2 [0,1,3,4,7,8,11,12] (.i0 5 [0,1,7,8,11,12] (.i0 9 [0,1,11,12] (.i0 13 [0,1] (.i2 14 (.i2 15 .nil))))))))) (.i0 10 [0,1,3,4,7,8,11,12] (.fork (.i0 2 [0,1,3,4,7,8,11,12] (.fork (.i0 5 [0,1,7,8,11,12] (.i0 6 [0,1,3,4,7,8,11,12] (.i0 9 [0,1,11,12] (.i0 13 [0,1] (.i2 14 (.i2 15 .nil)))))) (.i0 6 [0,1,3,4,7,8,11,12] (.i0 5 [0,1,7,8,11,12] (.i0 9 [0,1,11,12] (.i0 13 [0,1] (.i2 14 (.i2 15 .nil)))))))) (.i0 6 [0,1,3,4,7,8,11,12] (.i0 2 [0,1,3,4,7,8,11,12] (.i0 5 [0,1,7,8,11,12] (.i0 9 [0,1,11,12] (.i0 13 [0,1] (.i2 14 (.i2 15 .nil))))))))))))))))))
def Ky:Hint where
 acts:=fun _=>[]
 draws:=fun
  | 1=>⟨hi270_1,[[],[0],[],[],[3],[2,3,4],[],[],[7],[2,3,4,5,6,7,8],[],[],[11],[2,3,4,5,6,7,8,9,10,11,12],.range 14,.range 15],.range 16⟩
  | _=>⟨.nil,[],[]⟩
theorem Sm (i:Nat):Ky.acts i=[]:=rfl
theorem Sn (i:Nat):Ky.views i=none:=rfl
attribute [go_sem] Sm Sn Tryz.ntmps270 Tryz.results270
@[go_sem] theorem Xp:(Ky.draws 1).order=hi270_1:=rfl
def ub (i:List aw)(j f g:Int)(h:Bool)(b:List GNode)(c:List GTie)(d e:List Int):(Int × (List aw))→St
 | (k,a)=>⟨[(2,.ptr 128 1 0 0),(3,.ptr 192 1 0 0),(16,.sl (ab aw.encS i)),(17,.lit (.int .i64 j)),(18,.lit (.int .i64 k))],[(128,1,.var [.lit (.slice none 0 0),.lit (.slice none 0 0),.lit (.int .i64 0),.lit (.int .i64 0),.lit (.slice none 0 0),.lit (.slice none 0 0),.lit (.bool false),.lit (.slice none 0 0)]),(192,1,.var [.ref 512 1 0 b.length,.ref 513 1 0 c.length,.lit (.int .i64 f),.lit (.int .i64 g),.ref 704 1 0 d.length,.ref 705 1 0 e.length,.lit (.bool h),.ref 100012295 1 0 a.length]),(512,1,.row true (ab GNode.encO b)),(513,1,.row true (ab GTie.enc c)),(704,1,.row true (ab eI d)),(705,1,.row true (ab eI e)),(100012295,1,.row true (ab aw.encO a))],2⟩
attribute [go_sem] ub
@[go_sem] def hi213_5:DT:=.i1 0 (.i1 1 (.i2 2 (.i0 3 [0,1] (.i0 4 [0,1] (.i2 5 (.i2 6 (.i2 7 .nil)))))))
@[go_sem] def hi213_1:DT:=.i1 0 (.i1 1 (.i1 3 (.i1 4 (.i1 6 (.i1 7 (.fork (.i0 2 [3,4,6,7] (.fork (.i0 5 [6,7] (.i2 8 (.i0 9 [0,1,3,4,6,7] (.i2 10 .nil)))) (.i0 9 [0,1,3,4,6,7] (.i0 5 [6,7] (.i2 8 (.i2 10 .nil)))))) (.i0 9 [0,1,3,4,6,7] (.i0 2 [3,4,6,7] (.i0 5 [6,7] (.i2 8 (.i2 10 .nil)))))))))))
def Gr:Hint where
 acts:=fun _=>[]
 draws:=fun
  | 1=>⟨hi213_1,[[],[0],[0,1],[],[3],.range 5,[],[6],.range 8,[],.range 10],.range 11⟩
  | 5=>⟨hi213_5,[[],[0],[],[2],[2,3],.range 5,.range 6,.range 7],.range 8⟩
  | _=>⟨.nil,[],[]⟩
theorem So (i:Nat):Gr.acts i=[]:=rfl
theorem Sp (i:Nat):Gr.views i=none:=rfl
attribute [go_sem] So Sp Tryz.ntmps213 Tryz.results213
@[go_sem] theorem Xq:(Gr.draws 1).order=hi213_1:=rfl
@[go_sem] theorem Xr:(Gr.draws 5).order=hi213_5:=rfl
def tf (v:List Int)(a b:Int):St:=⟨[(0,.sl (ab eI v)),(5,.sl (ab eI v)),(6,.lit (.int .i64 a)),(7,.lit (.int .i64 b))],[],2⟩
attribute [go_sem] tf
attribute [go_sem] Tryz.ntmps273 Tryz.results273
def uc (a:List Int)(d:Int)(e:List GNode)(f:List GTie)(g b:Int)(c:List Int)(h:Int):St:=⟨[(2,.ptr 128 1 0 0),(3,.ptr 192 1 0 0),(44,.sl (ab eI a)),(45,.lit (.int .i64 d)),(46,.lit (.int .i64 h))],[(128,1,.var [.sl (ab GNode.encS e),.sl (ab GTie.enc f),.lit (.int .i64 g)]),(192,1,.var [.lit (.int .i64 b),.sl (ab eI a),.sl (ab eI c)])],2⟩
attribute [go_sem] uc
def ud (d:List GNode)(e:List GTie)(f a:Int)(b c:List Int)(p:Int):St:=⟨[(2,.ptr 128 1 0 0),(3,.ptr 192 1 0 0),(7,.lit (.int .i64 p))],[(128,1,.var [.sl (ab GNode.encS d),.sl (ab GTie.enc e),.lit (.int .i64 f)]),(192,1,.var [.lit (.int .i64 a),.sl (ab eI b),.sl (ab eI c)])],2⟩
attribute [go_sem] ud
@[go_sem] def hi216_13:DT:=.i2 0 (.i2 1 (.i2 2 (.i2 3 (.i2 4 (.i2 5 (.i2 6 (.i2 7 (.i2 8 (.i2 9 (.i2 10 (.i2 11 (.i2 12 (.i2 13 (.i2 14 (.i2 15 (.i2 16 (.i2 17 .nil)))))))))))))))))
def Kz:Hint where
 acts:=fun _=>[]
 draws:=fun
  | 13=>⟨hi216_13,[[],[0],[],[2],[0,1,2,3],.range 5,.range 6,[],[7],[7,8],[7,8,9],[7,8,9,10],[7,8,9],[7,8,9,10,11,12],[7,8,9,10,11,12,13],[7,8,9,10,11,12,13,14],[7,8,9,10,11,12,13,14,15],.range 17],.range 18⟩
  | _=>⟨.nil,[],[]⟩
theorem Sq (i:Nat):Kz.acts i=[]:=rfl
theorem Sr (i:Nat):Kz.views i=none:=rfl
attribute [go_sem] Sq Sr Tryz.ntmps216 Tryz.results216
@[go_sem] theorem Wl:(Kz.draws 13).order=hi216_13:=rfl
def sv (e:List GTie)(f b:Int)(c d:List Int):(Int × (List Int))→St
 | (g,a)=>⟨[(3,.ptr 192 1 0 0),(5,.ref 512 1 0 a.length),(10,.sl (ab GTie.enc e)),(11,.lit (.int .i64 f)),(12,.lit (.int .i64 g))],[(192,1,.var [.lit (.int .i64 b),.sl (ab eI c),.sl (ab eI d)]),(512,1,.row true (ab eI a))],2⟩
attribute [go_sem] sv
attribute [go_sem] Tryz.ntmps255 Tryz.results255
def rM (g:Int)(h:List GNode)(i:List GTie)(j d:Int)(e f b:List Int):(Int × (List Int) × (List Int))→St
 | (k,a,c)=>⟨[(2,.ptr 128 1 0 0),(3,.ptr 192 1 0 0),(6,.ref 704 1 0 a.length),(7,.ref 768 1 0 c.length),(15,.ref 960 1 0 b.length),(16,.lit (.int .i64 g)),(17,.lit (.int .i64 k))],[(128,1,.var [.sl (ab GNode.encS h),.sl (ab GTie.enc i),.lit (.int .i64 j)]),(192,1,.var [.lit (.int .i64 d),.sl (ab eI e),.sl (ab eI f)]),(704,1,.row true (ab eI a)),(768,1,.row true (ab eI c)),(960,1,.row true (ab eI b))],2⟩
attribute [go_sem] rM
@[go_sem] def hi183_6:DT:=.i2 0 (.i2 1 (.i2 2 (.i2 3 (.i2 4 (.i2 5 (.i2 6 (.i2 7 (.i2 8 (.i2 9 (.i2 10 (.i2 11 (.i2 12 (.i2 13 .nil)))))))))))))
def KA:Hint where
 acts:=fun _=>[]
 draws:=fun
  | 6=>⟨hi183_6,[[],[0],[],[2],[],[4],[],[4,5,6],[4,5,6,7],[4,5,6,7,8],[2,3,4,5,6,7,8,9],[2,3,4,5,6,7,8,9,10],.range 12,.range 13],.range 14⟩
  | _=>⟨.nil,[],[]⟩
theorem Ss (i:Nat):KA.acts i=[]:=rfl
theorem Su (i:Nat):KA.views i=none:=rfl
attribute [go_sem] Ss Su Tryz.ntmps183 Tryz.results183
@[go_sem] theorem Xs:(KA.draws 6).order=hi183_6:=rfl
def ue (n:Int)(d:List Int)(b:Int):(Int × (List Int))→St
 | (c,a)=>⟨[(1,.lit (.int .i64 n)),(5,.ref 512 1 0 a.length),(9,.sl (ab eI d)),(10,.lit (.int .i64 b)),(11,.lit (.int .i64 c))],[(512,1,.row true (ab eI a))],2⟩
attribute [go_sem] ue
attribute [go_sem] Tryz.ntmps187 Tryz.results187
def tg (a b:List Int):(Int × Int × (List Int))→St
 | (i,k,c)=>⟨[(0,.sl (ab eI a)),(1,.sl (ab eI b)),(5,.ref 512 1 0 c.length),(6,.lit (.int .i64 i)),(7,.lit (.int .i64 k))],[(512,1,.row true (ab eI c))],2⟩
attribute [go_sem] tg
@[go_sem] def hi186_5:DT:=.i2 0 (.i2 1 (.i2 2 (.i2 3 (.i2 4 (.i2 5 (.i2 6 (.i2 7 (.i2 8 (.i2 9 (.i2 10 (.i2 11 (.i2 12 (.i2 13 (.i2 14 (.i2 15 (.i2 16 (.i2 17 (.i2 18 (.i2 19 (.i2 20 .nil))))))))))))))))))))
def KB:Hint where
 acts:=fun _=>[]
 draws:=fun
  | 5=>⟨hi186_5,[[],[],[1],[0,1,2],[0,1,2,3],.range 5,.range 5,[0,1,2,3,4,6],.range 8,.range 9,.range 10,.range 10,.range 12,.range 13,.range 10,.range 10,[0,1,2,3,4,5,6,7,8,9,14,15],[0,1,2,3,4,5,6,7,8,9,14,15,16],.range 18,.range 19,.range 20],.range 21⟩
  | _=>⟨.nil,[],[]⟩
theorem Sv (i:Nat):KB.acts i=[]:=rfl
theorem Sw (i:Nat):KB.views i=none:=rfl
attribute [go_sem] Sv Sw Tryz.ntmps186 Tryz.results186
@[go_sem] theorem Xt:(KB.draws 5).order=hi186_5:=rfl
def sw (a b:List Int):(Int × (List (List Int)))→St
 | (n,c)=>⟨[(5,.ref 1472 1 0 a.length),(6,.ref 1473 1 0 b.length),(7,.ref 1664 1 0 c.length),(8,.lit (.int .i64 n))],[(1472,1,.row true (ab eI a)),(1473,1,.row true (ab eI b)),(1664,1,.row true (ab (eLO eI) c))],2⟩
attribute [go_sem] sw
attribute [go_sem] Tryz.ntmps149 Tryz.results149
def vW (a:List Int)(b:List (List Int))(c d:Int):St:=⟨[(1,.sl (ab eI a)),(7,.sl (ab (eLS eI) b)),(8,.lit (.int .i64 c)),(9,.lit (.int .i64 d))],[],2⟩
attribute [go_sem] vW
attribute [go_sem] Tryz.ntmps299 Tryz.results299
def uX (g:List Int)(h:Int)(i:List GNode)(j:List GTie)(k d:Int)(e f:List Int)(c:Int)(a:List Int):(Int × (List Int))→St
 | (l,b)=>⟨[(3,.ptr 192 1 0 0),(4,.ptr 256 1 0 0),(6,.ptr 384 1 0 0),(7,.ptr 448 1 0 0),(12,.sl (ab eI g)),(13,.lit (.int .i64 h)),(14,.lit (.int .i64 l))],[(192,1,.var [.sl (ab GNode.encS i),.sl (ab GTie.enc j),.lit (.int .i64 k)]),(256,1,.var [.lit (.int .i64 d),.sl (ab eI e),.sl (ab eI f)]),(384,1,.var [.lit (.int .i64 0),.lit (.slice none 0 0),.lit (.slice none 0 0)]),(448,1,.var [.lit (.int .i64 c),.ref 704 1 0 b.length,.ref 705 1 0 a.length]),(704,1,.row true (ab eI b)),(705,1,.row true (ab eI a))],2⟩
attribute [go_sem] uX
@[go_sem] def hi185_5:DT:=.i2 0 (.i2 1 (.i2 2 (.i2 3 (.i2 4 (.i2 5 (.i2 6 (.i2 7 (.i2 8 (.i2 9 (.i2 10 (.i2 11 .nil)))))))))))
def KD:Hint where
 acts:=fun _=>[]
 draws:=fun
  | 5=>⟨hi185_5,[[],[0],[],[2],[],[2,3,4],[2,3,4,5],[2,3,4,5,6],[],[8],.range 10,.range 11],.range 12⟩
  | _=>⟨.nil,[],[]⟩
theorem Sx (i:Nat):KD.acts i=[]:=rfl
theorem Sy (i:Nat):KD.views i=none:=rfl
attribute [go_sem] Sx Sy Tryz.ntmps185 Tryz.results185
@[go_sem] theorem Xu:(KD.draws 5).order=hi185_5:=rfl
attribute [go_sem] Tryz.ntmps278 Tryz.results278
attribute [go_sem] Tryz.ntmps300 Tryz.results300
def th (v d:List Int)(a:Int):(Int × Int)→St
 | (b,c)=>⟨[(1,.sl (ab eI v)),(5,.lit (.int .i64 b)),(9,.sl (ab eI d)),(10,.lit (.int .i64 a)),(11,.lit (.int .i64 c))],[],2⟩
attribute [go_sem] th
attribute [go_sem] Tryz.ntmps119 Tryz.results119
def rN (a:List GNode)(f:Int)(g:List GTie)(h c:Int)(d e:List Int):(Int × (List Int))→St
 | (i,b)=>⟨[(2,.ptr 128 1 0 0),(3,.ptr 192 1 0 0),(5,.ref 512 1 0 b.length),(10,.sl (ab GNode.encS a)),(11,.lit (.int .i64 f)),(12,.lit (.int .i64 i))],[(128,1,.var [.sl (ab GNode.encS a),.sl (ab GTie.enc g),.lit (.int .i64 h)]),(192,1,.var [.lit (.int .i64 c),.sl (ab eI d),.sl (ab eI e)]),(512,1,.row true (ab eI b))],2⟩
attribute [go_sem] rN
attribute [go_sem] Tryz.ntmps256 Tryz.results256
def re (l:List Int):(Int × (List (List Int)))→St
 | (n,a)=>⟨[(5,.ref 896 1 0 l.length),(6,.ref 960 1 0 a.length),(7,.lit (.int .i64 n))],[(896,1,.row true (ab eI l)),(960,1,.row true (ab (eLO eI) a))],2⟩
attribute [go_sem] re
attribute [go_sem] Tryz.ntmps279 Tryz.results279
def sx (a:List Int)(h:Int)(i:List GNode)(j:List GTie)(k e:Int)(f g:List Int)(d:Int)(b:List Int):(Int × (List Int))→St
 | (l,c)=>⟨[(2,.sl (ab eI a)),(3,.ptr 192 1 0 0),(4,.ptr 256 1 0 0),(6,.ptr 384 1 0 0),(8,.ptr 512 1 0 0),(15,.sl (ab eI a)),(16,.lit (.int .i64 h)),(17,.lit (.int .i64 l))],[(192,1,.var [.sl (ab GNode.encS i),.sl (ab GTie.enc j),.lit (.int .i64 k)]),(256,1,.var [.lit (.int .i64 e),.sl (ab eI f),.sl (ab eI g)]),(384,1,.var [.lit (.int .i64 0),.lit (.slice none 0 0),.lit (.slice none 0 0)]),(512,1,.var [.lit (.int .i64 d),.ref 896 1 0 c.length,.ref 897 1 0 b.length]),(896,1,.row true (ab eI c)),(897,1,.row true (ab eI b))],2⟩
attribute [go_sem] sx
def sy (d:List Int)(f:List GNode)(g:List GTie)(h e:Int)(b c:List Int):(Int × (List Int))→St
 | (p,a)=>⟨[(2,.sl (ab eI d)),(3,.ptr 192 1 0 0),(6,.ptr 384 1 0 0),(8,.ptr 512 1 0 0),(11,.ref 1792 1 0 a.length),(12,.lit (.int .i64 p))],[(192,1,.var [.sl (ab GNode.encS f),.sl (ab GTie.enc g),.lit (.int .i64 h)]),(384,1,.var [.lit (.int .i64 0),.lit (.slice none 0 0),.lit (.slice none 0 0)]),(512,1,.var [.lit (.int .i64 e),.ref 896 1 0 b.length,.ref 897 1 0 c.length]),(896,1,.row true (ab eI b)),(897,1,.row true (ab eI c)),(1792,1,.row true (ab eI a))],2⟩
attribute [go_sem] sy
attribute [go_sem] Tryz.ntmps280 Tryz.results280
attribute [go_sem] Tryz.ntmps325 Tryz.results325
def sA (a e:List Int)(f d:Int)(b:List Int):(Int × (List Int))→St
 | (g,c)=>⟨[(2,.sl (ab eI a)),(6,.ptr 384 1 0 0),(7,.ptr 448 1 0 0),(12,.sl (ab eI e)),(13,.lit (.int .i64 f)),(14,.lit (.int .i64 g))],[(384,1,.var [.lit (.int .i64 0),.lit (.slice none 0 0),.lit (.slice none 0 0)]),(448,1,.var [.lit (.int .i64 d),.ref 704 1 0 b.length,.ref 705 1 0 c.length]),(704,1,.row true (ab eI b)),(705,1,.row true (ab eI c))],2⟩
attribute [go_sem] sA
@[go_sem] def hi281_5:DT:=.i2 0 (.i2 1 (.i2 2 (.i2 3 (.i2 4 (.i2 5 (.i2 6 (.i2 7 (.i2 8 (.i2 9 .nil)))))))))
def KE:Hint where
 acts:=fun _=>[]
 draws:=fun
  | 5=>⟨hi281_5,[[],[0],[],[2],[],[],[4,5],[4,5,6],.range 8,.range 9],.range 10⟩
  | _=>⟨.nil,[],[]⟩
theorem Sz (i:Nat):KE.acts i=[]:=rfl
theorem SA (i:Nat):KE.views i=none:=rfl
attribute [go_sem] Sz SA Tryz.ntmps281 Tryz.results281
@[go_sem] theorem Xv:(KE.draws 5).order=hi281_5:=rfl
def ti (e f:Int)(g h i:List Int)(j:Int)(b c d:List Int):(Int × (List Int))→St
 | (k,a)=>⟨[(5,.ptr 320 1 0 0),(6,.ptr 384 1 0 0),(10,.ptr 640 1 0 0),(11,.ref 2946 1 0 d.length),(13,.ref 3904 1 0 a.length),(62,.ref 2946 1 0 d.length),(63,.lit (.int .i64 e)),(64,.lit (.int .i64 k))],[(320,1,.var [.lit (.int .i64 f),.sl (ab eI g),.sl (ab eI h),.sl (ab eI i)]),(384,1,.var [.lit (.int .i64 0),.lit (.slice none 0 0),.lit (.slice none 0 0)]),(640,1,.var [.lit (.int .i64 j),.ref 2944 1 0 b.length,.ref 2945 1 0 c.length]),(2944,1,.row true (ab eI b)),(2945,1,.row true (ab eI c)),(2946,1,.row true (ab eI d)),(3904,1,.row true (ab eI a))],2⟩
attribute [go_sem] ti
attribute [go_sem] Tryz.ntmps298 Tryz.results298
def sB (d:List aw)(e:Int)(f:List GNode)(g:List GTie)(h:Int):(Int × Int × (List Int) × (List Int))→St
 | (i,c,a,b)=>⟨[(2,.ptr 128 1 0 0),(4,.ptr 256 1 0 0),(6,.ptr 384 1 0 0),(13,.sl (ab aw.encS d)),(14,.lit (.int .i64 e)),(15,.lit (.int .i64 i))],[(128,1,.var [.sl (ab GNode.encS f),.sl (ab GTie.enc g),.lit (.int .i64 h)]),(256,1,.var [.lit (.int .i64 0),.lit (.slice none 0 0),.lit (.slice none 0 0)]),(384,1,.var [.lit (.int .i64 c),.ref 768 1 0 a.length,.ref 769 1 0 b.length]),(768,1,.row true (ab eI a)),(769,1,.row true (ab eI b))],2⟩
attribute [go_sem] sB
@[go_sem] def hi271_10:DT:=.i1 0 (.i2 1 (.i0 2 [0] (.i2 3 (.i2 4 .nil))))
def KF:Hint where
 acts:=fun _=>[]
 draws:=fun
  | 10=>⟨hi271_10,[[],[],[1],[0,1,2],[0,1,2,3]],.range 5⟩
  | _=>⟨.nil,[],[]⟩
theorem SB (i:Nat):KF.acts i=[]:=rfl
theorem SC (i:Nat):KF.views i=none:=rfl
attribute [go_sem] SB SC Tryz.ntmps271 Tryz.results271
@[go_sem] theorem Wm:(KF.draws 10).order=hi271_10:=rfl
attribute [go_sem] Tryz.ntmps272 Tryz.results272
attribute [go_sem] Tryz.ntmps214 Tryz.results214
def sC (d e:Int)(b c a:List Int)(f:Int):St:=⟨[(2,.lit (.int .i64 d)),(4,.ptr 256 1 0 0),(10,.ref 640 1 0 a.length),(11,.lit (.int .i64 e)),(12,.lit (.int .i64 f))],[(256,1,.var [.sl (ab eI b),.sl (ab eI c)]),(640,1,.row true (ab eI a))],2⟩
attribute [go_sem] sC
attribute [go_sem] Tryz.ntmps120 Tryz.results120
def sD (h:Int)(i:List GNode)(j:List GTie)(k c:Int)(d e f g a:List Int):(Int × (List Int))→St
 | (l,b)=>⟨[(3,.ptr 192 1 0 0),(4,.ptr 256 1 0 0),(5,.ptr 320 1 0 0),(7,.ref 640 1 0 b.length),(13,.ref 832 1 0 a.length),(14,.lit (.int .i64 h)),(15,.lit (.int .i64 l))],[(192,1,.var [.sl (ab GNode.encS i),.sl (ab GTie.enc j),.lit (.int .i64 k)]),(256,1,.var [.lit (.int .i64 c),.sl (ab eI d),.sl (ab eI e)]),(320,1,.var [.sl (ab eI f),.sl (ab eI g)]),(640,1,.row true (ab eI b)),(832,1,.row true (ab eI a))],2⟩
attribute [go_sem] sD
@[go_sem] def hi215_5:DT:=.i1 0 (.i1 1 (.i1 2 (.i1 3 (.i1 4 (.i1 5 (.i2 6 (.i1 7 (.i1 8 (.i1 9 (.i1 10 (.i1 11 (.i2 12 (.i2 13 (.i2 14 (.i2 15 (.i0 16 [0,1,2,3,4,5,7,8,9,10,11] (.i2 17 .nil)))))))))))))))))
def KG:Hint where
 acts:=fun _=>[]
 draws:=fun
  | 5=>⟨hi215_5,[[],[0],[],[2],[],[4],[],[4,5,6],[4,5,6,7],[4,5,6,7,8],[2,3,4,5,6,7,8,9],[2,3,4,5,6,7,8,9,10],.range 12,[],[],[],[13,14,15],.range 17],.range 18⟩
  | _=>⟨.nil,[],[]⟩
theorem SD (i:Nat):KG.acts i=[]:=rfl
theorem SE (i:Nat):KG.views i=none:=rfl
attribute [go_sem] SD SE Tryz.ntmps215 Tryz.results215
@[go_sem] theorem Xw:(KG.draws 5).order=hi215_5:=rfl
end Go.Proofs.Qd
