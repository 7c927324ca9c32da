/- Functions. -/
import Derived.Test.YtjbpfglekblgbaaDoorZcFK0
set_option linter.all false
set_option maxRecDepth 100000
set_option maxHeartbeats 4000000
namespace Go.Proofs.Qc
open Go
def dV (s c:ByteArray)(a i:Int)(b:List ByteArray)(k:Int):St:=⟨[(0,.lit (.string s)),(1,.lit (.string c)),(5,.ref 576 1 0 b.length),(6,.lit (.int .i64 a)),(7,.lit (.int .i64 i)),(8,.lit (.int .i64 k))],[(576,1,.row true (ab eS b))],2⟩
attribute [go_sem] dV
def dW (s c:ByteArray):(Int × Int × (List ByteArray))→St
 | (a,i,b)=>⟨[(0,.lit (.string s)),(1,.lit (.string c)),(5,.ref 576 1 0 b.length),(6,.lit (.int .i64 a)),(7,.lit (.int .i64 i))],[(576,1,.row true (ab eS b))],2⟩
attribute [go_sem] dW
@[go_sem] def hi47_9:DT:=.i2 0 (.i2 1 (.i2 2 (.i2 3 (.i2 4 (.i2 5 (.i2 6 .nil))))))
def hi47:Hint where
 acts:=fun _=>[]
 draws:=fun
  | 9=>⟨hi47_9,[[],[],[0,1],[],[],[3,4],.range 6],.range 7⟩
  | _=>⟨.nil,[],[]⟩
theorem wq (i:Nat):hi47.acts i=[]:=rfl
theorem wu (i:Nat):hi47.views i=none:=rfl
attribute [go_sem] wq wu Tryd.ntmps47 Tryd.results47
@[go_sem] theorem wM:(hi47.draws 9).order=hi47_9:=rfl
theorem gr {s by_:ByteArray}{res:List ByteArray}(h:cj s by_=some res):aK Tryd.prog 47 [.lit (.string s),.lit (.string by_)] [] (.ref 20000 1 0 res.length) [(20000,1,.row true (ab eS res))]:=by
 refine aY (ra:=[.home 4]) (md:=mdT) hT (hi:=hi47) Tryd.func47 rfl rfl (by decide +kernel) (by simp) ?_
 unfold cj at h
 obtain ⟨q04,l1,h⟩:=ak h
 simp(config:=cS)only[go_sem]
 refine aX (m1:=.mk) (m2:=.mk) [.nf [0,1,5,6,7] [576]] (dW s by_) l1 ?_ ?_
 ·simp(config:=cS)only[go_sem]
 ·intro nb2 sb2 bb2 b2 gb2
  obtain ⟨from__1,i_1,out_1⟩:=sb2
  unfold ce at b2
  try dsimp only at b2
  obtain ⟨h3,b2⟩|⟨h3,b2⟩:=ao b2
  ·obtain ⟨q03,l4,b2⟩:=ak b2
   simp(config:=cS)only[go_sem,eqT h3]
   refine aX (m1:=.mk) (m2:=.mk) [.nf [0,1,5,6,7,8] [576]] (dV s by_ from__1 i_1 out_1) l4 ?_ ?_
   ·simp(config:=cS)only[go_sem]
   ·intro nb5 k_2 bb5 b5 gb5
    unfold bd at b5
    try dsimp only at b5
    obtain ⟨h6,b5⟩|⟨h6,b5⟩:=ao b5
    ·obtain ⟨c1001,g7,b5⟩:=ak b5
     obtain ⟨h8,h9,h10⟩:=cZ g7
     obtain ⟨c1002,g11,b5⟩:=ak b5
     obtain ⟨h12,h13,h14⟩:=cZ g11
     obtain ⟨h15,b5⟩|⟨h15,b5⟩:=ao b5
     ·obtain ⟨h16,b5⟩:=aw b5
      obtain ⟨h17,b5⟩:=aw b5
      obtain ⟨h18,b5⟩:=aw b5
      obtain ⟨h19,b5⟩:=aw b5
      obtain ⟨h20,b5⟩:=aw b5
      obtain ⟨h21,b5⟩:=aw b5
      cases b5
      obtain rfl:=(aR gb5).symm
      try dsimp only at b2
      cases b2
      simp(config:=cS)only[go_sem,eqT h6,h8,h9,h10,h12,h13,h14,eqT h15,eqT h16,eqT h17,eqT h18,eqT h19,eqT h20,eqT h21]
      refine bS gb2 ?_
      simp(config:=cS)only[go_sem]
     ·cases b5
      simp(config:=cS)only[go_sem,eqT h6,h8,h9,h10,h12,h13,h14,eqF h15]
      refine bS gb5 ?_
      simp(config:=cS)only[go_sem]
    ·cases b5
     obtain rfl:=(aR gb5).symm
     try dsimp only at b2
     cases b2
     simp(config:=cS)only[go_sem,eqF h6]
     refine bS gb2 ?_
     simp(config:=cS)only[go_sem]
  ·cases b2
   obtain rfl:=(aR gb2).symm
   try dsimp only at h
   obtain ⟨h25,h⟩:=aw h
   obtain ⟨h26,h⟩:=aw h
   obtain ⟨h27,h⟩:=aw h
   obtain ⟨h28,h⟩:=aw h
   cases h
   simp(config:=cS)only[go_sem,eqF h3,eqT h25,eqT h26,eqT h27,eqT h28]
def dX (s:ByteArray)(i:Int):St:=⟨[(0,.lit (.string s)),(3,.lit (.int .i64 i))],[],2⟩
attribute [go_sem] dX
attribute [go_sem] Tryd.ntmps79 Tryd.results79
theorem eC {s:ByteArray}{res:Bool}(h:bn s=some res):aK Tryd.prog 79 [.lit (.string s)] [] (.lit (.bool res)) []:=by
 refine aY (ra:=[]) (md:=mdT) hT (hi:=hi00) Tryd.func79 rfl rfl (by decide +kernel) (by simp) ?_
 unfold bn at h
 obtain ⟨q02,l1,h⟩:=ak h
 simp(config:=cS)only[go_sem]
 refine aX (m1:=.mk) (m2:=.mk) [.nf [0,3] []] (dX s) l1 ?_ ?_
 ·simp(config:=cS)only[go_sem]
 ·intro nb2 i_1 bb2 b2 gb2
  unfold bf at b2
  try dsimp only at b2
  obtain ⟨h3,b2⟩|⟨h3,b2⟩:=ao b2
  ·obtain ⟨c1001,g4,b2⟩:=ak b2
   obtain ⟨h5,h6,h7⟩:=cZ g4
   obtain ⟨h8,b2⟩|⟨h8,b2⟩:=ao b2
   ·cases b2
    obtain rfl:=(aR gb2).symm
    try dsimp only at h
    cases h
    simp(config:=cS)only[go_sem,eqT h3,h5,h6,h7,eqT h8]
   ·obtain ⟨h10,b2⟩|⟨h10,b2⟩:=ao b2
    ·cases b2
     obtain rfl:=(aR gb2).symm
     try dsimp only at h
     cases h
     simp(config:=cS)only[go_sem,eqT h3,h5,h6,h7,eqF h8,eqT h10]
    ·cases b2
     simp(config:=cS)only[go_sem,eqT h3,h5,h6,h7,eqF h8,eqF h10]
     refine bS gb2 ?_
     simp(config:=cS)only[go_sem]
  ·cases b2
   obtain rfl:=(aR gb2).symm
   try dsimp only at h
   cases h
   simp(config:=cS)only[go_sem,eqF h3]
def cV (s:ByteArray)(a:Bool)(t:ByteArray):(Int × Int)→St
 | (n,i)=>⟨[(0,.lit (.string s)),(4,.lit (.bool a)),(5,.lit (.string t)),(6,.lit (.int .i64 n)),(7,.lit (.int .i64 i))],[],2⟩
attribute [go_sem] cV
def dY (s:ByteArray):(Int × Int)→St
 | (n,i)=>⟨[(0,.lit (.string s)),(4,.lit (.bool false)),(5,.lit (.string s)),(6,.lit (.int .i64 n)),(7,.lit (.int .i64 i))],[],2⟩
attribute [go_sem] dY
attribute [go_sem] Tryd.ntmps48 Tryd.results48
theorem gu {s:ByteArray}{res:Int × Bool}(h:ck s=some res):aK Tryd.prog 48 [.lit (.string s)] [] (.tup [.lit (.int .i64 res.1),.lit (.bool res.2)]) []:=by
 refine aY (ra:=[]) (md:=mdT) hT (hi:=hi00) Tryd.func48 rfl rfl (by decide +kernel) (by simp) ?_
 unfold ck at h
 obtain ⟨h1,h⟩|⟨h1,h⟩:=ao h
 ·obtain ⟨c1001,g2,h⟩:=ak h
  obtain ⟨h4,h5⟩:=sE (k:=0) g2
  obtain ⟨h6,h⟩|⟨h6,h⟩:=ao h
  ·obtain ⟨h7,h⟩:=aw h
   obtain ⟨r02,g8,h⟩:=ak h
   simp(config:=cS)only[go_sem,eqT h1,h4,h5,eqT h6,eqT h7]
   refine au (eC g8) ?_
   obtain ⟨h9,h⟩|⟨h9,h⟩:=ao h
   ·obtain ⟨h10,h⟩|⟨h10,h⟩:=ao h
    ·cases h
     simp(config:=cS)only[go_sem,eqT h1,h4,h5,eqT h6,eqT h7,eZt h9,eqT h10]
    ·obtain ⟨q05,l11,h⟩:=ak h
     simp(config:=cS)only[go_sem,eqT h1,h4,h5,eqT h6,eqT h7,eZt h9,eqF h10]
     refine aX (m1:=.mk) (m2:=.mk) [.nf [0,4,5,6,7] []] (cV s (decide (((c1001.toNat:Nat):Int)=45)) (s.extract 1 s.size)) l11 ?_ ?_
     ·simp(config:=cS)only[go_sem,eqT h1,h4,h5,eqT h6,eqT h7,eZt h9,eqF h10]
     ·intro nb12 sb12 bb12 b12 gb12
      obtain ⟨n_1,i_1⟩:=sb12
      unfold bv at b12
      try dsimp only at b12
      obtain ⟨h13,b12⟩|⟨h13,b12⟩:=ao b12
      ·obtain ⟨c1003,g14,b12⟩:=ak b12
       obtain ⟨h15,h16,h17⟩:=cZ g14
       obtain ⟨h18,b12⟩|⟨h18,b12⟩:=ao b12
       ·cases b12
        obtain rfl:=(aR gb12).symm
        try dsimp only at h
        cases h
        simp(config:=cS)only[go_sem,eqT h1,h4,h5,eqT h6,eqT h7,eZt h9,eqF h10,eqT h13,h15,h16,h17,eqT h18]
       ·cases b12
        simp(config:=cS)only[go_sem,eqT h1,h4,h5,eqT h6,eqT h7,eZt h9,eqF h10,eqT h13,h15,h16,h17,eqF h18]
        refine bS gb12 ?_
        simp(config:=cS)only[go_sem,eqT h1,h4,h5,eqT h6,eqT h7,eZt h9,eqF h10,eqT h13,h15,h16,h17,eqF h18]
      ·cases b12
       obtain rfl:=(aR gb12).symm
       try dsimp only at h
       obtain ⟨r04,g21,h⟩:=ak h
       simp(config:=cS)only[go_sem,eqT h1,h4,h5,eqT h6,eqT h7,eZt h9,eqF h10,eqF h13]
       refine au (dN g21) ?_
       obtain ⟨h22,h⟩|⟨h22,h⟩:=ao h
       ·cases h
        simp(config:=cS)only[go_sem,eqT h1,h4,h5,eqT h6,eqT h7,eZt h9,eqF h10,eqF h13,eqT h22]
       ·cases h
        simp(config:=cS)only[go_sem,eqT h1,h4,h5,eqT h6,eqT h7,eZt h9,eqF h10,eqF h13,eqF h22]
   ·cases h
    simp(config:=cS)only[go_sem,eqT h1,h4,h5,eqT h6,eqT h7,eZf h9]
  ·obtain ⟨r06,g23,h⟩:=ak h
   simp(config:=cS)only[go_sem,eqT h1,h4,h5,eqF h6]
   refine au (eC g23) ?_
   obtain ⟨h24,h⟩|⟨h24,h⟩:=ao h
   ·obtain ⟨h25,h⟩|⟨h25,h⟩:=ao h
    ·cases h
     simp(config:=cS)only[go_sem,eqT h1,h4,h5,eqF h6,eZt h24,eqT h25]
    ·obtain ⟨q09,l26,h⟩:=ak h
     simp(config:=cS)only[go_sem,eqT h1,h4,h5,eqF h6,eZt h24,eqF h25]
     refine aX (m1:=.mk) (m2:=.mk) [.nf [0,4,5,6,7] []] (cV s (decide (((c1001.toNat:Nat):Int)=45)) s) l26 ?_ ?_
     ·simp(config:=cS)only[go_sem,eqT h1,h4,h5,eqF h6,eZt h24,eqF h25]
     ·intro nb27 sb27 bb27 b27 gb27
      obtain ⟨n_2,i_2⟩:=sb27
      unfold bv at b27
      try dsimp only at b27
      obtain ⟨h28,b27⟩|⟨h28,b27⟩:=ao b27
      ·obtain ⟨c1007,g29,b27⟩:=ak b27
       obtain ⟨h30,h31,h32⟩:=cZ g29
       obtain ⟨h33,b27⟩|⟨h33,b27⟩:=ao b27
       ·cases b27
        obtain rfl:=(aR gb27).symm
        try dsimp only at h
        cases h
        simp(config:=cS)only[go_sem,eqT h1,h4,h5,eqF h6,eZt h24,eqF h25,eqT h28,h30,h31,h32,eqT h33]
       ·cases b27
        simp(config:=cS)only[go_sem,eqT h1,h4,h5,eqF h6,eZt h24,eqF h25,eqT h28,h30,h31,h32,eqF h33]
        refine bS gb27 ?_
        simp(config:=cS)only[go_sem,eqT h1,h4,h5,eqF h6,eZt h24,eqF h25,eqT h28,h30,h31,h32,eqF h33]
      ·cases b27
       obtain rfl:=(aR gb27).symm
       try dsimp only at h
       obtain ⟨h36,h⟩|⟨h36,h⟩:=ao h
       ·cases h
        simp(config:=cS)only[go_sem,eqT h1,h4,h5,eqF h6,eZt h24,eqF h25,eqF h28,eqT h36]
       ·obtain ⟨r08,g37,h⟩:=ak h
        simp(config:=cS)only[go_sem,eqT h1,h4,h5,eqF h6,eZt h24,eqF h25,eqF h28,eqF h36]
        refine au (dN g37) ?_
        obtain ⟨h38,h⟩|⟨h38,h⟩:=ao h
        ·cases h
         simp(config:=cS)only[go_sem,eqT h1,h4,h5,eqF h6,eZt h24,eqF h25,eqF h28,eqF h36,eqT h38]
        ·cases h
         simp(config:=cS)only[go_sem,eqT h1,h4,h5,eqF h6,eZt h24,eqF h25,eqF h28,eqF h36,eqF h38]
   ·cases h
    simp(config:=cS)only[go_sem,eqT h1,h4,h5,eqF h6,eZf h24]
 ·obtain ⟨r10,g39,h⟩:=ak h
  simp(config:=cS)only[go_sem,eqF h1]
  refine au (eC g39) ?_
  obtain ⟨h40,h⟩|⟨h40,h⟩:=ao h
  ·obtain ⟨h41,h⟩|⟨h41,h⟩:=ao h
   ·cases h
    simp(config:=cS)only[go_sem,eqF h1,eZt h40,eqT h41]
   ·obtain ⟨q13,l42,h⟩:=ak h
    simp(config:=cS)only[go_sem,eqF h1,eZt h40,eqF h41]
    refine aX (m1:=.mk) (m2:=.mk) [.nf [0,4,5,6,7] []] (dY s) l42 ?_ ?_
    ·simp(config:=cS)only[go_sem,eqF h1,eZt h40,eqF h41]
    ·intro nb43 sb43 bb43 b43 gb43
     obtain ⟨n_3,i_3⟩:=sb43
     unfold du at b43
     try dsimp only at b43
     obtain ⟨h44,b43⟩|⟨h44,b43⟩:=ao b43
     ·obtain ⟨c1011,g45,b43⟩:=ak b43
      obtain ⟨h46,h47,h48⟩:=cZ g45
      obtain ⟨h49,b43⟩|⟨h49,b43⟩:=ao b43
      ·cases b43
       obtain rfl:=(aR gb43).symm
       try dsimp only at h
       cases h
       simp(config:=cS)only[go_sem,eqF h1,eZt h40,eqF h41,eqT h44,h46,h47,h48,eqT h49]
      ·cases b43
       simp(config:=cS)only[go_sem,eqF h1,eZt h40,eqF h41,eqT h44,h46,h47,h48,eqF h49]
       refine bS gb43 ?_
       simp(config:=cS)only[go_sem,eqF h1,eZt h40,eqF h41,eqT h44,h46,h47,h48,eqF h49]
     ·cases b43
      obtain rfl:=(aR gb43).symm
      try dsimp only at h
      obtain ⟨h52,h⟩|⟨h52,h⟩:=ao h
      ·cases h
       simp(config:=cS)only[go_sem,eqF h1,eZt h40,eqF h41,eqF h44,eqT h52]
      ·obtain ⟨r12,g53,h⟩:=ak h
       simp(config:=cS)only[go_sem,eqF h1,eZt h40,eqF h41,eqF h44,eqF h52]
       refine au (dN g53) ?_
       obtain ⟨h54,h⟩|⟨h54,h⟩:=ao h
       ·cases h
        simp(config:=cS)only[go_sem,eqF h1,eZt h40,eqF h41,eqF h44,eqF h52,eqT h54]
       ·cases h
        simp(config:=cS)only[go_sem,eqF h1,eZt h40,eqF h41,eqF h44,eqF h52,eqF h54]
  ·cases h
   simp(config:=cS)only[go_sem,eqF h1,eZf h40]
def dZ (c:Int)(a:List ByteArray):(Int × (List Int))→St
 | (d,b)=>⟨[(4,.ref 576 1 0 b.length),(14,.ref 896 1 0 a.length),(15,.lit (.int .i64 c)),(16,.lit (.int .i64 d))],[(576,1,.row true (ab eI b)),(896,1,.row true (ab eS a))],2⟩
attribute [go_sem] dZ
attribute [go_sem] Tryd.ntmps49 Tryd.results49
theorem eD {s:ByteArray}{res:(List Int) × Bool}(h:bD s=some res):aK Tryd.prog 49 [.lit (.string s)] [] (.tup [.ref 20000 1 0 res.1.length,.lit (.bool res.2)]) [(20000,1,.row true (ab eI res.1))]:=by
 refine aY (ra:=[.home 2]) (md:=mdT) hT (hi:=hi00) Tryd.func49 rfl rfl (by decide +kernel) (by simp) ?_
 unfold bD at h
 obtain ⟨h1,h⟩|⟨h1,h⟩:=ao h
 ·cases h
  simp(config:=cS)only[go_sem,eqT h1]
 ·obtain ⟨r01,g2,h⟩:=ak h
  simp(config:=cS)only[go_sem,eqF h1]
  refine au (gr g2) ?_
  obtain ⟨q04,l3,h⟩:=ak h
  simp(config:=cS)only[go_sem]
  refine aX (m1:=.mk) (m2:=.mk) [.nf [4,14,15,16] [576,896]] (dZ ((r01.length:Nat):Int) r01) l3 ?_ ?_
  ·simp(config:=cS)only[go_sem]
  ·intro nb4 sb4 bb4 b4 gb4
   obtain ⟨v16_1,out_1⟩:=sb4
   unfold cK at b4
   try dsimp only at b4
   obtain ⟨h5,b4⟩|⟨h5,b4⟩:=ao b4
   ·obtain ⟨x02,g6,b4⟩:=ak b4
    obtain ⟨h7,h8,h9⟩:=dn g6
    obtain ⟨r03,g10,b4⟩:=ak b4
    simp(config:=cS)only[go_sem,eqT h5,h7,h8,h9]
    refine au (gu g10) ?_
    obtain ⟨h11,b4⟩|⟨h11,b4⟩:=ao b4
    ·obtain ⟨h12,b4⟩:=aw b4
     obtain ⟨h13,b4⟩:=aw b4
     cases b4
     simp(config:=cS)only[go_sem,eZt h11,eqT h12,eqT h13]
     refine bS gb4 ?_
     simp(config:=cS)only[go_sem]
    ·cases b4
     obtain rfl:=(aR gb4).symm
     try dsimp only at h
     cases h
     simp(config:=cS)only[go_sem,eZf h11]
   ·cases b4
    obtain rfl:=(aR gb4).symm
    try dsimp only at h
    cases h
    simp(config:=cS)only[go_sem,eqF h5]
attribute [go_sem] Tryd.ntmps14 Tryd.results14
theorem jL {line:ByteArray}{res:GEntry × Bool}(h:ct line=some res):aK Tryd.prog 14 [.lit (.string line)] [] (.tup [.agg [.lit (.int .i64 res.1.now),.ref 20000 1 0 res.1.ties.length,.ref 20001 1 0 res.1.nodes.length,.ref 20002 1 0 res.1.values.length],.lit (.bool res.2)]) [(20000,1,.row true (ab eI res.1.ties)),(20001,1,.row true (ab eI res.1.nodes)),(20002,1,.row true (ab eI res.1.values))]:=by
 refine aY (ra:=[.homeCell 128 1,.homeCell 128 2,.homeCell 128 3]) (md:=mdT) hT (hi:=hi00) Tryd.func14 rfl rfl (by decide +kernel) (by simp) ?_
 unfold ct at h
 obtain ⟨r01,g1,h⟩:=ak h
 simp(config:=cS)only[go_sem]
 refine au (gr g1) ?_
 obtain ⟨h2,h⟩|⟨h2,h⟩:=ao h
 ·obtain ⟨x02,g3,h⟩:=ak h
  obtain ⟨h5,h6⟩:=dq (k:=0) g3
  obtain ⟨r03,g7,h⟩:=ak h
  simp(config:=cS)only[go_sem,eqT h2,h5,h6]
  refine au (gu g7) ?_
  obtain ⟨x04,g8,h⟩:=ak h
  obtain ⟨h10,h11⟩:=dq (k:=1) g8
  obtain ⟨r05,g12,h⟩:=ak h
  simp(config:=cS)only[go_sem,h10,h11]
  refine au (eD g12) ?_
  obtain ⟨x06,g13,h⟩:=ak h
  obtain ⟨h15,h16⟩:=dq (k:=2) g13
  obtain ⟨r07,g17,h⟩:=ak h
  simp(config:=cS)only[go_sem,h15,h16]
  refine au (eD g17) ?_
  obtain ⟨x08,g18,h⟩:=ak h
  obtain ⟨h20,h21⟩:=dq (k:=3) g18
  obtain ⟨r09,g22,h⟩:=ak h
  simp(config:=cS)only[go_sem,h20,h21]
  refine au (eD g22) ?_
  obtain ⟨h23,h⟩|⟨h23,h⟩:=ao h
  ·obtain ⟨h24,h⟩|⟨h24,h⟩:=ao h
   ·obtain ⟨h25,h⟩|⟨h25,h⟩:=ao h
    ·obtain ⟨h26,h⟩|⟨h26,h⟩:=ao h
     ·cases h
      simp(config:=cS)only[go_sem,eZt h23,eZt h24,eZt h25,eZt h26]
     ·cases h
      simp(config:=cS)only[go_sem,eZt h23,eZt h24,eZt h25,eZf h26]
    ·cases h
     simp(config:=cS)only[go_sem,eZt h23,eZt h24,eZf h25]
   ·cases h
    simp(config:=cS)only[go_sem,eZt h23,eZf h24]
  ·cases h
   simp(config:=cS)only[go_sem,eZf h23]
 ·cases h
  simp(config:=cS)only[go_sem,eqF h2]
def ea (s c:ByteArray):(Int × Int × (List ByteArray))→St
 | (a,i,b)=>⟨[(0,.lit (.string s)),(1,.lit (.string c)),(5,.ref 383 1 0 b.length),(6,.lit (.int .i64 a)),(7,.lit (.int .i64 i))],[(383,1,.row true (ab eS b))],2⟩
attribute [go_sem] ea
attribute [go_sem] Tryd.ntmps50 Tryd.results50
theorem gv {s by_:ByteArray}{res:List ByteArray}(h:cm s by_=some res):aK Tryd.prog 50 [.lit (.string s),.lit (.string by_)] [] (.ref 20000 1 0 res.length) [(20000,1,.row true (ab eS res))]:=by
 refine aY (ra:=[.home 4]) (md:=mdT) hT (hi:=hi00) Tryd.func50 rfl rfl (by decide +kernel) (by simp) ?_
 unfold cm at h
 obtain ⟨q03,l1,h⟩:=ak h
 simp(config:=cS)only[go_sem]
 refine aX (m1:=.mk) (m2:=.mk) [.home 5,.nf [0,1,5,6,7] [383]] (ea s by_) l1 ?_ ?_
 ·simp(config:=cS)only[go_sem]
 ·intro nb2 sb2 bb2 b2 gb2
  obtain ⟨from__1,i_1,out_1⟩:=sb2
  unfold cf at b2
  try dsimp only at b2
  obtain ⟨h3,b2⟩|⟨h3,b2⟩:=ao b2
  ·obtain ⟨c1001,g4,b2⟩:=ak b2
   obtain ⟨h5,h6,h7⟩:=cZ g4
   obtain ⟨r02,g8,b2⟩:=ak b2
   simp(config:=cS)only[go_sem,eqT h3,h5,h6,h7]
   refine au (iJ g8) ?_
   obtain ⟨h9,b2⟩|⟨h9,b2⟩:=ao b2
   ·obtain ⟨h10,b2⟩:=aw b2
    obtain ⟨h11,b2⟩:=aw b2
    obtain ⟨h12,b2⟩:=aw b2
    obtain ⟨h13,b2⟩:=aw b2
    obtain ⟨h14,b2⟩:=aw b2
    obtain ⟨h15,b2⟩:=aw b2
    cases b2
    simp(config:=cS)only[go_sem,eqT h9,eqT h10,eqT h11,eqT h12,eqT h13,eqT h14,eqT h15]
    refine bS gb2 ?_
    simp(config:=cS)only[go_sem]
   ·cases b2
    simp(config:=cS)only[go_sem,eqF h9]
    refine bS gb2 ?_
    simp(config:=cS)only[go_sem]
  ·cases b2
   obtain rfl:=(aR gb2).symm
   try dsimp only at h
   obtain ⟨h17,h⟩:=aw h
   obtain ⟨h18,h⟩:=aw h
   obtain ⟨h19,h⟩:=aw h
   obtain ⟨h20,h⟩:=aw h
   cases h
   simp(config:=cS)only[go_sem,eqF h3,eqT h17,eqT h18,eqT h19,eqT h20]
def eb (c:Int)(a:List ByteArray):(Int × (List Int))→St
 | (d,b)=>⟨[(4,.ref 319 1 0 b.length),(12,.ref 768 1 0 a.length),(13,.lit (.int .i64 c)),(14,.lit (.int .i64 d))],[(319,1,.row true (ab eI b)),(768,1,.row true (ab eS a))],2⟩
attribute [go_sem] eb
attribute [go_sem] Tryd.ntmps52 Tryd.results52
theorem eE {s:ByteArray}{res:(List Int) × Bool}(h:bE s=some res):aK Tryd.prog 52 [.lit (.string s)] [] (.tup [.ref 20000 1 0 res.1.length,.lit (.bool res.2)]) [(20000,1,.row true (ab eI res.1))]:=by
 refine aY (ra:=[.home 2]) (md:=mdT) hT (hi:=hi00) Tryd.func52 rfl rfl (by decide +kernel) (by simp) ?_
 unfold bE at h
 obtain ⟨h1,h⟩|⟨h1,h⟩:=ao h
 ·cases h
  simp(config:=cS)only[go_sem,eqT h1]
 ·obtain ⟨r01,g2,h⟩:=ak h
  simp(config:=cS)only[go_sem,eqF h1]
  refine au (gv g2) ?_
  obtain ⟨q04,l3,h⟩:=ak h
  simp(config:=cS)only[go_sem]
  refine aX (m1:=.mk) (m2:=.mk) [.home 4,.nf [4,12,13,14] [319,768]] (eb ((r01.length:Nat):Int) r01) l3 ?_ ?_
  ·simp(config:=cS)only[go_sem]
  ·intro nb4 sb4 bb4 b4 gb4
   obtain ⟨v14_1,out_1⟩:=sb4
   unfold cL at b4
   try dsimp only at b4
   obtain ⟨h5,b4⟩|⟨h5,b4⟩:=ao b4
   ·obtain ⟨x02,g6,b4⟩:=ak b4
    obtain ⟨h7,h8,h9⟩:=dn g6
    obtain ⟨r03,g10,b4⟩:=ak b4
    simp(config:=cS)only[go_sem,eqT h5,h7,h8,h9]
    refine au (gz g10) ?_
    obtain ⟨h11,b4⟩|⟨h11,b4⟩:=ao b4
    ·obtain ⟨h12,b4⟩:=aw b4
     obtain ⟨h13,b4⟩:=aw b4
     cases b4
     simp(config:=cS)only[go_sem,eZt h11,eqT h12,eqT h13]
     refine bS gb4 ?_
     simp(config:=cS)only[go_sem]
    ·cases b4
     obtain rfl:=(aR gb4).symm
     try dsimp only at h
     cases h
     simp(config:=cS)only[go_sem,eZf h11]
   ·cases b4
    obtain rfl:=(aR gb4).symm
    try dsimp only at h
    cases h
    simp(config:=cS)only[go_sem,eqF h5]
attribute [go_sem] Tryd.ntmps15 Tryd.results15
theorem fB {line:ByteArray}{res:GEntry × Bool}(h:bI line=some res):aK Tryd.prog 15 [.lit (.string line)] [] (.tup [.agg [.lit (.int .i64 res.1.now),.ref 20000 1 0 res.1.ties.length,.ref 20001 1 0 res.1.nodes.length,.ref 20002 1 0 res.1.values.length],.lit (.bool res.2)]) [(20000,1,.row true (ab eI res.1.ties)),(20001,1,.row true (ab eI res.1.nodes)),(20002,1,.row true (ab eI res.1.values))]:=by
 refine aY (ra:=[.homeCell 128 1,.homeCell 128 2,.homeCell 128 3]) (md:=mdT) hT (hi:=hi00) Tryd.func15 rfl rfl (by decide +kernel) (by simp) ?_
 unfold bI at h
 obtain ⟨r01,g1,h⟩:=ak h
 simp(config:=cS)only[go_sem]
 refine au (gv g1) ?_
 obtain ⟨h2,h⟩|⟨h2,h⟩:=ao h
 ·obtain ⟨x02,g3,h⟩:=ak h
  obtain ⟨h5,h6⟩:=dq (k:=0) g3
  obtain ⟨r03,g7,h⟩:=ak h
  simp(config:=cS)only[go_sem,eqT h2,h5,h6]
  refine au (gz g7) ?_
  obtain ⟨x04,g8,h⟩:=ak h
  obtain ⟨h10,h11⟩:=dq (k:=1) g8
  obtain ⟨r05,g12,h⟩:=ak h
  simp(config:=cS)only[go_sem,h10,h11]
  refine au (eE g12) ?_
  obtain ⟨x06,g13,h⟩:=ak h
  obtain ⟨h15,h16⟩:=dq (k:=2) g13
  obtain ⟨r07,g17,h⟩:=ak h
  simp(config:=cS)only[go_sem,h15,h16]
  refine au (eE g17) ?_
  obtain ⟨x08,g18,h⟩:=ak h
  obtain ⟨h20,h21⟩:=dq (k:=3) g18
  obtain ⟨r09,g22,h⟩:=ak h
  simp(config:=cS)only[go_sem,h20,h21]
  refine au (eE g22) ?_
  obtain ⟨h23,h⟩|⟨h23,h⟩:=ao h
  ·obtain ⟨h24,h⟩|⟨h24,h⟩:=ao h
   ·obtain ⟨h25,h⟩|⟨h25,h⟩:=ao h
    ·obtain ⟨h26,h⟩|⟨h26,h⟩:=ao h
     ·cases h
      simp(config:=cS)only[go_sem,eZt h23,eZt h24,eZt h25,eZt h26]
     ·cases h
      simp(config:=cS)only[go_sem,eZt h23,eZt h24,eZt h25,eZf h26]
    ·cases h
     simp(config:=cS)only[go_sem,eZt h23,eZt h24,eZf h25]
   ·cases h
    simp(config:=cS)only[go_sem,eZt h23,eZf h24]
  ·cases h
   simp(config:=cS)only[go_sem,eZf h23]
 ·cases h
  simp(config:=cS)only[go_sem,eqF h2]
def ec (b:Bool)  : (Int × Int × (List Int))→St
 | (k,i,a)=>⟨[(0,.ref 10000 0 0 a.length),(1,.lit (.int .i64 k)),(5,.lit (.int .i64 i))],[(10000,0,.row b (ab eI a))],2⟩
attribute [go_sem] ec
attribute [go_sem] Tryd.ntmps53 Tryd.results53
theorem eF {a:List Int}{k:Int}{zb0:Bool}{res:Int × (List Int)}(h:bF a k=some res):aK Tryd.prog 53 [.ref 10000 0 0 a.length,.lit (.int .i64 k)] [(10000,0,.row zb0 (ab eI a))] (.lit (.int .i64 res.1)) [(10000,0,.row zb0 (ab eI res.2))]:=by
 refine aY (ra:=[]) (md:=mdT) hT (hi:=hi00) Tryd.func53 rfl rfl (by decide +kernel) (by simp) ?_
 unfold bF at h
 obtain ⟨q02,l1,h⟩:=ak h
 simp(config:=cS)only[go_sem]
 refine aX (m1:=.mk) (m2:=.mk) [.nf [0,1,5] [10000]] (ec zb0) l1 ?_ ?_
 ·simp(config:=cS)only[go_sem]
 ·intro nb2 sb2 bb2 b2 gb2
  obtain ⟨k_1,i_1,a_1⟩:=sb2
  unfold cg at b2
  try dsimp only at b2
  obtain ⟨h3,b2⟩|⟨h3,b2⟩:=ao b2
  ·obtain ⟨x01,g4,b2⟩:=ak b2
   obtain ⟨h5,h6,h7⟩:=dn g4
   cases b2
   simp(config:=cS)only[go_sem,eqT h3,h5,h6,h7]
   refine bS gb2 ?_
   simp(config:=cS)only[go_sem]
  ·cases b2
   obtain rfl:=(aR gb2).symm
   try dsimp only at h
   cases h
   simp(config:=cS)only[go_sem,eqF h3]
attribute [go_sem] Tryd.ntmps16 Tryd.results16
theorem kG {a:GEntry}{k:Int}{zb0 zb1 zb2:Bool}{res:Int × (List Int) × (List Int) × (List Int)}(h:cD a k=some res):aK Tryd.prog 16 [.agg [.lit (.int .i64 a.now),.ref 10000 0 0 a.ties.length,.ref 10001 0 0 a.nodes.length,.ref 10002 0 0 a.values.length],.lit (.int .i64 k)] [(10000,0,.row zb0 (ab eI a.ties)),(10001,0,.row zb1 (ab eI a.nodes)),(10002,0,.row zb2 (ab eI a.values))] (.lit (.int .i64 res.1)) [(10000,0,.row zb0 (ab eI res.2.1)),(10001,0,.row zb1 (ab eI res.2.2.1)),(10002,0,.row zb2 (ab eI res.2.2.2))]:=by
 refine aY (ra:=[]) (md:=mdT) hT (hi:=hi00) Tryd.func16 rfl rfl (by decide +kernel) (by simp) ?_
 unfold cD at h
 obtain ⟨r01,g1,h⟩:=ak h
 simp(config:=cS)only[go_sem]
 refine au (eF g1) ?_
 obtain ⟨r02,g2,h⟩:=ak h
 simp(config:=cS)only[go_sem]
 refine au (eF g2) ?_
 obtain ⟨r03,g3,h⟩:=ak h
 simp(config:=cS)only[go_sem]
 refine au (eF g3) ?_
 cases h
 simp(config:=cS)only[go_sem]
def ed (a:List Int):(Int × Int)→St
 | (k,i)=>⟨[(0,.sl (ab eI a)),(1,.lit (.int .i64 k)),(5,.lit (.int .i64 i))],[],2⟩
attribute [go_sem] ed
attribute [go_sem] Tryd.ntmps54 Tryd.results54
theorem eG {a:List Int}{k res:Int}(h:bG a k=some res):aK Tryd.prog 54 [.sl (ab eI a),.lit (.int .i64 k)] [] (.lit (.int .i64 res)) []:=by
 refine aY (ra:=[]) (md:=mdT) hT (hi:=hi00) Tryd.func54 rfl rfl (by decide +kernel) (by simp) ?_
 unfold bG at h
 obtain ⟨q02,l1,h⟩:=ak h
 simp(config:=cS)only[go_sem]
 refine aX (m1:=.mk) (m2:=.mk) [.nf [0,1,5] []] (ed a) l1 ?_ ?_
 ·simp(config:=cS)only[go_sem]
 ·intro nb2 sb2 bb2 b2 gb2
  obtain ⟨k_1,i_1⟩:=sb2
  unfold ch at b2
  try dsimp only at b2
  obtain ⟨h3,b2⟩|⟨h3,b2⟩:=ao b2
  ·obtain ⟨x01,g4,b2⟩:=ak b2
   obtain ⟨h5,h6,h7⟩:=dn g4
   obtain ⟨h8,b2⟩|⟨h8,b2⟩:=ao b2
   ·cases b2
    simp(config:=cS)only[go_sem,eqT h3,h5,h6,h7,eqT h8]
    refine bS gb2 ?_
    simp(config:=cS)only[go_sem]
   ·cases b2
    obtain rfl:=(aR gb2).symm
    try dsimp only at h
    cases h
    simp(config:=cS)only[go_sem,eqT h3,h5,h6,h7,eqF h8]
  ·cases b2
   obtain rfl:=(aR gb2).symm
   try dsimp only at h
   cases h
   simp(config:=cS)only[go_sem,eqF h3]
attribute [go_sem] Tryd.ntmps17 Tryd.results17
theorem fZ {a:GEntry}{k res:Int}(h:bV a k=some res):aK Tryd.prog 17 [.agg (GEntry.encS a),.lit (.int .i64 k)] [] (.lit (.int .i64 res)) []:=by
 refine aY (ra:=[]) (md:=mdT) hT (hi:=hi00) Tryd.func17 rfl rfl (by decide +kernel) (by simp) ?_
 unfold bV at h
 obtain ⟨r01,g1,h⟩:=ak h
 simp(config:=cS)only[go_sem]
 refine au (eG g1) ?_
 obtain ⟨h2,h⟩|⟨h2,h⟩:=ao h
 ·cases h
  simp(config:=cS)only[go_sem,eqT h2]
 ·obtain ⟨r02,g3,h⟩:=ak h
  simp(config:=cS)only[go_sem,eqF h2]
  refine au (eG g3) ?_
  obtain ⟨h4,h⟩|⟨h4,h⟩:=ao h
  ·cases h
   simp(config:=cS)only[go_sem,eqT h4]
  ·obtain ⟨r03,g5,h⟩:=ak h
   simp(config:=cS)only[go_sem,eqF h4]
   refine au (eG g5) ?_
   obtain ⟨h6,h⟩|⟨h6,h⟩:=ao h
   ·cases h
    simp(config:=cS)only[go_sem,eqT h6]
   ·cases h
    simp(config:=cS)only[go_sem,eqF h6]
attribute [go_sem] Tryd.ntmps4 Tryd.results4
theorem ga {aLine:ByteArray}{res:Bool}(h:bH aLine=some res):aK Tryd.prog 4 [.lit (.string aLine)] [] (.lit (.bool res)) []:=by
 refine aY (ra:=[]) (md:=mdT) hT (hi:=hi00) Tryd.func4 rfl rfl (by decide +kernel) (by simp) ?_
 unfold bH at h
 obtain ⟨h1,h⟩|⟨h1,h⟩:=ao h
 ·cases h
  simp(config:=cS)only[go_sem,eqT h1]
 ·obtain ⟨r01,g2,h⟩:=ak h
  simp(config:=cS)only[go_sem,eqF h1]
  refine au (jL g2) ?_
  obtain ⟨r02,g3,h⟩:=ak h
  simp(config:=cS)only[go_sem,eqF h1]
  refine au (fB g3) ?_
  obtain ⟨r03,g4,h⟩:=ak h
  simp(config:=cS)only[go_sem,eqF h1]
  refine au (gT g4) ?_
  obtain ⟨h5,h⟩|⟨h5,h⟩:=ao h
  ·obtain ⟨h6,h⟩|⟨h6,h⟩:=ao h
   ·obtain ⟨r04,g7,h⟩:=ak h
    simp(config:=cS)only[go_sem,eqF h1,eZt h5,eqT h6]
    refine au (kG g7) ?_
    obtain ⟨h8,h⟩:=aw h
    obtain ⟨h9,h⟩:=aw h
    obtain ⟨h10,h⟩:=aw h
    obtain ⟨r05,g11,h⟩:=ak h
    simp(config:=cS)only[go_sem,eqF h1,eZt h5,eqT h6,eqT h8,eqT h9,eqT h10]
    refine au (fZ g11) ?_
    obtain ⟨h12,h⟩|⟨h12,h⟩:=ao h
    ·cases h
     simp(config:=cS)only[go_sem,eqF h1,eZt h5,eqT h6,eqT h8,eqT h9,eqT h10,eqT h12]
    ·obtain ⟨h13,h⟩|⟨h13,h⟩:=ao h
     ·obtain ⟨r06,g14,h⟩:=ak h
      simp(config:=cS)only[go_sem,eqF h1,eZt h5,eqT h6,eqT h8,eqT h9,eqT h10,eqF h12,eqT h13]
      refine au (fB g14) ?_
      obtain ⟨r07,g15,h⟩:=ak h
      simp(config:=cS)only[go_sem,eqF h1,eZt h5,eqT h6,eqT h8,eqT h9,eqT h10,eqF h12,eqT h13]
      refine au (gT g15) ?_
      obtain ⟨h16,h⟩|⟨h16,h⟩:=ao h
      ·obtain ⟨h17,h⟩|⟨h17,h⟩:=ao h
       ·obtain ⟨r08,g18,h⟩:=ak h
        simp(config:=cS)only[go_sem,eqF h1,eZt h5,eqT h6,eqT h8,eqT h9,eqT h10,eqF h12,eqT h13,eZt h16,eqT h17]
        refine au (fZ g18) ?_
        obtain ⟨h19,h⟩|⟨h19,h⟩:=ao h
        ·cases h
         simp(config:=cS)only[go_sem,eqF h1,eZt h5,eqT h6,eqT h8,eqT h9,eqT h10,eqF h12,eqT h13,eZt h16,eqT h17,eqT h19]
        ·obtain ⟨h20,h⟩|⟨h20,h⟩:=ao h
         ·cases h
          simp(config:=cS)only[go_sem,eqF h1,eZt h5,eqT h6,eqT h8,eqT h9,eqT h10,eqF h12,eqT h13,eZt h16,eqT h17,eqF h19,eqT h20]
         ·cases h
          simp(config:=cS)only[go_sem,eqF h1,eZt h5,eqT h6,eqT h8,eqT h9,eqT h10,eqF h12,eqT h13,eZt h16,eqT h17,eqF h19,eqF h20]
       ·cases h
        simp(config:=cS)only[go_sem,eqF h1,eZt h5,eqT h6,eqT h8,eqT h9,eqT h10,eqF h12,eqT h13,eZt h16,eqF h17]
      ·cases h
       simp(config:=cS)only[go_sem,eqF h1,eZt h5,eqT h6,eqT h8,eqT h9,eqT h10,eqF h12,eqT h13,eZf h16]
     ·cases h
      simp(config:=cS)only[go_sem,eqF h1,eZt h5,eqT h6,eqT h8,eqT h9,eqT h10,eqF h12,eqF h13]
   ·cases h
    simp(config:=cS)only[go_sem,eqF h1,eZt h5,eqF h6]
  ·cases h
   simp(config:=cS)only[go_sem,eqF h1,eZf h5]
end Go.Proofs.Qc
