/- Functions. -/
import Derived.Test.YtjbpfglekblgbaaDoorZeFK0
set_option linter.all false
set_option maxRecDepth 100000
set_option maxHeartbeats 4000000
namespace Go.Proofs.Qe
open Go
def ex (s c:ByteArray)(a i:Int)(b:List ByteArray)(k:Int):St:=⟨[(0,.lit (.string s)),(1,.lit (.string c)),(5,.ref 576 1 0 b.length),(6,.lit (.int .i64 a)),(7,.lit (.int .i64 i)),(8,.lit (.int .i64 k))],[(576,1,.row true (ab eS b))],2⟩
attribute [go_sem] ex
def ey (s c:ByteArray):(Int × Int × (List ByteArray))→St
 | (a,i,b)=>⟨[(0,.lit (.string s)),(1,.lit (.string c)),(5,.ref 576 1 0 b.length),(6,.lit (.int .i64 a)),(7,.lit (.int .i64 i))],[(576,1,.row true (ab eS b))],2⟩
attribute [go_sem] ey
@[go_sem] def hi47_9:DT:=.i2 0 (.i2 1 (.i2 2 (.i2 3 (.i2 4 (.i2 5 (.i2 6 .nil))))))
def hi47:Hint where
 acts:=fun _=>[]
 draws:=fun
  | 9=>⟨hi47_9,[[],[],[0,1],[],[],[3,4],.range 6],.range 7⟩
  | _=>⟨.nil,[],[]⟩
theorem xg (i:Nat):hi47.acts i=[]:=rfl
theorem xh (i:Nat):hi47.views i=none:=rfl
attribute [go_sem] xg xh Tryd.ntmps47 Tryd.results47
@[go_sem] theorem xD:(hi47.draws 9).order=hi47_9:=rfl
theorem fe {s by_:ByteArray}{res:List ByteArray}(h:bL s by_=some res):aI Tryd.prog 47 [.lit (.string s),.lit (.string by_)] [] (.ref 20000 1 0 res.length) [(20000,1,.row true (ab eS res))]:=by
 refine aR (ra:=[.home 4]) (md:=mdT) hT (hi:=hi47) Tryd.func47 rfl rfl (by decide +kernel) (by simp) ?_
 unfold bL at h
 obtain ⟨q04,l1,h⟩:=ag h
 simp(config:=cS)only[go_sem]
 refine aJ (m1:=.mk) (m2:=.mk) [.nf [0,1,5,6,7] [576]] (ey s by_) l1 ?_ ?_
 ·simp(config:=cS)only[go_sem]
 ·intro nb2 sb2 bb2 b2 gb2
  obtain ⟨from__1,i_1,out_1⟩:=sb2
  unfold cm at b2
  try dsimp only at b2
  obtain ⟨h3,b2⟩|⟨h3,b2⟩:=al b2
  ·obtain ⟨q03,l4,b2⟩:=ag b2
   simp(config:=cS)only[go_sem,eqT h3]
   refine aJ (m1:=.mk) (m2:=.mk) [.nf [0,1,5,6,7,8] [576]] (ex s by_ from__1 i_1 out_1) l4 ?_ ?_
   ·simp(config:=cS)only[go_sem]
   ·intro nb5 k_2 bb5 b5 gb5
    unfold bh at b5
    try dsimp only at b5
    obtain ⟨h6,b5⟩|⟨h6,b5⟩:=al b5
    ·obtain ⟨c1001,g7,b5⟩:=ag b5
     obtain ⟨h8,h9,h10⟩:=dl g7
     obtain ⟨c1002,g11,b5⟩:=ag b5
     obtain ⟨h12,h13,h14⟩:=dl g11
     obtain ⟨h15,b5⟩|⟨h15,b5⟩:=al b5
     ·obtain ⟨h16,b5⟩:=aw b5
      obtain ⟨h17,b5⟩:=aw b5
      obtain ⟨h18,b5⟩:=aw b5
      obtain ⟨h19,b5⟩:=aw b5
      obtain ⟨h20,b5⟩:=aw b5
      obtain ⟨h21,b5⟩:=aw b5
      cases b5
      obtain rfl:=(az gb5).symm
      try dsimp only at b2
      cases b2
      simp(config:=cS)only[go_sem,eqT h6,h8,h9,h10,h12,h13,h14,eqT h15,eqT h16,eqT h17,eqT h18,eqT h19,eqT h20,eqT h21]
      refine bc gb2 ?_
      simp(config:=cS)only[go_sem]
     ·cases b5
      simp(config:=cS)only[go_sem,eqT h6,h8,h9,h10,h12,h13,h14,eqF h15]
      refine bc gb5 ?_
      simp(config:=cS)only[go_sem]
    ·cases b5
     obtain rfl:=(az gb5).symm
     try dsimp only at b2
     cases b2
     simp(config:=cS)only[go_sem,eqF h6]
     refine bc gb2 ?_
     simp(config:=cS)only[go_sem]
  ·cases b2
   obtain rfl:=(az gb2).symm
   try dsimp only at h
   obtain ⟨h25,h⟩:=aw h
   obtain ⟨h26,h⟩:=aw h
   obtain ⟨h27,h⟩:=aw h
   obtain ⟨h28,h⟩:=aw h
   cases h
   simp(config:=cS)only[go_sem,eqF h3,eqT h25,eqT h26,eqT h27,eqT h28]
def ez (s:ByteArray)(i:Int):St:=⟨[(0,.lit (.string s)),(3,.lit (.int .i64 i))],[],2⟩
attribute [go_sem] ez
attribute [go_sem] Tryd.ntmps79 Tryd.results79
theorem ff {s:ByteArray}{res:Bool}(h:bu s=some res):aI Tryd.prog 79 [.lit (.string s)] [] (.lit (.bool res)) []:=by
 refine aR (ra:=[]) (md:=mdT) hT (hi:=hi00) Tryd.func79 rfl rfl (by decide +kernel) (by simp) ?_
 unfold bu at h
 obtain ⟨q02,l1,h⟩:=ag h
 simp(config:=cS)only[go_sem]
 refine aJ (m1:=.mk) (m2:=.mk) [.nf [0,3] []] (ez s) l1 ?_ ?_
 ·simp(config:=cS)only[go_sem]
 ·intro nb2 i_1 bb2 b2 gb2
  unfold bi at b2
  try dsimp only at b2
  obtain ⟨h3,b2⟩|⟨h3,b2⟩:=al b2
  ·obtain ⟨c1001,g4,b2⟩:=ag b2
   obtain ⟨h5,h6,h7⟩:=dl g4
   obtain ⟨h8,b2⟩|⟨h8,b2⟩:=al b2
   ·cases b2
    obtain rfl:=(az gb2).symm
    try dsimp only at h
    cases h
    simp(config:=cS)only[go_sem,eqT h3,h5,h6,h7,eqT h8]
   ·obtain ⟨h10,b2⟩|⟨h10,b2⟩:=al b2
    ·cases b2
     obtain rfl:=(az gb2).symm
     try dsimp only at h
     cases h
     simp(config:=cS)only[go_sem,eqT h3,h5,h6,h7,eqF h8,eqT h10]
    ·cases b2
     simp(config:=cS)only[go_sem,eqT h3,h5,h6,h7,eqF h8,eqF h10]
     refine bc gb2 ?_
     simp(config:=cS)only[go_sem]
  ·cases b2
   obtain rfl:=(az gb2).symm
   try dsimp only at h
   cases h
   simp(config:=cS)only[go_sem,eqF h3]
def df (s:ByteArray)(a:Bool)(t:ByteArray):(Int × Int)→St
 | (n,i)=>⟨[(0,.lit (.string s)),(4,.lit (.bool a)),(5,.lit (.string t)),(6,.lit (.int .i64 n)),(7,.lit (.int .i64 i))],[],2⟩
attribute [go_sem] df
def eA (s:ByteArray):(Int × Int)→St
 | (n,i)=>⟨[(0,.lit (.string s)),(4,.lit (.bool false)),(5,.lit (.string s)),(6,.lit (.int .i64 n)),(7,.lit (.int .i64 i))],[],2⟩
attribute [go_sem] eA
attribute [go_sem] Tryd.ntmps48 Tryd.results48
theorem gS {s:ByteArray}{res:Int × Bool}(h:cu s=some res):aI Tryd.prog 48 [.lit (.string s)] [] (.tup [.lit (.int .i64 res.1),.lit (.bool res.2)]) []:=by
 refine aR (ra:=[]) (md:=mdT) hT (hi:=hi00) Tryd.func48 rfl rfl (by decide +kernel) (by simp) ?_
 unfold cu at h
 obtain ⟨h1,h⟩|⟨h1,h⟩:=al h
 ·obtain ⟨c1001,g2,h⟩:=ag h
  obtain ⟨h4,h5⟩:=tx (k:=0) g2
  obtain ⟨h6,h⟩|⟨h6,h⟩:=al h
  ·obtain ⟨h7,h⟩:=aw h
   obtain ⟨r02,g8,h⟩:=ag h
   simp(config:=cS)only[go_sem,eqT h1,h4,h5,eqT h6,eqT h7]
   refine ar (ff g8) ?_
   obtain ⟨h9,h⟩|⟨h9,h⟩:=al h
   ·obtain ⟨h10,h⟩|⟨h10,h⟩:=al h
    ·cases h
     simp(config:=cS)only[go_sem,eqT h1,h4,h5,eqT h6,eqT h7,eZt h9,eqT h10]
    ·obtain ⟨q05,l11,h⟩:=ag h
     simp(config:=cS)only[go_sem,eqT h1,h4,h5,eqT h6,eqT h7,eZt h9,eqF h10]
     refine aJ (m1:=.mk) (m2:=.mk) [.nf [0,4,5,6,7] []] (df s (decide (((c1001.toNat:Nat):Int)=45)) (s.extract 1 s.size)) l11 ?_ ?_
     ·simp(config:=cS)only[go_sem,eqT h1,h4,h5,eqT h6,eqT h7,eZt h9,eqF h10]
     ·intro nb12 sb12 bb12 b12 gb12
      obtain ⟨n_1,i_1⟩:=sb12
      unfold bC at b12
      try dsimp only at b12
      obtain ⟨h13,b12⟩|⟨h13,b12⟩:=al b12
      ·obtain ⟨c1003,g14,b12⟩:=ag b12
       obtain ⟨h15,h16,h17⟩:=dl g14
       obtain ⟨h18,b12⟩|⟨h18,b12⟩:=al b12
       ·cases b12
        obtain rfl:=(az gb12).symm
        try dsimp only at h
        cases h
        simp(config:=cS)only[go_sem,eqT h1,h4,h5,eqT h6,eqT h7,eZt h9,eqF h10,eqT h13,h15,h16,h17,eqT h18]
       ·cases b12
        simp(config:=cS)only[go_sem,eqT h1,h4,h5,eqT h6,eqT h7,eZt h9,eqF h10,eqT h13,h15,h16,h17,eqF h18]
        refine bc gb12 ?_
        simp(config:=cS)only[go_sem,eqT h1,h4,h5,eqT h6,eqT h7,eZt h9,eqF h10,eqT h13,h15,h16,h17,eqF h18]
      ·cases b12
       obtain rfl:=(az gb12).symm
       try dsimp only at h
       obtain ⟨r04,g21,h⟩:=ag h
       simp(config:=cS)only[go_sem,eqT h1,h4,h5,eqT h6,eqT h7,eZt h9,eqF h10,eqF h13]
       refine ar (ek g21) ?_
       obtain ⟨h22,h⟩|⟨h22,h⟩:=al h
       ·cases h
        simp(config:=cS)only[go_sem,eqT h1,h4,h5,eqT h6,eqT h7,eZt h9,eqF h10,eqF h13,eqT h22]
       ·cases h
        simp(config:=cS)only[go_sem,eqT h1,h4,h5,eqT h6,eqT h7,eZt h9,eqF h10,eqF h13,eqF h22]
   ·cases h
    simp(config:=cS)only[go_sem,eqT h1,h4,h5,eqT h6,eqT h7,eZf h9]
  ·obtain ⟨r06,g23,h⟩:=ag h
   simp(config:=cS)only[go_sem,eqT h1,h4,h5,eqF h6]
   refine ar (ff g23) ?_
   obtain ⟨h24,h⟩|⟨h24,h⟩:=al h
   ·obtain ⟨h25,h⟩|⟨h25,h⟩:=al h
    ·cases h
     simp(config:=cS)only[go_sem,eqT h1,h4,h5,eqF h6,eZt h24,eqT h25]
    ·obtain ⟨q09,l26,h⟩:=ag h
     simp(config:=cS)only[go_sem,eqT h1,h4,h5,eqF h6,eZt h24,eqF h25]
     refine aJ (m1:=.mk) (m2:=.mk) [.nf [0,4,5,6,7] []] (df s (decide (((c1001.toNat:Nat):Int)=45)) s) l26 ?_ ?_
     ·simp(config:=cS)only[go_sem,eqT h1,h4,h5,eqF h6,eZt h24,eqF h25]
     ·intro nb27 sb27 bb27 b27 gb27
      obtain ⟨n_2,i_2⟩:=sb27
      unfold bC at b27
      try dsimp only at b27
      obtain ⟨h28,b27⟩|⟨h28,b27⟩:=al b27
      ·obtain ⟨c1007,g29,b27⟩:=ag b27
       obtain ⟨h30,h31,h32⟩:=dl g29
       obtain ⟨h33,b27⟩|⟨h33,b27⟩:=al b27
       ·cases b27
        obtain rfl:=(az gb27).symm
        try dsimp only at h
        cases h
        simp(config:=cS)only[go_sem,eqT h1,h4,h5,eqF h6,eZt h24,eqF h25,eqT h28,h30,h31,h32,eqT h33]
       ·cases b27
        simp(config:=cS)only[go_sem,eqT h1,h4,h5,eqF h6,eZt h24,eqF h25,eqT h28,h30,h31,h32,eqF h33]
        refine bc gb27 ?_
        simp(config:=cS)only[go_sem,eqT h1,h4,h5,eqF h6,eZt h24,eqF h25,eqT h28,h30,h31,h32,eqF h33]
      ·cases b27
       obtain rfl:=(az gb27).symm
       try dsimp only at h
       obtain ⟨h36,h⟩|⟨h36,h⟩:=al h
       ·cases h
        simp(config:=cS)only[go_sem,eqT h1,h4,h5,eqF h6,eZt h24,eqF h25,eqF h28,eqT h36]
       ·obtain ⟨r08,g37,h⟩:=ag h
        simp(config:=cS)only[go_sem,eqT h1,h4,h5,eqF h6,eZt h24,eqF h25,eqF h28,eqF h36]
        refine ar (ek g37) ?_
        obtain ⟨h38,h⟩|⟨h38,h⟩:=al h
        ·cases h
         simp(config:=cS)only[go_sem,eqT h1,h4,h5,eqF h6,eZt h24,eqF h25,eqF h28,eqF h36,eqT h38]
        ·cases h
         simp(config:=cS)only[go_sem,eqT h1,h4,h5,eqF h6,eZt h24,eqF h25,eqF h28,eqF h36,eqF h38]
   ·cases h
    simp(config:=cS)only[go_sem,eqT h1,h4,h5,eqF h6,eZf h24]
 ·obtain ⟨r10,g39,h⟩:=ag h
  simp(config:=cS)only[go_sem,eqF h1]
  refine ar (ff g39) ?_
  obtain ⟨h40,h⟩|⟨h40,h⟩:=al h
  ·obtain ⟨h41,h⟩|⟨h41,h⟩:=al h
   ·cases h
    simp(config:=cS)only[go_sem,eqF h1,eZt h40,eqT h41]
   ·obtain ⟨q13,l42,h⟩:=ag h
    simp(config:=cS)only[go_sem,eqF h1,eZt h40,eqF h41]
    refine aJ (m1:=.mk) (m2:=.mk) [.nf [0,4,5,6,7] []] (eA s) l42 ?_ ?_
    ·simp(config:=cS)only[go_sem,eqF h1,eZt h40,eqF h41]
    ·intro nb43 sb43 bb43 b43 gb43
     obtain ⟨n_3,i_3⟩:=sb43
     unfold dJ at b43
     try dsimp only at b43
     obtain ⟨h44,b43⟩|⟨h44,b43⟩:=al b43
     ·obtain ⟨c1011,g45,b43⟩:=ag b43
      obtain ⟨h46,h47,h48⟩:=dl g45
      obtain ⟨h49,b43⟩|⟨h49,b43⟩:=al b43
      ·cases b43
       obtain rfl:=(az gb43).symm
       try dsimp only at h
       cases h
       simp(config:=cS)only[go_sem,eqF h1,eZt h40,eqF h41,eqT h44,h46,h47,h48,eqT h49]
      ·cases b43
       simp(config:=cS)only[go_sem,eqF h1,eZt h40,eqF h41,eqT h44,h46,h47,h48,eqF h49]
       refine bc gb43 ?_
       simp(config:=cS)only[go_sem,eqF h1,eZt h40,eqF h41,eqT h44,h46,h47,h48,eqF h49]
     ·cases b43
      obtain rfl:=(az gb43).symm
      try dsimp only at h
      obtain ⟨h52,h⟩|⟨h52,h⟩:=al h
      ·cases h
       simp(config:=cS)only[go_sem,eqF h1,eZt h40,eqF h41,eqF h44,eqT h52]
      ·obtain ⟨r12,g53,h⟩:=ag h
       simp(config:=cS)only[go_sem,eqF h1,eZt h40,eqF h41,eqF h44,eqF h52]
       refine ar (ek g53) ?_
       obtain ⟨h54,h⟩|⟨h54,h⟩:=al h
       ·cases h
        simp(config:=cS)only[go_sem,eqF h1,eZt h40,eqF h41,eqF h44,eqF h52,eqT h54]
       ·cases h
        simp(config:=cS)only[go_sem,eqF h1,eZt h40,eqF h41,eqF h44,eqF h52,eqF h54]
  ·cases h
   simp(config:=cS)only[go_sem,eqF h1,eZf h40]
def eC (c:Int)(a:List ByteArray):(Int × (List Int))→St
 | (d,b)=>⟨[(4,.ref 576 1 0 b.length),(14,.ref 896 1 0 a.length),(15,.lit (.int .i64 c)),(16,.lit (.int .i64 d))],[(576,1,.row true (ab eI b)),(896,1,.row true (ab eS a))],2⟩
attribute [go_sem] eC
attribute [go_sem] Tryd.ntmps49 Tryd.results49
theorem fg {s:ByteArray}{res:(List Int) × Bool}(h:bM s=some res):aI Tryd.prog 49 [.lit (.string s)] [] (.tup [.ref 20000 1 0 res.1.length,.lit (.bool res.2)]) [(20000,1,.row true (ab eI res.1))]:=by
 refine aR (ra:=[.home 2]) (md:=mdT) hT (hi:=hi00) Tryd.func49 rfl rfl (by decide +kernel) (by simp) ?_
 unfold bM at h
 obtain ⟨h1,h⟩|⟨h1,h⟩:=al h
 ·cases h
  simp(config:=cS)only[go_sem,eqT h1]
 ·obtain ⟨r01,g2,h⟩:=ag h
  simp(config:=cS)only[go_sem,eqF h1]
  refine ar (fe g2) ?_
  obtain ⟨q04,l3,h⟩:=ag h
  simp(config:=cS)only[go_sem]
  refine aJ (m1:=.mk) (m2:=.mk) [.nf [4,14,15,16] [576,896]] (eC ((r01.length:Nat):Int) r01) l3 ?_ ?_
  ·simp(config:=cS)only[go_sem]
  ·intro nb4 sb4 bb4 b4 gb4
   obtain ⟨v16_1,out_1⟩:=sb4
   unfold cU at b4
   try dsimp only at b4
   obtain ⟨h5,b4⟩|⟨h5,b4⟩:=al b4
   ·obtain ⟨x02,g6,b4⟩:=ag b4
    obtain ⟨h7,h8,h9⟩:=bf g6
    obtain ⟨r03,g10,b4⟩:=ag b4
    simp(config:=cS)only[go_sem,eqT h5,h7,h8,h9]
    refine ar (gS g10) ?_
    obtain ⟨h11,b4⟩|⟨h11,b4⟩:=al b4
    ·obtain ⟨h12,b4⟩:=aw b4
     obtain ⟨h13,b4⟩:=aw b4
     cases b4
     simp(config:=cS)only[go_sem,eZt h11,eqT h12,eqT h13]
     refine bc gb4 ?_
     simp(config:=cS)only[go_sem]
    ·cases b4
     obtain rfl:=(az gb4).symm
     try dsimp only at h
     cases h
     simp(config:=cS)only[go_sem,eZf h11]
   ·cases b4
    obtain rfl:=(az gb4).symm
    try dsimp only at h
    cases h
    simp(config:=cS)only[go_sem,eqF h5]
attribute [go_sem] Tryd.ntmps14 Tryd.results14
theorem kj {line:ByteArray}{res:GEntry × Bool}(h:cD line=some res):aI Tryd.prog 14 [.lit (.string line)] [] (.tup [.agg [.lit (.int .i64 res.1.now),.ref 20000 1 0 res.1.ties.length,.ref 20001 1 0 res.1.nodes.length,.ref 20002 1 0 res.1.values.length],.lit (.bool res.2)]) [(20000,1,.row true (ab eI res.1.ties)),(20001,1,.row true (ab eI res.1.nodes)),(20002,1,.row true (ab eI res.1.values))]:=by
 refine aR (ra:=[.homeCell 128 1,.homeCell 128 2,.homeCell 128 3]) (md:=mdT) hT (hi:=hi00) Tryd.func14 rfl rfl (by decide +kernel) (by simp) ?_
 unfold cD at h
 obtain ⟨r01,g1,h⟩:=ag h
 simp(config:=cS)only[go_sem]
 refine ar (fe g1) ?_
 obtain ⟨h2,h⟩|⟨h2,h⟩:=al h
 ·obtain ⟨x02,g3,h⟩:=ag h
  obtain ⟨h5,h6⟩:=dD (k:=0) g3
  obtain ⟨r03,g7,h⟩:=ag h
  simp(config:=cS)only[go_sem,eqT h2,h5,h6]
  refine ar (gS g7) ?_
  obtain ⟨x04,g8,h⟩:=ag h
  obtain ⟨h10,h11⟩:=dD (k:=1) g8
  obtain ⟨r05,g12,h⟩:=ag h
  simp(config:=cS)only[go_sem,h10,h11]
  refine ar (fg g12) ?_
  obtain ⟨x06,g13,h⟩:=ag h
  obtain ⟨h15,h16⟩:=dD (k:=2) g13
  obtain ⟨r07,g17,h⟩:=ag h
  simp(config:=cS)only[go_sem,h15,h16]
  refine ar (fg g17) ?_
  obtain ⟨x08,g18,h⟩:=ag h
  obtain ⟨h20,h21⟩:=dD (k:=3) g18
  obtain ⟨r09,g22,h⟩:=ag h
  simp(config:=cS)only[go_sem,h20,h21]
  refine ar (fg g22) ?_
  obtain ⟨h23,h⟩|⟨h23,h⟩:=al h
  ·obtain ⟨h24,h⟩|⟨h24,h⟩:=al h
   ·obtain ⟨h25,h⟩|⟨h25,h⟩:=al h
    ·obtain ⟨h26,h⟩|⟨h26,h⟩:=al h
     ·cases h
      simp(config:=cS)only[go_sem,eZt h23,eZt h24,eZt h25,eZt h26]
     ·cases h
      simp(config:=cS)only[go_sem,eZt h23,eZt h24,eZt h25,eZf h26]
    ·cases h
     simp(config:=cS)only[go_sem,eZt h23,eZt h24,eZf h25]
   ·cases h
    simp(config:=cS)only[go_sem,eZt h23,eZf h24]
  ·cases h
   simp(config:=cS)only[go_sem,eZf h23]
 ·cases h
  simp(config:=cS)only[go_sem,eqF h2]
def dH (c:Int)(a:List ByteArray):(Int × (List GEntry))→St
 | (d,b)=>⟨[(4,.ref 640 1 0 b.length),(5,.ref 768 1 0 a.length),(13,.ref 768 1 0 a.length),(14,.lit (.int .i64 c)),(15,.lit (.int .i64 d))],[(640,1,.row true (ab GEntry.encO b)),(768,1,.row true (ab eS a))],2⟩
attribute [go_sem] dH
attribute [go_sem] Tryd.ntmps30 Tryd.results30
theorem ju {text:ByteArray}{res:(List GEntry) × Int}(h:cq text=some res):aI Tryd.prog 30 [.lit (.string text)] [] (.tup [.ref 20000 1 0 res.1.length,.lit (.int .i64 res.2)]) [(20000,1,.row true (ab GEntry.encO res.1))]:=by
 refine aR (ra:=[.home 2]) (md:=mdT) hT (hi:=hi00) Tryd.func30 rfl rfl (by decide +kernel) (by simp) ?_
 unfold cq at h
 obtain ⟨r01,g1,h⟩:=ag h
 simp(config:=cS)only[go_sem]
 refine ar (fe g1) ?_
 obtain ⟨q04,l2,h⟩:=ag h
 simp(config:=cS)only[go_sem]
 refine aJ (m1:=.mk) (m2:=.mk) [.nf [4,5,13,14,15] [640,768]] (dH ((r01.length:Nat):Int) r01) l2 ?_ ?_
 ·simp(config:=cS)only[go_sem]
 ·intro nb3 sb3 bb3 b3 gb3
  obtain ⟨v15_1,out_1⟩:=sb3
  unfold bE at b3
  try dsimp only at b3
  obtain ⟨h4,b3⟩|⟨h4,b3⟩:=al b3
  ·obtain ⟨x02,g5,b3⟩:=ag b3
   obtain ⟨h6,h7,h8⟩:=bf g5
   obtain ⟨r03,g9,b3⟩:=ag b3
   simp(config:=cS)only[go_sem,eqT h4,h6,h7,h8]
   refine ar (kj g9) ?_
   obtain ⟨h10,b3⟩|⟨h10,b3⟩:=al b3
   ·obtain ⟨h11,b3⟩|⟨h11,b3⟩:=al b3
    ·cases b3
     obtain rfl:=(az gb3).symm
     try dsimp only at h
     cases h
     simp(config:=cS)only[go_sem,eZt h10,eqT h11]
    ·obtain ⟨h13,b3⟩:=aw b3
     obtain ⟨h14,b3⟩:=aw b3
     cases b3
     simp(config:=cS)only[go_sem,eZt h10,eqF h11,eqT h13,eqT h14]
     refine bc gb3 ?_
     simp(config:=cS)only[go_sem]
   ·cases b3
    obtain rfl:=(az gb3).symm
    try dsimp only at h
    cases h
    simp(config:=cS)only[go_sem,eZf h10]
  ·cases b3
   obtain rfl:=(az gb3).symm
   try dsimp only at h
   cases h
   simp(config:=cS)only[go_sem,eqF h4]
def eD (s c:ByteArray):(Int × Int × (List ByteArray))→St
 | (a,i,b)=>⟨[(0,.lit (.string s)),(1,.lit (.string c)),(5,.ref 383 1 0 b.length),(6,.lit (.int .i64 a)),(7,.lit (.int .i64 i))],[(383,1,.row true (ab eS b))],2⟩
attribute [go_sem] eD
attribute [go_sem] Tryd.ntmps50 Tryd.results50
theorem gT {s by_:ByteArray}{res:List ByteArray}(h:cv s by_=some res):aI Tryd.prog 50 [.lit (.string s),.lit (.string by_)] [] (.ref 20000 1 0 res.length) [(20000,1,.row true (ab eS res))]:=by
 refine aR (ra:=[.home 4]) (md:=mdT) hT (hi:=hi00) Tryd.func50 rfl rfl (by decide +kernel) (by simp) ?_
 unfold cv at h
 obtain ⟨q03,l1,h⟩:=ag h
 simp(config:=cS)only[go_sem]
 refine aJ (m1:=.mk) (m2:=.mk) [.home 5,.nf [0,1,5,6,7] [383]] (eD s by_) l1 ?_ ?_
 ·simp(config:=cS)only[go_sem]
 ·intro nb2 sb2 bb2 b2 gb2
  obtain ⟨from__1,i_1,out_1⟩:=sb2
  unfold cn at b2
  try dsimp only at b2
  obtain ⟨h3,b2⟩|⟨h3,b2⟩:=al b2
  ·obtain ⟨c1001,g4,b2⟩:=ag b2
   obtain ⟨h5,h6,h7⟩:=dl g4
   obtain ⟨r02,g8,b2⟩:=ag b2
   simp(config:=cS)only[go_sem,eqT h3,h5,h6,h7]
   refine ar (je g8) ?_
   obtain ⟨h9,b2⟩|⟨h9,b2⟩:=al b2
   ·obtain ⟨h10,b2⟩:=aw b2
    obtain ⟨h11,b2⟩:=aw b2
    obtain ⟨h12,b2⟩:=aw b2
    obtain ⟨h13,b2⟩:=aw b2
    obtain ⟨h14,b2⟩:=aw b2
    obtain ⟨h15,b2⟩:=aw b2
    cases b2
    simp(config:=cS)only[go_sem,eqT h9,eqT h10,eqT h11,eqT h12,eqT h13,eqT h14,eqT h15]
    refine bc gb2 ?_
    simp(config:=cS)only[go_sem]
   ·cases b2
    simp(config:=cS)only[go_sem,eqF h9]
    refine bc gb2 ?_
    simp(config:=cS)only[go_sem]
  ·cases b2
   obtain rfl:=(az gb2).symm
   try dsimp only at h
   obtain ⟨h17,h⟩:=aw h
   obtain ⟨h18,h⟩:=aw h
   obtain ⟨h19,h⟩:=aw h
   obtain ⟨h20,h⟩:=aw h
   cases h
   simp(config:=cS)only[go_sem,eqF h3,eqT h17,eqT h18,eqT h19,eqT h20]
def eF (c:Int)(a:List ByteArray):(Int × (List Int))→St
 | (d,b)=>⟨[(4,.ref 319 1 0 b.length),(12,.ref 768 1 0 a.length),(13,.lit (.int .i64 c)),(14,.lit (.int .i64 d))],[(319,1,.row true (ab eI b)),(768,1,.row true (ab eS a))],2⟩
attribute [go_sem] eF
attribute [go_sem] Tryd.ntmps52 Tryd.results52
theorem fh {s:ByteArray}{res:(List Int) × Bool}(h:bN s=some res):aI Tryd.prog 52 [.lit (.string s)] [] (.tup [.ref 20000 1 0 res.1.length,.lit (.bool res.2)]) [(20000,1,.row true (ab eI res.1))]:=by
 refine aR (ra:=[.home 2]) (md:=mdT) hT (hi:=hi00) Tryd.func52 rfl rfl (by decide +kernel) (by simp) ?_
 unfold bN at h
 obtain ⟨h1,h⟩|⟨h1,h⟩:=al h
 ·cases h
  simp(config:=cS)only[go_sem,eqT h1]
 ·obtain ⟨r01,g2,h⟩:=ag h
  simp(config:=cS)only[go_sem,eqF h1]
  refine ar (gT g2) ?_
  obtain ⟨q04,l3,h⟩:=ag h
  simp(config:=cS)only[go_sem]
  refine aJ (m1:=.mk) (m2:=.mk) [.home 4,.nf [4,12,13,14] [319,768]] (eF ((r01.length:Nat):Int) r01) l3 ?_ ?_
  ·simp(config:=cS)only[go_sem]
  ·intro nb4 sb4 bb4 b4 gb4
   obtain ⟨v14_1,out_1⟩:=sb4
   unfold cV at b4
   try dsimp only at b4
   obtain ⟨h5,b4⟩|⟨h5,b4⟩:=al b4
   ·obtain ⟨x02,g6,b4⟩:=ag b4
    obtain ⟨h7,h8,h9⟩:=bf g6
    obtain ⟨r03,g10,b4⟩:=ag b4
    simp(config:=cS)only[go_sem,eqT h5,h7,h8,h9]
    refine ar (gX g10) ?_
    obtain ⟨h11,b4⟩|⟨h11,b4⟩:=al b4
    ·obtain ⟨h12,b4⟩:=aw b4
     obtain ⟨h13,b4⟩:=aw b4
     cases b4
     simp(config:=cS)only[go_sem,eZt h11,eqT h12,eqT h13]
     refine bc gb4 ?_
     simp(config:=cS)only[go_sem]
    ·cases b4
     obtain rfl:=(az gb4).symm
     try dsimp only at h
     cases h
     simp(config:=cS)only[go_sem,eZf h11]
   ·cases b4
    obtain rfl:=(az gb4).symm
    try dsimp only at h
    cases h
    simp(config:=cS)only[go_sem,eqF h5]
attribute [go_sem] Tryd.ntmps15 Tryd.results15
theorem kk {line:ByteArray}{res:GEntry × Bool}(h:cE line=some res):aI Tryd.prog 15 [.lit (.string line)] [] (.tup [.agg [.lit (.int .i64 res.1.now),.ref 20000 1 0 res.1.ties.length,.ref 20001 1 0 res.1.nodes.length,.ref 20002 1 0 res.1.values.length],.lit (.bool res.2)]) [(20000,1,.row true (ab eI res.1.ties)),(20001,1,.row true (ab eI res.1.nodes)),(20002,1,.row true (ab eI res.1.values))]:=by
 refine aR (ra:=[.homeCell 128 1,.homeCell 128 2,.homeCell 128 3]) (md:=mdT) hT (hi:=hi00) Tryd.func15 rfl rfl (by decide +kernel) (by simp) ?_
 unfold cE at h
 obtain ⟨r01,g1,h⟩:=ag h
 simp(config:=cS)only[go_sem]
 refine ar (gT g1) ?_
 obtain ⟨h2,h⟩|⟨h2,h⟩:=al h
 ·obtain ⟨x02,g3,h⟩:=ag h
  obtain ⟨h5,h6⟩:=dD (k:=0) g3
  obtain ⟨r03,g7,h⟩:=ag h
  simp(config:=cS)only[go_sem,eqT h2,h5,h6]
  refine ar (gX g7) ?_
  obtain ⟨x04,g8,h⟩:=ag h
  obtain ⟨h10,h11⟩:=dD (k:=1) g8
  obtain ⟨r05,g12,h⟩:=ag h
  simp(config:=cS)only[go_sem,h10,h11]
  refine ar (fh g12) ?_
  obtain ⟨x06,g13,h⟩:=ag h
  obtain ⟨h15,h16⟩:=dD (k:=2) g13
  obtain ⟨r07,g17,h⟩:=ag h
  simp(config:=cS)only[go_sem,h15,h16]
  refine ar (fh g17) ?_
  obtain ⟨x08,g18,h⟩:=ag h
  obtain ⟨h20,h21⟩:=dD (k:=3) g18
  obtain ⟨r09,g22,h⟩:=ag h
  simp(config:=cS)only[go_sem,h20,h21]
  refine ar (fh g22) ?_
  obtain ⟨h23,h⟩|⟨h23,h⟩:=al h
  ·obtain ⟨h24,h⟩|⟨h24,h⟩:=al h
   ·obtain ⟨h25,h⟩|⟨h25,h⟩:=al h
    ·obtain ⟨h26,h⟩|⟨h26,h⟩:=al h
     ·cases h
      simp(config:=cS)only[go_sem,eZt h23,eZt h24,eZt h25,eZt h26]
     ·cases h
      simp(config:=cS)only[go_sem,eZt h23,eZt h24,eZt h25,eZf h26]
    ·cases h
     simp(config:=cS)only[go_sem,eZt h23,eZt h24,eZf h25]
   ·cases h
    simp(config:=cS)only[go_sem,eZt h23,eZf h24]
  ·cases h
   simp(config:=cS)only[go_sem,eZf h23]
 ·cases h
  simp(config:=cS)only[go_sem,eqF h2]
def dI  : (ByteArray × (List GEntry))→St
 | (b,a)=>⟨[(0,.lit (.string b)),(4,.ref 319 1 0 a.length)],[(319,1,.row true (ab GEntry.encO a))],2⟩
attribute [go_sem] dI
attribute [go_sem] Tryd.ntmps19 Tryd.results19
theorem fQ {text:ByteArray}{res:(List GEntry) × Int}(h:bD text=some res):aI Tryd.prog 19 [.lit (.string text)] [] (.tup [.ref 20000 1 0 res.1.length,.lit (.int .i64 res.2)]) [(20000,1,.row true (ab GEntry.encO res.1))]:=by
 refine aR (ra:=[.home 2]) (md:=mdT) hT (hi:=hi00) Tryd.func19 rfl rfl (by decide +kernel) (by simp) ?_
 unfold bD at h
 obtain ⟨q03,l1,h⟩:=ag h
 simp(config:=cS)only[go_sem]
 refine aJ (m1:=.mk) (m2:=.mk) [.home 4,.nf [0,4] [319]] (dI) l1 ?_ ?_
 ·simp(config:=cS)only[go_sem]
 ·intro nb2 sb2 bb2 b2 gb2
  obtain ⟨text_1,out_1⟩:=sb2
  unfold cy at b2
  try dsimp only at b2
  obtain ⟨r01,g3,b2⟩:=ag b2
  simp(config:=cS)only[go_sem]
  refine ar (oO g3) ?_
  obtain ⟨h4,b2⟩|⟨h4,b2⟩:=al b2
  ·obtain ⟨r02,g5,b2⟩:=ag b2
   simp(config:=cS)only[go_sem,eZt h4]
   refine ar (kk g5) ?_
   obtain ⟨h6,b2⟩|⟨h6,b2⟩:=al b2
   ·obtain ⟨h7,b2⟩:=aw b2
    obtain ⟨h8,b2⟩:=aw b2
    cases b2
    simp(config:=cS)only[go_sem,eZt h6,eqT h7,eqT h8]
    refine bc gb2 ?_
    simp(config:=cS)only[go_sem]
   ·cases b2
    obtain rfl:=(az gb2).symm
    try dsimp only at h
    cases h
    simp(config:=cS)only[go_sem,eZf h6]
  ·cases b2
   obtain rfl:=(az gb2).symm
   try dsimp only at h
   cases h
   simp(config:=cS)only[go_sem,eZf h4]
def eG (a b:List GEntry)(i:Int):St:=⟨[(0,.sl (ab GEntry.encS a)),(1,.sl (ab GEntry.encS b)),(5,.lit (.int .i64 i))],[],2⟩
attribute [go_sem] eG
@[go_sem] def hi31_6:DT:=.i2 0 (.i2 1 (.i2 2 (.i2 3 (.i2 4 (.i2 5 (.i2 6 (.i2 7 (.i2 8 (.i2 9 .nil)))))))))
def hi31:Hint where
 acts:=fun _=>[]
 draws:=fun
  | 6=>⟨hi31_6,[[],[],[0,1],[0,1,2],[],[],[4,5],[4,5,6],.range 8,.range 9],.range 10⟩
  | _=>⟨.nil,[],[]⟩
theorem xi (i:Nat):hi31.acts i=[]:=rfl
theorem xj (i:Nat):hi31.views i=none:=rfl
attribute [go_sem] xi xj Tryd.ntmps31 Tryd.results31
@[go_sem] theorem xE:(hi31.draws 6).order=hi31_6:=rfl
theorem gU {a b:List GEntry}{res:Bool}(h:cz a b=some res):aI Tryd.prog 31 [.sl (ab GEntry.encS a),.sl (ab GEntry.encS b)] [] (.lit (.bool res)) []:=by
 refine aR (ra:=[]) (md:=mdT) hT (hi:=hi31) Tryd.func31 rfl rfl (by decide +kernel) (by simp) ?_
 unfold cz at h
 obtain ⟨h1,h⟩|⟨h1,h⟩:=al h
 ·obtain ⟨q04,l2,h⟩:=ag h
  simp(config:=cS)only[go_sem,eqT h1]
  refine aJ (m1:=.mk) (m2:=.mk) [.nf [0,1,5] []] (eG a b) l2 ?_ ?_
  ·simp(config:=cS)only[go_sem]
  ·intro nb3 i_1 bb3 b3 gb3
   unfold ct at b3
   try dsimp only at b3
   obtain ⟨h4,b3⟩|⟨h4,b3⟩:=al b3
   ·obtain ⟨x01,g5,b3⟩:=ag b3
    obtain ⟨h6,h7,h8⟩:=bf g5
    obtain ⟨x02,g9,b3⟩:=ag b3
    obtain ⟨h10,h11,h12⟩:=bf g9
    obtain ⟨r03,g13,b3⟩:=ag b3
    simp(config:=cS)only[go_sem,eqT h4,h6,h7,h8,h10,h11,h12]
    refine ar (nJ g13) ?_
    obtain ⟨h14,b3⟩|⟨h14,b3⟩:=al b3
    ·cases b3
     simp(config:=cS)only[go_sem,eZt h14]
     refine bc gb3 ?_
     simp(config:=cS)only[go_sem]
    ·cases b3
     obtain rfl:=(az gb3).symm
     try dsimp only at h
     cases h
     simp(config:=cS)only[go_sem,eZf h14]
   ·cases b3
    obtain rfl:=(az gb3).symm
    try dsimp only at h
    cases h
    simp(config:=cS)only[go_sem,eqF h4]
 ·cases h
  simp(config:=cS)only[go_sem,eqF h1]
def eH (b:Bool)  : (Int × Int × (List Int))→St
 | (k,i,a)=>⟨[(0,.ref 10000 0 0 a.length),(1,.lit (.int .i64 k)),(5,.lit (.int .i64 i))],[(10000,0,.row b (ab eI a))],2⟩
attribute [go_sem] eH
attribute [go_sem] Tryd.ntmps53 Tryd.results53
theorem fi {a:List Int}{k:Int}{zb0:Bool}{res:Int × (List Int)}(h:bO a k=some res):aI Tryd.prog 53 [.ref 10000 0 0 a.length,.lit (.int .i64 k)] [(10000,0,.row zb0 (ab eI a))] (.lit (.int .i64 res.1)) [(10000,0,.row zb0 (ab eI res.2))]:=by
 refine aR (ra:=[]) (md:=mdT) hT (hi:=hi00) Tryd.func53 rfl rfl (by decide +kernel) (by simp) ?_
 unfold bO at h
 obtain ⟨q02,l1,h⟩:=ag h
 simp(config:=cS)only[go_sem]
 refine aJ (m1:=.mk) (m2:=.mk) [.nf [0,1,5] [10000]] (eH zb0) l1 ?_ ?_
 ·simp(config:=cS)only[go_sem]
 ·intro nb2 sb2 bb2 b2 gb2
  obtain ⟨k_1,i_1,a_1⟩:=sb2
  unfold co at b2
  try dsimp only at b2
  obtain ⟨h3,b2⟩|⟨h3,b2⟩:=al b2
  ·obtain ⟨x01,g4,b2⟩:=ag b2
   obtain ⟨h5,h6,h7⟩:=bf g4
   cases b2
   simp(config:=cS)only[go_sem,eqT h3,h5,h6,h7]
   refine bc gb2 ?_
   simp(config:=cS)only[go_sem]
  ·cases b2
   obtain rfl:=(az gb2).symm
   try dsimp only at h
   cases h
   simp(config:=cS)only[go_sem,eqF h3]
def dR (b:Bool)  : (Int × Int × (List GEntry))→St
 | (k,i,a)=>⟨[(0,.ref 10000 0 0 a.length),(1,.lit (.int .i64 k)),(5,.lit (.int .i64 i))],[(10000,0,.row b (ab GEntry.encO a))],2⟩
attribute [go_sem] dR
def hi32:Hint where
 acts:=fun _=>[]
 views:=fun
  | 6=>some (4,1)
  | 7=>some (4,1)
  | 8=>some (4,1)
  | _=>none
 draws:=fun
  | _=>⟨.nil,[],[]⟩
theorem xk (i:Nat):hi32.acts i=[]:=rfl
@[go_sem] theorem xF:hi32.views 0=none:=rfl
@[go_sem] theorem xG:hi32.views 1=none:=rfl
@[go_sem] theorem xH:hi32.views 2=none:=rfl
@[go_sem] theorem xI:hi32.views 4=none:=rfl
@[go_sem] theorem xJ:hi32.views 5=none:=rfl
@[go_sem] theorem xK:hi32.views 6=some (4,1):=rfl
@[go_sem] theorem xL:hi32.views 7=some (4,1):=rfl
@[go_sem] theorem xM:hi32.views 8=some (4,1):=rfl
@[go_sem] theorem xN:hi32.views 3=none:=rfl
@[go_sem] theorem xO:hi32.views 9=none:=rfl
attribute [go_sem] xk Tryd.ntmps32 Tryd.results32
theorem kl {a:List GEntry}{k:Int}{zb0:Bool}{res:Int × (List GEntry)}(h:cF a k=some res):aI Tryd.prog 32 [.ref 10000 0 0 a.length,.lit (.int .i64 k)] [(10000,0,.row zb0 (ab GEntry.encO a))] (.lit (.int .i64 res.1)) [(10000,0,.row zb0 (ab GEntry.encO res.2))]:=by
 refine aR (ra:=[]) (md:=mdT) hT (hi:=hi32) Tryd.func32 rfl rfl (by decide +kernel) (by simp) ?_
 unfold cF at h
 obtain ⟨q08,l1,h⟩:=ag h
 simp(config:=cS)only[go_sem]
 refine aJ (m1:=.mk) (m2:=.mk) [.nf [0,1,5] [10000]] (dR zb0) l1 ?_ ?_
 ·simp(config:=cS)only[go_sem]
 ·intro nb2 sb2 bb2 b2 gb2
  obtain ⟨k_1,i_1,a_1⟩:=sb2
  unfold bn at b2
  try dsimp only at b2
  obtain ⟨h3,b2⟩|⟨h3,b2⟩:=al b2
  ·obtain ⟨x01,g4,b2⟩:=ag b2
   obtain ⟨h5,h6,h7⟩:=bf g4
   obtain ⟨x02,g8,b2⟩:=ag b2
   obtain ⟨h9,h10,h11⟩:=bf g8
   obtain ⟨r03,g12,b2⟩:=ag b2
   obtain ⟨h13,b2⟩:=aw b2
   simp(config:=cS)only[go_sem,eqT h3,h5,h6,h7,h9,h10,h11]
   refine lk h13 (by simp only [go_sem]) (fi g12) ?_
   obtain ⟨x04,g14,b2⟩:=ag b2
   obtain ⟨h15,h16,h17⟩:=bf g14
   obtain ⟨r05,g18,b2⟩:=ag b2
   obtain ⟨h19,b2⟩:=aw b2
   simp(config:=cS)only[go_sem,eqT h3,h5,h6,h7,h9,h10,h11,h15,h16,h17]
   refine lk h19 (by simp only [go_sem]) (fi g18) ?_
   obtain ⟨x06,g20,b2⟩:=ag b2
   obtain ⟨h21,h22,h23⟩:=bf g20
   obtain ⟨r07,g24,b2⟩:=ag b2
   obtain ⟨h25,b2⟩:=aw b2
   simp(config:=cS)only[go_sem,eqT h3,h5,h6,h7,h9,h10,h11,h15,h16,h17,h21,h22,h23]
   refine lk h25 (by simp only [go_sem]) (fi g24) ?_
   cases b2
   simp(config:=cS)only[go_sem,eqT h3,h5,h6,h7,h9,h10,h11,h15,h16,h17,h21,h22,h23]
   refine bc gb2 ?_
   simp(config:=cS)only[go_sem,eqT h3,h5,h6,h7,h9,h10,h11,h15,h16,h17,h21,h22,h23]
  ·cases b2
   obtain rfl:=(az gb2).symm
   try dsimp only at h
   cases h
   simp(config:=cS)only[go_sem,eqF h3]
def eJ (a:List Int):(Int × Int)→St
 | (k,i)=>⟨[(0,.sl (ab eI a)),(1,.lit (.int .i64 k)),(5,.lit (.int .i64 i))],[],2⟩
attribute [go_sem] eJ
attribute [go_sem] Tryd.ntmps54 Tryd.results54
theorem fj {a:List Int}{k res:Int}(h:bP a k=some res):aI Tryd.prog 54 [.sl (ab eI a),.lit (.int .i64 k)] [] (.lit (.int .i64 res)) []:=by
 refine aR (ra:=[]) (md:=mdT) hT (hi:=hi00) Tryd.func54 rfl rfl (by decide +kernel) (by simp) ?_
 unfold bP at h
 obtain ⟨q02,l1,h⟩:=ag h
 simp(config:=cS)only[go_sem]
 refine aJ (m1:=.mk) (m2:=.mk) [.nf [0,1,5] []] (eJ a) l1 ?_ ?_
 ·simp(config:=cS)only[go_sem]
 ·intro nb2 sb2 bb2 b2 gb2
  obtain ⟨k_1,i_1⟩:=sb2
  unfold cp at b2
  try dsimp only at b2
  obtain ⟨h3,b2⟩|⟨h3,b2⟩:=al b2
  ·obtain ⟨x01,g4,b2⟩:=ag b2
   obtain ⟨h5,h6,h7⟩:=bf g4
   obtain ⟨h8,b2⟩|⟨h8,b2⟩:=al b2
   ·cases b2
    simp(config:=cS)only[go_sem,eqT h3,h5,h6,h7,eqT h8]
    refine bc gb2 ?_
    simp(config:=cS)only[go_sem]
   ·cases b2
    obtain rfl:=(az gb2).symm
    try dsimp only at h
    cases h
    simp(config:=cS)only[go_sem,eqT h3,h5,h6,h7,eqF h8]
  ·cases b2
   obtain rfl:=(az gb2).symm
   try dsimp only at h
   cases h
   simp(config:=cS)only[go_sem,eqF h3]
def dS (a:List GEntry):(Int × Int)→St
 | (k,i)=>⟨[(0,.sl (ab GEntry.encS a)),(1,.lit (.int .i64 k)),(5,.lit (.int .i64 i))],[],2⟩
attribute [go_sem] dS
attribute [go_sem] Tryd.ntmps33 Tryd.results33
theorem ga {a:List GEntry}{k res:Int}(h:bQ a k=some res):aI Tryd.prog 33 [.sl (ab GEntry.encS a),.lit (.int .i64 k)] [] (.lit (.int .i64 res)) []:=by
 refine aR (ra:=[]) (md:=mdT) hT (hi:=hi00) Tryd.func33 rfl rfl (by decide +kernel) (by simp) ?_
 unfold bQ at h
 obtain ⟨q05,l1,h⟩:=ag h
 simp(config:=cS)only[go_sem]
 refine aJ (m1:=.mk) (m2:=.mk) [.nf [0,1,5] []] (dS a) l1 ?_ ?_
 ·simp(config:=cS)only[go_sem]
 ·intro nb2 sb2 bb2 b2 gb2
  obtain ⟨k_1,i_1⟩:=sb2
  unfold bo at b2
  try dsimp only at b2
  obtain ⟨h3,b2⟩|⟨h3,b2⟩:=al b2
  ·obtain ⟨x01,g4,b2⟩:=ag b2
   obtain ⟨h5,h6,h7⟩:=bf g4
   obtain ⟨h8,b2⟩|⟨h8,b2⟩:=al b2
   ·obtain ⟨r02,g9,b2⟩:=ag b2
    simp(config:=cS)only[go_sem,eqT h3,h5,h6,h7,eqT h8]
    refine ar (fj g9) ?_
    obtain ⟨h10,b2⟩|⟨h10,b2⟩:=al b2
    ·cases b2
     obtain rfl:=(az gb2).symm
     try dsimp only at h
     cases h
     simp(config:=cS)only[go_sem,eqT h3,h5,h6,h7,eqT h8,eqT h10]
    ·obtain ⟨r03,g12,b2⟩:=ag b2
     simp(config:=cS)only[go_sem,eqT h3,h5,h6,h7,eqT h8,eqF h10]
     refine ar (fj g12) ?_
     obtain ⟨h13,b2⟩|⟨h13,b2⟩:=al b2
     ·cases b2
      obtain rfl:=(az gb2).symm
      try dsimp only at h
      cases h
      simp(config:=cS)only[go_sem,eqT h3,h5,h6,h7,eqT h8,eqF h10,eqT h13]
     ·obtain ⟨r04,g15,b2⟩:=ag b2
      simp(config:=cS)only[go_sem,eqT h3,h5,h6,h7,eqT h8,eqF h10,eqF h13]
      refine ar (fj g15) ?_
      obtain ⟨h16,b2⟩|⟨h16,b2⟩:=al b2
      ·cases b2
       obtain rfl:=(az gb2).symm
       try dsimp only at h
       cases h
       simp(config:=cS)only[go_sem,eqT h3,h5,h6,h7,eqT h8,eqF h10,eqF h13,eqT h16]
      ·cases b2
       simp(config:=cS)only[go_sem,eqT h3,h5,h6,h7,eqT h8,eqF h10,eqF h13,eqF h16]
       refine bc gb2 ?_
       simp(config:=cS)only[go_sem,eqT h3,h5,h6,h7,eqT h8,eqF h10,eqF h13,eqF h16]
   ·cases b2
    obtain rfl:=(az gb2).symm
    try dsimp only at h
    cases h
    simp(config:=cS)only[go_sem,eqT h3,h5,h6,h7,eqF h8]
  ·cases b2
   obtain rfl:=(az gb2).symm
   try dsimp only at h
   cases h
   simp(config:=cS)only[go_sem,eqF h3]
attribute [go_sem] Tryd.ntmps7 Tryd.results7
theorem gp {aText:ByteArray}{res:Bool}(h:bF aText=some res):aI Tryd.prog 7 [.lit (.string aText)] [] (.lit (.bool res)) []:=by
 refine aR (ra:=[]) (md:=mdT) hT (hi:=hi00) Tryd.func7 rfl rfl (by decide +kernel) (by simp) ?_
 unfold bF at h
 obtain ⟨h1,h⟩|⟨h1,h⟩:=al h
 ·cases h
  simp(config:=cS)only[go_sem,eqT h1]
 ·obtain ⟨r01,g2,h⟩:=ag h
  simp(config:=cS)only[go_sem,eqF h1]
  refine ar (ju g2) ?_
  obtain ⟨r02,g3,h⟩:=ag h
  simp(config:=cS)only[go_sem,eqF h1]
  refine ar (fQ g3) ?_
  obtain ⟨r03,g4,h⟩:=ag h
  simp(config:=cS)only[go_sem,eqF h1]
  refine ar (gU g4) ?_
  obtain ⟨h5,h⟩|⟨h5,h⟩:=al h
  ·obtain ⟨h6,h⟩|⟨h6,h⟩:=al h
   ·obtain ⟨r04,g7,h⟩:=ag h
    simp(config:=cS)only[go_sem,eqF h1,eZt h5,eqT h6]
    refine ar (kl g7) ?_
    obtain ⟨h8,h⟩:=aw h
    obtain ⟨r05,g9,h⟩:=ag h
    simp(config:=cS)only[go_sem,eqF h1,eZt h5,eqT h6,eqT h8]
    refine ar (ga g9) ?_
    obtain ⟨h10,h⟩|⟨h10,h⟩:=al h
    ·cases h
     simp(config:=cS)only[go_sem,eqF h1,eZt h5,eqT h6,eqT h8,eqT h10]
    ·obtain ⟨h11,h⟩|⟨h11,h⟩:=al h
     ·obtain ⟨r06,g12,h⟩:=ag h
      simp(config:=cS)only[go_sem,eqF h1,eZt h5,eqT h6,eqT h8,eqF h10,eqT h11]
      refine ar (fQ g12) ?_
      obtain ⟨r07,g13,h⟩:=ag h
      simp(config:=cS)only[go_sem,eqF h1,eZt h5,eqT h6,eqT h8,eqF h10,eqT h11]
      refine ar (gU g13) ?_
      obtain ⟨h14,h⟩|⟨h14,h⟩:=al h
      ·obtain ⟨h15,h⟩|⟨h15,h⟩:=al h
       ·obtain ⟨r08,g16,h⟩:=ag h
        simp(config:=cS)only[go_sem,eqF h1,eZt h5,eqT h6,eqT h8,eqF h10,eqT h11,eZt h14,eqT h15]
        refine ar (ga g16) ?_
        obtain ⟨h17,h⟩|⟨h17,h⟩:=al h
        ·cases h
         simp(config:=cS)only[go_sem,eqF h1,eZt h5,eqT h6,eqT h8,eqF h10,eqT h11,eZt h14,eqT h15,eqT h17]
        ·obtain ⟨h18,h⟩|⟨h18,h⟩:=al h
         ·cases h
          simp(config:=cS)only[go_sem,eqF h1,eZt h5,eqT h6,eqT h8,eqF h10,eqT h11,eZt h14,eqT h15,eqF h17,eqT h18]
         ·cases h
          simp(config:=cS)only[go_sem,eqF h1,eZt h5,eqT h6,eqT h8,eqF h10,eqT h11,eZt h14,eqT h15,eqF h17,eqF h18]
       ·cases h
        simp(config:=cS)only[go_sem,eqF h1,eZt h5,eqT h6,eqT h8,eqF h10,eqT h11,eZt h14,eqF h15]
      ·cases h
       simp(config:=cS)only[go_sem,eqF h1,eZt h5,eqT h6,eqT h8,eqF h10,eqT h11,eZf h14]
     ·cases h
      simp(config:=cS)only[go_sem,eqF h1,eZt h5,eqT h6,eqT h8,eqF h10,eqF h11]
   ·cases h
    simp(config:=cS)only[go_sem,eqF h1,eZt h5,eqF h6]
  ·cases h
   simp(config:=cS)only[go_sem,eqF h1,eZf h5]
end Go.Proofs.Qe
