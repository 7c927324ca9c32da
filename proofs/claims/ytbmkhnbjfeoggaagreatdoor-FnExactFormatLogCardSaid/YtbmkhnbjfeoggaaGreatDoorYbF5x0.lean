/- Functions. -/
import Derived.Test.YtbmkhnbjfeoggaaGreatDoorYbFK1
set_option linter.all false
set_option maxRecDepth 100000
set_option maxHeartbeats 4000000
namespace Go.Proofs.Qb
open Go
attribute [go_sem] Tryz.ntmps71 Tryz.results71
theorem yN {a:GEntry}{left res:Int}(h:iI a left=some res):ap Tryz.prog 71 [.agg (GEntry.encS a),.lit (.int .i64 left)] [] (.lit (.int .i64 res)) []:=by
 refine aj (ra:=[]) (md:=mdT) hT (hi:=hi00) Tryz.func71 rfl rfl (by decide +kernel) (by simp) ?_
 unfold iI at h
 obtain ⟨r01,g1,h⟩:=ae h
 simp(config:=cS)only[go_sem]
 refine ag (lz g1) ?_
 obtain ⟨h2,h⟩|⟨h2,h⟩:=af h
 ·cases h
  simp(config:=cS)only[go_sem,eqT h2]
 ·obtain ⟨r02,g3,h⟩:=ae h
  simp(config:=cS)only[go_sem,eqF h2]
  refine ag (lz g3) ?_
  obtain ⟨h4,h⟩|⟨h4,h⟩:=af h
  ·cases h
   simp(config:=cS)only[go_sem,eqT h4]
  ·obtain ⟨r03,g5,h⟩:=ae h
   simp(config:=cS)only[go_sem,eqF h4]
   refine ag (lz g5) ?_
   obtain ⟨h6,h⟩|⟨h6,h⟩:=af h
   ·cases h
    simp(config:=cS)only[go_sem,eqT h6]
   ·cases h
    simp(config:=cS)only[go_sem,eqF h6]
def lT (a:List GEntry):(Int × Int)→St
 | (b,i)=>⟨[(0,.sl (ab GEntry.encS a)),(1,.lit (.int .i64 b)),(5,.lit (.int .i64 i))],[],2⟩
attribute [go_sem] lT
attribute [go_sem] Tryz.ntmps21 Tryz.results21
theorem xv {a:List GEntry}{left res:Int}(h:gV a left=some res):ap Tryz.prog 21 [.sl (ab GEntry.encS a),.lit (.int .i64 left)] [] (.lit (.int .i64 res)) []:=by
 refine aj (ra:=[]) (md:=mdT) hT (hi:=hi00) Tryz.func21 rfl rfl (by decide +kernel) (by simp) ?_
 unfold gV at h
 obtain ⟨h1,h⟩|⟨h1,h⟩:=af h
 ·cases h
  simp(config:=cS)only[go_sem,eqT h1]
 ·obtain ⟨q03,l2,h⟩:=ae h
  simp(config:=cS)only[go_sem,eqF h1]
  refine ao (m1:=.mk) (m2:=.mk) [.nf [0,1,5] []] (lT a) l2 ?_ ?_
  ·simp(config:=cS)only[go_sem]
  ·intro nb3 sb3 bb3 b3 gb3
   obtain ⟨left_1,i_1⟩:=sb3
   unfold fc at b3
   try dsimp only at b3
   obtain ⟨h4,b3⟩|⟨h4,b3⟩:=af b3
   ·obtain ⟨x01,g5,b3⟩:=ae b3
    obtain ⟨h6,h7,h8⟩:=ai g5
    obtain ⟨r02,g9,b3⟩:=ae b3
    simp(config:=cS)only[go_sem,eqT h4,h6,h7,h8]
    refine ag (yN g9) ?_
    obtain ⟨h10,b3⟩|⟨h10,b3⟩:=af b3
    ·cases b3
     obtain rfl:=(al gb3).symm
     try dsimp only at h
     cases h
     simp(config:=cS)only[go_sem,eqT h10]
    ·cases b3
     simp(config:=cS)only[go_sem,eqF h10]
     refine ar gb3 ?_
     simp(config:=cS)only[go_sem]
   ·cases b3
    obtain rfl:=(al gb3).symm
    try dsimp only at h
    cases h
    simp(config:=cS)only[go_sem,eqF h4]
attribute [go_sem] Tryz.ntmps75 Tryz.results75
theorem yO {a res:GEntry}(h:iK a=some res):ap Tryz.prog 75 [.agg (GEntry.encS a)] [] (.agg [.lit (.int .i64 res.now),.ref 20000 1 0 res.ties.length,.ref 20001 1 0 res.nodes.length,.ref 20002 1 0 res.values.length]) [(20000,1,.row true (ab eI res.ties)),(20001,1,.row true (ab eI res.nodes)),(20002,1,.row true (ab eI res.values))]:=by
 refine aj (ra:=[.homeCell 128 1,.homeCell 128 2,.homeCell 128 3]) (md:=mdT) hT (hi:=hi00) Tryz.func75 rfl rfl (by decide +kernel) (by simp) ?_
 unfold iK at h
 obtain ⟨r01,g1,h⟩:=ae h
 simp(config:=cS)only[go_sem]
 refine ag (lA g1) ?_
 obtain ⟨r02,g2,h⟩:=ae h
 simp(config:=cS)only[go_sem]
 refine ag (lA g2) ?_
 obtain ⟨r03,g3,h⟩:=ae h
 simp(config:=cS)only[go_sem]
 refine ag (lA g3) ?_
 cases h
 simp(config:=cS)only[go_sem]
def lU (a:List GEntry):(Int × (List GEntry))→St
 | (i,b)=>⟨[(0,.sl (ab GEntry.encS a)),(3,.ref 448 1 0 b.length),(4,.lit (.int .i64 i))],[(448,1,.row true (ab GEntry.encO b))],2⟩
attribute [go_sem] lU
attribute [go_sem] Tryz.ntmps23 Tryz.results23
theorem jK {a res:List GEntry}(h:cH a=some res):ap Tryz.prog 23 [.sl (ab GEntry.encS a)] [] (.ref 20000 1 0 res.length) [(20000,1,.row true (ab GEntry.encO res))]:=by
 refine aj (ra:=[.home 2]) (md:=mdT) hT (hi:=hi00) Tryz.func23 rfl rfl (by decide +kernel) (by simp) ?_
 unfold cH at h
 obtain ⟨h1,h⟩:=ak h
 obtain ⟨h2,h⟩:=ak h
 obtain ⟨q04,l3,h⟩:=ae h
 simp(config:=cS)only[go_sem,eqT h1,eqT h2]
 refine ao (m1:=.mk) (m2:=.mk) [.nf [0,3,4] [448]] (lU a) l3 ?_ ?_
 ·simp(config:=cS)only[go_sem]
 ·intro nb4 sb4 bb4 b4 gb4
  obtain ⟨i_1,out_1⟩:=sb4
  unfold fe at b4
  try dsimp only at b4
  obtain ⟨h5,b4⟩|⟨h5,b4⟩:=af b4
  ·obtain ⟨x01,g6,b4⟩:=ae b4
   obtain ⟨h7,h8,h9⟩:=ai g6
   obtain ⟨r02,g10,b4⟩:=ae b4
   simp(config:=cS)only[go_sem,eqT h5,h7,h8,h9]
   refine ag (yO g10) ?_
   obtain ⟨x03,g11,b4⟩:=ae b4
   obtain ⟨h12,h13,h14⟩:=ai g11
   cases b4
   simp(config:=cS)only[go_sem,h12,h13,h14]
   refine ar gb4 ?_
   simp(config:=cS)only[go_sem]
  ·cases b4
   obtain rfl:=(al gb4).symm
   try dsimp only at h
   cases h
   simp(config:=cS)only[go_sem,eqF h5]
def oI (a:ByteArray)(c:List ByteArray)(d:Int):(ByteArray × Int)→St
 | (s,b)=>⟨[(1,.lit (.string a)),(5,.lit (.string s)),(8,.sl (ab eS c)),(9,.lit (.int .i64 d)),(10,.lit (.int .i64 b))],[],2⟩
attribute [go_sem] oI
attribute [go_sem] Tryz.ntmps150 Tryz.results150
theorem DN {l:List ByteArray}{by_ res:ByteArray}(h:lm l by_=some res):ap Tryz.prog 150 [.sl (ab eS l),.lit (.string by_)] [] (.lit (.string res)) []:=by
 refine aj (ra:=[]) (md:=mdT) hT (hi:=hi00) Tryz.func150 rfl rfl (by decide +kernel) (by simp) ?_
 unfold lm at h
 obtain ⟨q02,l1,h⟩:=ae h
 simp(config:=cS)only[go_sem]
 refine ao (m1:=.mk) (m2:=.mk) [.nf [1,5,8,9,10] []] (oI by_ l ((l.length:Nat):Int)) l1 ?_ ?_
 ·simp(config:=cS)only[go_sem]
 ·intro nb2 sb2 bb2 b2 gb2
  obtain ⟨s_1,v10_1⟩:=sb2
  unfold gp at b2
  try dsimp only at b2
  obtain ⟨h3,b2⟩|⟨h3,b2⟩:=af b2
  ·obtain ⟨x01,g4,b2⟩:=ae b2
   obtain ⟨h5,h6,h7⟩:=ai g4
   obtain ⟨h8,b2⟩|⟨h8,b2⟩:=af b2
   ·obtain ⟨h9,b2⟩:=ak b2
    obtain ⟨h10,b2⟩:=ak b2
    try simp(config:=cS)only[go_sem] at h10
    cases b2
    simp(config:=cS)only[go_sem,eqT h3,h5,h6,h7,eqT h8,eqT h9,eqT h10]
    refine ar gb2 ?_
    simp(config:=cS)only[go_sem]
   ·obtain ⟨h11,b2⟩:=ak b2
    cases b2
    simp(config:=cS)only[go_sem,eqT h3,h5,h6,h7,eqF h8,eqT h11]
    refine ar gb2 ?_
    simp(config:=cS)only[go_sem]
  ·cases b2
   obtain rfl:=(al gb2).symm
   try dsimp only at h
   cases h
   simp(config:=cS)only[go_sem,eqF h3]
def ka (b:List Int)(c:Int):(Int × (List ByteArray))→St
 | (d,a)=>⟨[(3,.ref 448 1 0 a.length),(14,.sl (ab eI b)),(15,.lit (.int .i64 c)),(16,.lit (.int .i64 d))],[(448,1,.row true (ab eS a))],2⟩
attribute [go_sem] ka
attribute [go_sem] Tryz.ntmps74 Tryz.results74
theorem sQ {l:List Int}{res:ByteArray}(h:fi l=some res):ap Tryz.prog 74 [.sl (ab eI l)] [] (.lit (.string res)) []:=by
 refine aj (ra:=[]) (md:=mdT) hT (hi:=hi00) Tryz.func74 rfl rfl (by decide +kernel) (by simp) ?_
 unfold fi at h
 obtain ⟨r01,g1,h⟩:=ae h
 simp(config:=cS)only[go_sem]
 refine ag (iD g1) ?_
 obtain ⟨h2,h⟩|⟨h2,h⟩:=af h
 ·obtain ⟨h3,h⟩|⟨h3,h⟩:=af h
  ·cases h
   simp(config:=cS)only[go_sem,eZt h2,eqT h3]
  ·obtain ⟨q06,l4,h⟩:=ae h
   simp(config:=cS)only[go_sem,eZt h2,eqF h3]
   refine ao (m1:=.mk) (m2:=.mk) [.nf [3,14,15,16] [448]] (ka l ((l.length:Nat):Int)) l4 ?_ ?_
   ·simp(config:=cS)only[go_sem]
   ·intro nb5 sb5 bb5 b5 gb5
    obtain ⟨v16_1,parts_1⟩:=sb5
    unfold dj at b5
    try dsimp only at b5
    obtain ⟨h6,b5⟩|⟨h6,b5⟩:=af b5
    ·obtain ⟨x02,g7,b5⟩:=ae b5
     obtain ⟨h8,h9,h10⟩:=ai g7
     obtain ⟨r03,g11,b5⟩:=ae b5
     simp(config:=cS)only[go_sem,eqT h6,h8,h9,h10]
     refine ag (iC g11) ?_
     obtain ⟨r04,g12,b5⟩:=ae b5
     simp(config:=cS)only[go_sem]
     refine ag (pt g12) ?_
     obtain ⟨h13,b5⟩:=ak b5
     obtain ⟨h14,b5⟩|⟨h14,b5⟩:=af b5
     ·obtain ⟨h15,b5⟩:=ak b5
      try simp(config:=cS)only[go_sem] at h15
      obtain ⟨h16,b5⟩:=ak b5
      obtain ⟨h17,b5⟩:=ak b5
      cases b5
      simp(config:=cS)only[go_sem,eZt h2,eqF h3,eqT h6,h8,h9,h10,eqT h13,eqT h14,eqT h15,eqT h16,eqT h17]
      refine ar gb5 ?_
      simp(config:=cS)only[go_sem]
     ·obtain ⟨h18,b5⟩:=ak b5
      obtain ⟨h19,b5⟩:=ak b5
      cases b5
      simp(config:=cS)only[go_sem,eqT h13,eqF h14,eqT h18,eqT h19]
      refine ar gb5 ?_
      simp(config:=cS)only[go_sem]
    ·cases b5
     obtain rfl:=(al gb5).symm
     try dsimp only at h
     obtain ⟨r05,g21,h⟩:=ae h
     simp(config:=cS)only[go_sem,eqF h6]
     refine ag (DN g21) ?_
     cases h
     simp(config:=cS)only[go_sem]
 ·cases h
  simp(config:=cS)only[go_sem,eZf h2]
def kO (d:List GEntry)(e f:Int)(a:List Int)(g:Int)(h:List GNode)(i:List GTie)(j k:Int)(l m:List Int)(b:List ByteArray):(ByteArray × Int)→St
 | (c,n)=>⟨[(2,.ptr 128 1 0 0),(7,.ref 1472 1 0 b.length),(9,.ptr 576 1 0 0),(10,.lit (.string c)),(24,.sl (ab GEntry.encS d)),(25,.lit (.int .i64 e)),(26,.lit (.int .i64 f)),(35,.sl (ab eI a)),(36,.lit (.int .i64 g)),(37,.lit (.int .i64 n))],[(128,1,.var [.sl (ab GNode.encS h),.sl (ab GTie.enc i),.lit (.int .i64 j)]),(1472,1,.row true (ab eS b)),(576,1,.var [.lit (.int .i64 k),.sl (ab eI a),.sl (ab eI l),.sl (ab eI m)])],2⟩
attribute [go_sem] kO
def kP (d:List GEntry)(e f:Int)(a:List Int)(g:Int)(h:List GNode)(i:List GTie)(j k:Int)(l m:List Int)(b:List ByteArray):(ByteArray × Int)→St
 | (c,n)=>⟨[(2,.ptr 128 1 0 0),(7,.ref 1472 1 0 b.length),(9,.ptr 576 1 0 0),(10,.lit (.string c)),(24,.sl (ab GEntry.encS d)),(25,.lit (.int .i64 e)),(26,.lit (.int .i64 f)),(57,.sl (ab eI a)),(58,.lit (.int .i64 g)),(59,.lit (.int .i64 n))],[(128,1,.var [.sl (ab GNode.encS h),.sl (ab GTie.enc i),.lit (.int .i64 j)]),(1472,1,.row true (ab eS b)),(576,1,.var [.lit (.int .i64 k),.sl (ab eI l),.sl (ab eI a),.sl (ab eI m)])],2⟩
attribute [go_sem] kP
def kQ (b:List GEntry)(c:Int)(d:List GNode)(e:List GTie)(f:Int):(Int × (List ByteArray))→St
 | (g,a)=>⟨[(2,.ptr 128 1 0 0),(7,.ref 1472 1 0 a.length),(24,.sl (ab GEntry.encS b)),(25,.lit (.int .i64 c)),(26,.lit (.int .i64 g))],[(128,1,.var [.sl (ab GNode.encS d),.sl (ab GTie.enc e),.lit (.int .i64 f)]),(1472,1,.row true (ab eS a))],2⟩
attribute [go_sem] kQ
@[go_sem] def hi22_12:DT:=.i2 0 (.i2 1 (.i2 2 (.i2 3 (.i2 4 (.i2 5 (.i2 6 (.i2 7 (.i2 8 (.i2 9 (.i2 10 (.i2 11 (.i2 12 (.i2 13 (.i2 14 .nil))))))))))))))
def hi22:Hint where
 acts:=fun _=>[]
 draws:=fun
  | 12=>⟨hi22_12,[[],[0],[],[2],[],[4],[],[4,5,6],[4,5,6,7],[4,5,6,7,8],[2,3,4,5,6,7,8,9],[2,3,4,5,6,7,8,9,10],[2,3,4,5,6,7,8,9,10,11],.range 13,.range 14],.range 15⟩
  | _=>⟨.nil,[],[]⟩
theorem MU (i:Nat):hi22.acts i=[]:=rfl
theorem MV (i:Nat):hi22.views i=none:=rfl
attribute [go_sem] MU MV Tryz.ntmps22 Tryz.results22
@[go_sem] theorem NP:(hi22.draws 12).order=hi22_12:=rfl
theorem vz {s:GShow}{log:List GEntry}{res:List ByteArray}(h:gD s log=some res):ap Tryz.prog 22 [.agg (GShow.encS s),.sl (ab GEntry.encS log)] [] (.ref 20000 1 0 res.length) [(20000,1,.row true (ab eS res))]:=by
 refine aj (ra:=[.home 4]) (md:=mdT) hT (hi:=hi22) Tryz.func22 rfl rfl (by decide +kernel) (by simp) ?_
 unfold gD at h
 obtain ⟨r01,g1,h⟩:=ae h
 simp(config:=cS)only[go_sem]
 refine ag (vH g1) ?_
 obtain ⟨h2,h⟩|⟨h2,h⟩:=af h
 ·obtain ⟨q12,l3,h⟩:=ae h
  simp(config:=cS)only[go_sem,eZt h2]
  refine ao (m1:=.mk) (m2:=.mk) [.nf [2,7,24,25,26] [128,1472]] (kQ log ((log.length:Nat):Int) s.nodes s.ties s.horizon) l3 ?_ ?_
  ·simp(config:=cS)only[go_sem,eZt h2]
  ·intro nb4 sb4 bb4 b4 gb4
   obtain ⟨v26_1,out_1⟩:=sb4
   unfold em at b4
   try dsimp only at b4
   obtain ⟨h5,b4⟩|⟨h5,b4⟩:=af b4
   ·obtain ⟨x02,g6,b4⟩:=ae b4
    obtain ⟨h7,h8,h9⟩:=ai g6
    obtain ⟨r03,g10,b4⟩:=ae b4
    simp(config:=cS)only[go_sem,eZt h2,eqT h5,h7,h8,h9]
    refine ag (pt g10) ?_
    obtain ⟨h11,b4⟩:=ak b4
    obtain ⟨q11,l12,b4⟩:=ae b4
    simp(config:=cS)only[go_sem,eZt h2,eqT h5,h7,h8,h9,eqT h11]
    refine ao (m1:=.mk) (m2:=.mk) [.nf [2,7,9,10,24,25,26,35,36,37] [128,1472,576]] (kO log ((log.length:Nat):Int) v26_1 x02.ties ((x02.ties.length:Nat):Int) s.nodes s.ties s.horizon x02.now x02.nodes x02.values out_1) l12 ?_ ?_
    ·simp(config:=cS)only[go_sem,eZt h2,eqT h5,h7,h8,h9,eqT h11]
    ·intro nb13 sb13 bb13 b13 gb13
     obtain ⟨line_2,v37_2⟩:=sb13
     unfold cL at b13
     try dsimp only at b13
     obtain ⟨h14,b13⟩|⟨h14,b13⟩:=af b13
     ·obtain ⟨x04,g15,b13⟩:=ae b13
      obtain ⟨h16,h17,h18⟩:=ai g15
      obtain ⟨h19,b13⟩:=ak b13
      obtain ⟨x05,g20,b13⟩:=ae b13
      obtain ⟨h21,h22,h23⟩:=ai g20
      obtain ⟨x06,g24,b13⟩:=ae b13
      obtain ⟨h25,h26,h27⟩:=ai g24
      obtain ⟨h28,b13⟩:=ak b13
      try simp(config:=cS)only[go_sem] at h28
      cases b13
      simp(config:=cS)only[go_sem,eZt h2,eqT h5,h7,h8,h9,eqT h11,eqT h14,h16,h17,h18,eqT h19,h21,h22,h23,h25,h26,h27,eqT h28]
      refine ar gb13 ?_
      simp(config:=cS)only[go_sem,eZt h2,eqT h5,h7,h8,h9,eqT h11,eqT h14,h16,h17,h18,eqT h19,h21,h22,h23,h25,h26,h27,eqT h28]
     ·cases b13
      obtain rfl:=(al gb13).symm
      try dsimp only at b4
      obtain ⟨q10,l30,b4⟩:=ae b4
      simp(config:=cS)only[go_sem,eZt h2,eqT h5,h7,h8,h9,eqT h11,eqF h14]
      refine ao (m1:=.mk) (m2:=.mk) [.nf [2,7,9,10,24,25,26,57,58,59] [128,1472,576]] (kP log ((log.length:Nat):Int) v26_1 x02.nodes ((x02.nodes.length:Nat):Int) s.nodes s.ties s.horizon x02.now x02.ties x02.values out_1) l30 ?_ ?_
      ·simp(config:=cS)only[go_sem,eZt h2,eqT h5,h7,h8,h9,eqT h11,eqF h14]
      ·intro nb31 sb31 bb31 b31 gb31
       obtain ⟨line_3,v59_3⟩:=sb31
       unfold cM at b31
       try dsimp only at b31
       obtain ⟨h32,b31⟩|⟨h32,b31⟩:=af b31
       ·obtain ⟨x07,g33,b31⟩:=ae b31
        obtain ⟨h34,h35,h36⟩:=ai g33
        obtain ⟨h37,b31⟩:=ak b31
        obtain ⟨x08,g38,b31⟩:=ae b31
        obtain ⟨h39,h40,h41⟩:=ai g38
        obtain ⟨h42,b31⟩:=ak b31
        try simp(config:=cS)only[go_sem] at h42
        cases b31
        simp(config:=cS)only[go_sem,eZt h2,eqT h5,h7,h8,h9,eqT h11,eqF h14,eqT h32,h34,h35,h36,eqT h37,h39,h40,h41,eqT h42]
        refine ar gb31 ?_
        simp(config:=cS)only[go_sem,eZt h2,eqT h5,h7,h8,h9,eqT h11,eqF h14,eqT h32,h34,h35,h36,eqT h37,h39,h40,h41,eqT h42]
       ·cases b31
        obtain rfl:=(al gb31).symm
        try dsimp only at b4
        obtain ⟨h44,b4⟩|⟨h44,b4⟩:=af b4
        ·obtain ⟨h45,b4⟩:=ak b4
         obtain ⟨r09,g46,b4⟩:=ae b4
         simp(config:=cS)only[go_sem,eZt h2,eqT h5,h7,h8,h9,eqT h11,eqF h14,eqF h32,eqT h44,eqT h45]
         refine ag (sQ g46) ?_
         obtain ⟨h47,b4⟩:=ak b4
         try simp(config:=cS)only[go_sem] at h47
         obtain ⟨h48,b4⟩:=ak b4
         obtain ⟨h49,b4⟩:=ak b4
         cases b4
         simp(config:=cS)only[go_sem,eZt h2,eqT h5,h7,h8,h9,eqT h11,eqF h14,eqF h32,eqT h44,eqT h45,eqT h47,eqT h48,eqT h49]
         refine ar gb4 ?_
         simp(config:=cS)only[go_sem,eZt h2,eqT h5,h7,h8,h9,eqT h11,eqF h14,eqF h32,eqT h44,eqT h45,eqT h47,eqT h48,eqT h49]
        ·obtain ⟨h50,b4⟩:=ak b4
         obtain ⟨h51,b4⟩:=ak b4
         cases b4
         simp(config:=cS)only[go_sem,eZt h2,eqT h5,h7,h8,h9,eqT h11,eqF h14,eqF h32,eqF h44,eqT h50,eqT h51]
         refine ar gb4 ?_
         simp(config:=cS)only[go_sem,eZt h2,eqT h5,h7,h8,h9,eqT h11,eqF h14,eqF h32,eqF h44,eqT h50,eqT h51]
   ·cases b4
    obtain rfl:=(al gb4).symm
    try dsimp only at h
    cases h
    simp(config:=cS)only[go_sem,eZt h2,eqF h5]
 ·cases h
  simp(config:=cS)only[go_sem,eZf h2]
def kb (b:List Int)(c:Int):(Int × (List ByteArray))→St
 | (d,a)=>⟨[(3,.ref 255 1 0 a.length),(13,.sl (ab eI b)),(14,.lit (.int .i64 c)),(15,.lit (.int .i64 d))],[(255,1,.row true (ab eS a))],2⟩
attribute [go_sem] kb
attribute [go_sem] Tryz.ntmps152 Tryz.results152
theorem sR {l:List Int}{res:ByteArray}(h:fm l=some res):ap Tryz.prog 152 [.sl (ab eI l)] [] (.lit (.string res)) []:=by
 refine aj (ra:=[]) (md:=mdT) hT (hi:=hi00) Tryz.func152 rfl rfl (by decide +kernel) (by simp) ?_
 unfold fm at h
 obtain ⟨r01,g1,h⟩:=ae h
 simp(config:=cS)only[go_sem]
 refine ag (gj g1) ?_
 obtain ⟨h2,h⟩|⟨h2,h⟩:=af h
 ·obtain ⟨h3,h⟩|⟨h3,h⟩:=af h
  ·cases h
   simp(config:=cS)only[go_sem,eZt h2,eqT h3]
  ·obtain ⟨q06,l4,h⟩:=ae h
   simp(config:=cS)only[go_sem,eZt h2,eqF h3]
   refine ao (m1:=.mk) (m2:=.mk) [.home 3,.nf [3,13,14,15] [255]] (kb l ((l.length:Nat):Int)) l4 ?_ ?_
   ·simp(config:=cS)only[go_sem]
   ·intro nb5 sb5 bb5 b5 gb5
    obtain ⟨v15_1,parts_1⟩:=sb5
    unfold dq at b5
    try dsimp only at b5
    obtain ⟨h6,b5⟩|⟨h6,b5⟩:=af b5
    ·obtain ⟨x02,g7,b5⟩:=ae b5
     obtain ⟨h8,h9,h10⟩:=ai g7
     obtain ⟨r03,g11,b5⟩:=ae b5
     simp(config:=cS)only[go_sem,eqT h6,h8,h9,h10]
     refine ag (fD g11) ?_
     obtain ⟨r04,g12,b5⟩:=ae b5
     simp(config:=cS)only[go_sem]
     refine ag (pw g12) ?_
     obtain ⟨h13,b5⟩:=ak b5
     obtain ⟨h14,b5⟩|⟨h14,b5⟩:=af b5
     ·obtain ⟨h15,b5⟩:=ak b5
      try simp(config:=cS)only[go_sem] at h15
      obtain ⟨h16,b5⟩:=ak b5
      obtain ⟨h17,b5⟩:=ak b5
      cases b5
      simp(config:=cS)only[go_sem,eZt h2,eqF h3,eqT h6,h8,h9,h10,eqT h13,eqT h14,eqT h15,eqT h16,eqT h17]
      refine ar gb5 ?_
      simp(config:=cS)only[go_sem]
     ·obtain ⟨h18,b5⟩:=ak b5
      obtain ⟨h19,b5⟩:=ak b5
      cases b5
      simp(config:=cS)only[go_sem,eqT h13,eqF h14,eqT h18,eqT h19]
      refine ar gb5 ?_
      simp(config:=cS)only[go_sem]
    ·cases b5
     obtain rfl:=(al gb5).symm
     try dsimp only at h
     obtain ⟨r05,g21,h⟩:=ae h
     simp(config:=cS)only[go_sem,eqF h6]
     refine ag (DO g21) ?_
     cases h
     simp(config:=cS)only[go_sem]
 ·cases h
  simp(config:=cS)only[go_sem,eZf h2]
def kR (a:List Int)(b:Int)(c:List GNode)(d:List GTie)(e f:Int)(g h:List Int):(ByteArray × Int)→St
 | (i,j)=>⟨[(2,.ptr 128 1 0 0),(3,.ptr 192 1 0 0),(5,.lit (.string i)),(15,.sl (ab eI a)),(16,.lit (.int .i64 b)),(17,.lit (.int .i64 j))],[(128,1,.var [.sl (ab GNode.encS c),.sl (ab GTie.enc d),.lit (.int .i64 e)]),(192,1,.var [.lit (.int .i64 f),.sl (ab eI a),.sl (ab eI g),.sl (ab eI h)])],2⟩
attribute [go_sem] kR
def kS (a:List Int)(b:Int)(c:List GNode)(d:List GTie)(e f:Int)(g h:List Int):(ByteArray × Int)→St
 | (i,j)=>⟨[(2,.ptr 128 1 0 0),(3,.ptr 192 1 0 0),(5,.lit (.string i)),(37,.sl (ab eI a)),(38,.lit (.int .i64 b)),(39,.lit (.int .i64 j))],[(128,1,.var [.sl (ab GNode.encS c),.sl (ab GTie.enc d),.lit (.int .i64 e)]),(192,1,.var [.lit (.int .i64 f),.sl (ab eI g),.sl (ab eI a),.sl (ab eI h)])],2⟩
attribute [go_sem] kS
@[go_sem] def hi76_5:DT:=.i2 0 (.i2 1 (.i2 2 (.i2 3 (.i2 4 (.i2 5 (.i2 6 (.i2 7 (.i2 8 (.i2 9 (.i2 10 (.i2 11 (.i2 12 (.i2 13 (.i2 14 .nil))))))))))))))
def hi76:Hint where
 acts:=fun _=>[]
 draws:=fun
  | 5=>⟨hi76_5,[[],[],[1],[],[3],[],[3,4,5],[3,4,5,6],[3,4,5,6,7],[1,2,3,4,5,6,7,8],[1,2,3,4,5,6,7,8,9],[1,2,3,4,5,6,7,8,9,10],[1,2,3,4,5,6,7,8,9,10,11],.range 13,.range 14],.range 15⟩
  | _=>⟨.nil,[],[]⟩
theorem MW (i:Nat):hi76.acts i=[]:=rfl
theorem MX (i:Nat):hi76.views i=none:=rfl
attribute [go_sem] MW MX Tryz.ntmps76 Tryz.results76
@[go_sem] theorem On:(hi76.draws 5).order=hi76_5:=rfl
theorem vA {s:GShow}{e:GEntry}{res:ByteArray}(h:gK s e=some res):ap Tryz.prog 76 [.agg (GShow.encS s),.agg (GEntry.encS e)] [] (.lit (.string res)) []:=by
 refine aj (ra:=[]) (md:=mdT) hT (hi:=hi76) Tryz.func76 rfl rfl (by decide +kernel) (by simp) ?_
 unfold gK at h
 obtain ⟨r01,g1,h⟩:=ae h
 simp(config:=cS)only[go_sem]
 refine ag (pw g1) ?_
 obtain ⟨h2,h⟩:=ak h
 obtain ⟨q09,l3,h⟩:=ae h
 simp(config:=cS)only[go_sem,eqT h2]
 refine ao (m1:=.mk) (m2:=.mk) [.nf [2,3,5,15,16,17] [128,192]] (kR e.ties ((e.ties.length:Nat):Int) s.nodes s.ties s.horizon e.now e.nodes e.values) l3 ?_ ?_
 ·simp(config:=cS)only[go_sem,eqT h2]
 ·intro nb4 sb4 bb4 b4 gb4
  obtain ⟨out_1,v17_1⟩:=sb4
  unfold ex at b4
  try dsimp only at b4
  obtain ⟨h5,b4⟩|⟨h5,b4⟩:=af b4
  ·obtain ⟨x02,g6,b4⟩:=ae b4
   obtain ⟨h7,h8,h9⟩:=ai g6
   obtain ⟨x03,g10,b4⟩:=ae b4
   obtain ⟨h11,h12,h13⟩:=ai g10
   obtain ⟨x04,g14,b4⟩:=ae b4
   obtain ⟨h15,h16,h17⟩:=ai g14
   obtain ⟨h18,b4⟩:=ak b4
   obtain ⟨h19,b4⟩:=ak b4
   try simp(config:=cS)only[go_sem] at h19
   cases b4
   simp(config:=cS)only[go_sem,eqT h2,eqT h5,h7,h8,h9,h11,h12,h13,h15,h16,h17,eqT h18,eqT h19]
   refine ar gb4 ?_
   simp(config:=cS)only[go_sem,eqT h2,eqT h5,h7,h8,h9,h11,h12,h13,h15,h16,h17,eqT h18,eqT h19]
  ·cases b4
   obtain rfl:=(al gb4).symm
   try dsimp only at h
   obtain ⟨q08,l21,h⟩:=ae h
   simp(config:=cS)only[go_sem,eqT h2,eqF h5]
   refine ao (m1:=.mk) (m2:=.mk) [.nf [2,3,5,37,38,39] [128,192]] (kS e.nodes ((e.nodes.length:Nat):Int) s.nodes s.ties s.horizon e.now e.ties e.values) l21 ?_ ?_
   ·simp(config:=cS)only[go_sem,eqT h2,eqF h5]
   ·intro nb22 sb22 bb22 b22 gb22
    obtain ⟨out_2,v39_2⟩:=sb22
    unfold ey at b22
    try dsimp only at b22
    obtain ⟨h23,b22⟩|⟨h23,b22⟩:=af b22
    ·obtain ⟨x05,g24,b22⟩:=ae b22
     obtain ⟨h25,h26,h27⟩:=ai g24
     obtain ⟨x06,g28,b22⟩:=ae b22
     obtain ⟨h29,h30,h31⟩:=ai g28
     obtain ⟨h32,b22⟩:=ak b22
     obtain ⟨h33,b22⟩:=ak b22
     try simp(config:=cS)only[go_sem] at h33
     cases b22
     simp(config:=cS)only[go_sem,eqT h2,eqF h5,eqT h23,h25,h26,h27,h29,h30,h31,eqT h32,eqT h33]
     refine ar gb22 ?_
     simp(config:=cS)only[go_sem,eqT h2,eqF h5,eqT h23,h25,h26,h27,h29,h30,h31,eqT h32,eqT h33]
    ·cases b22
     obtain rfl:=(al gb22).symm
     try dsimp only at h
     obtain ⟨h35,h⟩|⟨h35,h⟩:=af h
     ·obtain ⟨r07,g36,h⟩:=ae h
      simp(config:=cS)only[go_sem,eqT h2,eqF h5,eqF h23,eqT h35]
      refine ag (sR g36) ?_
      obtain ⟨h37,h⟩:=ak h
      obtain ⟨h38,h⟩:=ak h
      try simp(config:=cS)only[go_sem] at h38
      cases h
      simp(config:=cS)only[go_sem,eqT h2,eqF h5,eqF h23,eqT h35,eqT h37,eqT h38]
     ·cases h
      simp(config:=cS)only[go_sem,eqT h2,eqF h5,eqF h23,eqF h35]
def kT (b:List GEntry)(c:Int)(d:List GNode)(e:List GTie)(f:Int):(Int × (List ByteArray))→St
 | (g,a)=>⟨[(2,.ptr 128 1 0 0),(7,.ref 511 1 0 a.length),(18,.sl (ab GEntry.encS b)),(19,.lit (.int .i64 c)),(20,.lit (.int .i64 g))],[(128,1,.var [.sl (ab GNode.encS d),.sl (ab GTie.enc e),.lit (.int .i64 f)]),(511,1,.row true (ab eS a))],2⟩
attribute [go_sem] kT
attribute [go_sem] Tryz.ntmps24 Tryz.results24
theorem pq {s:GShow}{log:List GEntry}{res:List ByteArray}(h:eT s log=some res):ap Tryz.prog 24 [.agg (GShow.encS s),.sl (ab GEntry.encS log)] [] (.ref 20000 1 0 res.length) [(20000,1,.row true (ab eS res))]:=by
 refine aj (ra:=[.home 4]) (md:=mdT) hT (hi:=hi00) Tryz.func24 rfl rfl (by decide +kernel) (by simp) ?_
 unfold eT at h
 obtain ⟨r01,g1,h⟩:=ae h
 simp(config:=cS)only[go_sem]
 refine ag (vM g1) ?_
 obtain ⟨h2,h⟩|⟨h2,h⟩:=af h
 ·obtain ⟨q04,l3,h⟩:=ae h
  simp(config:=cS)only[go_sem,eZt h2]
  refine ao (m1:=.mk) (m2:=.mk) [.home 7,.nf [2,7,18,19,20] [128,511]] (kT log ((log.length:Nat):Int) s.nodes s.ties s.horizon) l3 ?_ ?_
  ·simp(config:=cS)only[go_sem,eZt h2]
  ·intro nb4 sb4 bb4 b4 gb4
   obtain ⟨v20_1,out_1⟩:=sb4
   unfold ez at b4
   try dsimp only at b4
   obtain ⟨h5,b4⟩|⟨h5,b4⟩:=af b4
   ·obtain ⟨x02,g6,b4⟩:=ae b4
    obtain ⟨h7,h8,h9⟩:=ai g6
    obtain ⟨r03,g10,b4⟩:=ae b4
    simp(config:=cS)only[go_sem,eZt h2,eqT h5,h7,h8,h9]
    refine ag (vA g10) ?_
    obtain ⟨h11,b4⟩:=ak b4
    obtain ⟨h12,b4⟩:=ak b4
    cases b4
    simp(config:=cS)only[go_sem,eZt h2,eqT h5,h7,h8,h9,eqT h11,eqT h12]
    refine ar gb4 ?_
    simp(config:=cS)only[go_sem,eZt h2,eqT h5,h7,h8,h9,eqT h11,eqT h12]
   ·cases b4
    obtain rfl:=(al gb4).symm
    try dsimp only at h
    cases h
    simp(config:=cS)only[go_sem,eZt h2,eqF h5]
 ·cases h
  simp(config:=cS)only[go_sem,eZf h2]
def kU (a b:List ByteArray)(i:Int):St:=⟨[(0,.sl (ab eS a)),(1,.sl (ab eS b)),(5,.lit (.int .i64 i))],[],2⟩
attribute [go_sem] kU
@[go_sem] def hi25_6:DT:=.i2 0 (.i2 1 (.i2 2 (.i2 3 (.i2 4 (.i2 5 (.i2 6 (.i2 7 (.i2 8 .nil))))))))
def hi25:Hint where
 acts:=fun _=>[]
 draws:=fun
  | 6=>⟨hi25_6,[[],[],[0,1],[0,1,2],[],[],[4,5],[4,5,6],.range 8],.range 9⟩
  | _=>⟨.nil,[],[]⟩
theorem MY (i:Nat):hi25.acts i=[]:=rfl
theorem MZ (i:Nat):hi25.views i=none:=rfl
attribute [go_sem] MY MZ Tryz.ntmps25 Tryz.results25
@[go_sem] theorem Oo:(hi25.draws 6).order=hi25_6:=rfl
theorem lJ {a b:List ByteArray}{res:Bool}(h:cY a b=some res):ap Tryz.prog 25 [.sl (ab eS a),.sl (ab eS b)] [] (.lit (.bool res)) []:=by
 refine aj (ra:=[]) (md:=mdT) hT (hi:=hi25) Tryz.func25 rfl rfl (by decide +kernel) (by simp) ?_
 unfold cY at h
 obtain ⟨h1,h⟩|⟨h1,h⟩:=af h
 ·obtain ⟨q03,l2,h⟩:=ae h
  simp(config:=cS)only[go_sem,eqT h1]
  refine ao (m1:=.mk) (m2:=.mk) [.nf [0,1,5] []] (kU a b) l2 ?_ ?_
  ·simp(config:=cS)only[go_sem]
  ·intro nb3 i_1 bb3 b3 gb3
   unfold eA at b3
   try dsimp only at b3
   obtain ⟨h4,b3⟩|⟨h4,b3⟩:=af b3
   ·obtain ⟨x01,g5,b3⟩:=ae b3
    obtain ⟨h6,h7,h8⟩:=ai g5
    obtain ⟨x02,g9,b3⟩:=ae b3
    obtain ⟨h10,h11,h12⟩:=ai g9
    obtain ⟨h13,b3⟩|⟨h13,b3⟩:=af b3
    ·cases b3
     simp(config:=cS)only[go_sem,eqT h4,h6,h7,h8,h10,h11,h12,eqT h13]
     refine ar gb3 ?_
     simp(config:=cS)only[go_sem]
    ·cases b3
     obtain rfl:=(al gb3).symm
     try dsimp only at h
     cases h
     simp(config:=cS)only[go_sem,eqT h4,h6,h7,h8,h10,h11,h12,eqF h13]
   ·cases b3
    obtain rfl:=(al gb3).symm
    try dsimp only at h
    cases h
    simp(config:=cS)only[go_sem,eqF h4]
 ·cases h
  simp(config:=cS)only[go_sem,eqF h1]
def kc (b:Bool)  : (Int × Int × (List ByteArray))→St
 | (k,i,a)=>⟨[(0,.ref 10000 0 0 a.length),(1,.lit (.int .i64 k)),(5,.lit (.int .i64 i))],[(10000,0,.row b (ab eS a))],2⟩
attribute [go_sem] kc
attribute [go_sem] Tryz.ntmps29 Tryz.results29
theorem sS {a:List ByteArray}{k:Int}{zb0:Bool}{res:Int × (List ByteArray)}(h:fw a k=some res):ap Tryz.prog 29 [.ref 10000 0 0 a.length,.lit (.int .i64 k)] [(10000,0,.row zb0 (ab eS a))] (.lit (.int .i64 res.1)) [(10000,0,.row zb0 (ab eS res.2))]:=by
 refine aj (ra:=[]) (md:=mdT) hT (hi:=hi00) Tryz.func29 rfl rfl (by decide +kernel) (by simp) ?_
 unfold fw at h
 obtain ⟨q03,l1,h⟩:=ae h
 simp(config:=cS)only[go_sem]
 refine ao (m1:=.mk) (m2:=.mk) [.nf [0,1,5] [10000]] (kc zb0) l1 ?_ ?_
 ·simp(config:=cS)only[go_sem]
 ·intro nb2 sb2 bb2 b2 gb2
  obtain ⟨k_1,i_1,a_1⟩:=sb2
  unfold dt at b2
  try dsimp only at b2
  obtain ⟨h3,b2⟩|⟨h3,b2⟩:=af b2
  ·obtain ⟨r01,g4,b2⟩:=ae b2
   simp(config:=cS)only[go_sem,eqT h3]
   refine ag (mW g4) ?_
   obtain ⟨x02,g5,b2⟩:=ae b2
   obtain ⟨h6,h7,h8⟩:=ai g5
   cases b2
   simp(config:=cS)only[go_sem,h6,h7,h8]
   refine ar gb2 ?_
   simp(config:=cS)only[go_sem]
  ·cases b2
   obtain rfl:=(al gb2).symm
   try dsimp only at h
   cases h
   simp(config:=cS)only[go_sem,eqF h3]
def kd (a:List ByteArray):(Int × Int)→St
 | (k,i)=>⟨[(0,.sl (ab eS a)),(1,.lit (.int .i64 k)),(5,.lit (.int .i64 i))],[],2⟩
attribute [go_sem] kd
@[go_sem] def hi30_4:DT:=.i2 0 (.i2 1 (.i1 2 (.i1 3 (.i2 4 (.i0 5 [2,3] (.i2 6 .nil))))))
def hi30:Hint where
 acts:=fun _=>[]
 draws:=fun
  | 4=>⟨hi30_4,[[],[],[0,1],[0,1,2],[],[4],.range 6],.range 7⟩
  | _=>⟨.nil,[],[]⟩
theorem Na (i:Nat):hi30.acts i=[]:=rfl
theorem Nb (i:Nat):hi30.views i=none:=rfl
attribute [go_sem] Na Nb Tryz.ntmps30 Tryz.results30
@[go_sem] theorem Oq:(hi30.draws 4).order=hi30_4:=rfl
theorem om {a:List ByteArray}{k res:Int}(h:dv a k=some res):ap Tryz.prog 30 [.sl (ab eS a),.lit (.int .i64 k)] [] (.lit (.int .i64 res)) []:=by
 refine aj (ra:=[]) (md:=mdT) hT (hi:=hi30) Tryz.func30 rfl rfl (by decide +kernel) (by simp) ?_
 unfold dv at h
 obtain ⟨q03,l1,h⟩:=ae h
 simp(config:=cS)only[go_sem]
 refine ao (m1:=.mk) (m2:=.mk) [.nf [0,1,5] []] (kd a) l1 ?_ ?_
 ·simp(config:=cS)only[go_sem]
 ·intro nb2 sb2 bb2 b2 gb2
  obtain ⟨k_1,i_1⟩:=sb2
  unfold du at b2
  try dsimp only at b2
  obtain ⟨h3,b2⟩|⟨h3,b2⟩:=af b2
  ·obtain ⟨x01,g4,b2⟩:=ae b2
   obtain ⟨h5,h6,h7⟩:=ai g4
   obtain ⟨r02,g8,b2⟩:=ae b2
   simp(config:=cS)only[go_sem,eqT h3,h5,h6,h7]
   refine ag (mW g8) ?_
   obtain ⟨h9,b2⟩|⟨h9,b2⟩:=af b2
   ·cases b2
    simp(config:=cS)only[go_sem,eqT h3,h5,h6,h7,eqT h9]
    refine ar gb2 ?_
    simp(config:=cS)only[go_sem,eqT h3,h5,h6,h7,eqT h9]
   ·cases b2
    obtain rfl:=(al gb2).symm
    try dsimp only at h
    cases h
    simp(config:=cS)only[go_sem,eqT h3,h5,h6,h7,eqF h9]
  ·cases b2
   obtain rfl:=(al gb2).symm
   try dsimp only at h
   cases h
   simp(config:=cS)only[go_sem,eqF h3]
@[go_sem] def hi5_14:DT:=.i1 0 (.i2 1 (.i0 2 [0] (.i2 3 (.i2 4 .nil))))
def hi5:Hint where
 acts:=fun _=>[]
 draws:=fun
  | 14=>⟨hi5_14,[[],[],[1],[0,1,2],[0,1,2,3]],.range 5⟩
  | _=>⟨.nil,[],[]⟩
theorem hi5a (i:Nat):hi5.acts i=[]:=rfl
theorem hi5v (i:Nat):hi5.views i=none:=rfl
attribute [go_sem] hi5a hi5v Tryz.ntmps5 Tryz.results5
@[go_sem] theorem Ot:(hi5.draws 14).order=hi5_14:=rfl
theorem pI {aS:GShow}{aLog:List GEntry}{res:Bool}(h:dZ aS aLog=some res):ap Tryz.prog 5 [.agg (GShow.encS aS),.sl (ab GEntry.encS aLog)] [] (.lit (.bool res)) []:=by
 refine aj (ra:=[]) (md:=mdT) hT (hi:=hi5) Tryz.func5 rfl rfl (by decide +kernel) (by simp) ?_
 unfold dZ at h
 obtain ⟨r01,g1,h⟩:=ae h
 simp(config:=cS)only[go_sem]
 refine ag (AD g1) ?_
 obtain ⟨h2,h⟩|⟨h2,h⟩:=af h
 ·cases h
  simp(config:=cS)only[go_sem,eqT h2]
 ·obtain ⟨r02,g3,h⟩:=ae h
  simp(config:=cS)only[go_sem,eqF h2]
  refine ag (xv g3) ?_
  obtain ⟨h4,h⟩|⟨h4,h⟩:=af h
  ·cases h
   simp(config:=cS)only[go_sem,eqF h2,eqT h4]
  ·obtain ⟨r03,g5,h⟩:=ae h
   simp(config:=cS)only[go_sem,eqF h2,eqF h4]
   refine ag (lB g5) ?_
   obtain ⟨r04,g6,h⟩:=ae h
   simp(config:=cS)only[go_sem,eqF h2,eqF h4]
   refine ag (jK g6) ?_
   obtain ⟨r05,g7,h⟩:=ae h
   simp(config:=cS)only[go_sem,eqF h2,eqF h4]
   refine ag (vz g7) ?_
   obtain ⟨r06,g8,h⟩:=ae h
   simp(config:=cS)only[go_sem,eqF h2,eqF h4]
   refine ag (lB g8) ?_
   obtain ⟨r07,g9,h⟩:=ae h
   simp(config:=cS)only[go_sem,eqF h2,eqF h4]
   refine ag (jK g9) ?_
   obtain ⟨r08,g10,h⟩:=ae h
   simp(config:=cS)only[go_sem,eqF h2,eqF h4]
   refine ag (pq g10) ?_
   obtain ⟨r09,g11,h⟩:=ae h
   simp(config:=cS)only[go_sem,eqF h2,eqF h4]
   refine ag (lJ g11) ?_
   obtain ⟨h12,h⟩|⟨h12,h⟩:=af h
   ·obtain ⟨r10,g13,h⟩:=ae h
    simp(config:=cS)only[go_sem,eqF h2,eqF h4,eZt h12]
    refine ag (lB g13) ?_
    obtain ⟨r11,g14,h⟩:=ae h
    simp(config:=cS)only[go_sem,eqF h2,eqF h4,eZt h12]
    refine ag (AR g14) ?_
    obtain ⟨h15,h⟩|⟨h15,h⟩:=af h
    ·obtain ⟨r12,g16,h⟩:=ae h
     simp(config:=cS)only[go_sem,eqF h2,eqF h4,eZt h12,eZt h15]
     refine ag (jK g16) ?_
     obtain ⟨r13,g17,h⟩:=ae h
     simp(config:=cS)only[go_sem,eqF h2,eqF h4,eZt h12,eZt h15]
     refine ag (xJ g17) ?_
     obtain ⟨h18,h⟩|⟨h18,h⟩:=af h
     ·obtain ⟨r14,g19,h⟩:=ae h
      simp(config:=cS)only[go_sem,eqF h2,eqF h4,eZt h12,eZt h15,eZt h18]
      refine ag (xL g19) ?_
      obtain ⟨r15,g20,h⟩:=ae h
      simp(config:=cS)only[go_sem,eqF h2,eqF h4,eZt h12,eZt h15,eZt h18]
      refine ag (ut g20) ?_
      obtain ⟨h21,h⟩|⟨h21,h⟩:=af h
      ·cases h
       simp(config:=cS)only[go_sem,eqF h2,eqF h4,eZt h12,eZt h15,eZt h18,eqT h21]
      ·obtain ⟨r16,g22,h⟩:=ae h
       simp(config:=cS)only[go_sem,eqF h2,eqF h4,eZt h12,eZt h15,eZt h18,eqF h21]
       refine ag (lJ g22) ?_
       obtain ⟨h23,h⟩|⟨h23,h⟩:=af h
       ·obtain ⟨r17,g24,h⟩:=ae h
        simp(config:=cS)only[go_sem,eqF h2,eqF h4,eZt h12,eZt h15,eZt h18,eqF h21,eZt h23]
        refine ag (sS g24) ?_
        obtain ⟨h25,h⟩:=ak h
        obtain ⟨r18,g26,h⟩:=ae h
        simp(config:=cS)only[go_sem,eqF h2,eqF h4,eZt h12,eZt h15,eZt h18,eqF h21,eZt h23,eqT h25]
        refine ag (om g26) ?_
        obtain ⟨h27,h⟩|⟨h27,h⟩:=af h
        ·cases h
         simp(config:=cS)only[go_sem,eqF h2,eqF h4,eZt h12,eZt h15,eZt h18,eqF h21,eZt h23,eqT h25,eqT h27]
        ·obtain ⟨h28,h⟩|⟨h28,h⟩:=af h
         ·obtain ⟨r19,g29,h⟩:=ae h
          simp(config:=cS)only[go_sem,eqF h2,eqF h4,eZt h12,eZt h15,eZt h18,eqF h21,eZt h23,eqT h25,eqF h27,eqT h28]
          refine ag (lB g29) ?_
          obtain ⟨r20,g30,h⟩:=ae h
          simp(config:=cS)only[go_sem,eqF h2,eqF h4,eZt h12,eZt h15,eZt h18,eqF h21,eZt h23,eqT h25,eqF h27,eqT h28]
          refine ag (jK g30) ?_
          obtain ⟨r21,g31,h⟩:=ae h
          simp(config:=cS)only[go_sem,eqF h2,eqF h4,eZt h12,eZt h15,eZt h18,eqF h21,eZt h23,eqT h25,eqF h27,eqT h28]
          refine ag (pq g31) ?_
          obtain ⟨r22,g32,h⟩:=ae h
          simp(config:=cS)only[go_sem,eqF h2,eqF h4,eZt h12,eZt h15,eZt h18,eqF h21,eZt h23,eqT h25,eqF h27,eqT h28]
          refine ag (lJ g32) ?_
          obtain ⟨h33,h⟩|⟨h33,h⟩:=af h
          ·obtain ⟨r23,g34,h⟩:=ae h
           simp(config:=cS)only[go_sem,eqF h2,eqF h4,eZt h12,eZt h15,eZt h18,eqF h21,eZt h23,eqT h25,eqF h27,eqT h28,eZt h33]
           refine ag (om g34) ?_
           obtain ⟨h35,h⟩|⟨h35,h⟩:=af h
           ·cases h
            simp(config:=cS)only[go_sem,eqF h2,eqF h4,eZt h12,eZt h15,eZt h18,eqF h21,eZt h23,eqT h25,eqF h27,eqT h28,eZt h33,eqT h35]
           ·obtain ⟨h36,h⟩|⟨h36,h⟩:=af h
            ·cases h
             simp(config:=cS)only[go_sem,eqF h2,eqF h4,eZt h12,eZt h15,eZt h18,eqF h21,eZt h23,eqT h25,eqF h27,eqT h28,eZt h33,eqF h35,eqT h36]
            ·cases h
             simp(config:=cS)only[go_sem,eqF h2,eqF h4,eZt h12,eZt h15,eZt h18,eqF h21,eZt h23,eqT h25,eqF h27,eqT h28,eZt h33,eqF h35,eqF h36]
          ·cases h
           simp(config:=cS)only[go_sem,eqF h2,eqF h4,eZt h12,eZt h15,eZt h18,eqF h21,eZt h23,eqT h25,eqF h27,eqT h28,eZf h33]
         ·cases h
          simp(config:=cS)only[go_sem,eqF h2,eqF h4,eZt h12,eZt h15,eZt h18,eqF h21,eZt h23,eqT h25,eqF h27,eqF h28]
       ·cases h
        simp(config:=cS)only[go_sem,eqF h2,eqF h4,eZt h12,eZt h15,eZt h18,eqF h21,eZf h23]
     ·cases h
      simp(config:=cS)only[go_sem,eqF h2,eqF h4,eZt h12,eZt h15,eZf h18]
    ·cases h
     simp(config:=cS)only[go_sem,eqF h2,eqF h4,eZt h12,eZf h15]
   ·cases h
    simp(config:=cS)only[go_sem,eqF h2,eqF h4,eZf h12]
end Go.Proofs.Qb
