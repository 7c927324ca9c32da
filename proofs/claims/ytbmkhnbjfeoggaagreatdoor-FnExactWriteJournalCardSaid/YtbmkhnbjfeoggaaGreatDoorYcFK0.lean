/- Functions. -/
import Derived.Test.YtbmkhnbjfeoggaaGreatDoorYcX
import Derived.Test.YtbmkhnbjfeoggaaGreatDoorYc37
set_option linter.all false
set_option maxRecDepth 100000
set_option maxHeartbeats 4000000
namespace Go.Proofs.Qc
open Go
attribute [go_sem] Tryz.ntmps50 Tryz.results50
theorem gD {a:List Int}{left res:Int}(h:co a left=some res):am Tryz.prog 50 [.sl (ab eI a),.lit (.int .i64 left)] [] (.lit (.int .i64 res)) []:=by
 refine ai (ra:=[]) (md:=mdT) hT (hi:=hi00) Tryz.func50 rfl rfl (by decide +kernel) (by simp) ?_
 unfold co at h
 obtain ⟨h1,h⟩|⟨h1,h⟩:=af h
 ·cases h
  simp(config:=cS)only[go_sem,eqT h1]
 ·cases h
  simp(config:=cS)only[go_sem,eqF h1]
attribute [go_sem] Tryz.ntmps114 Tryz.results114
theorem Ay {a:GNode}{left res:Int}(h:ji a left=some res):am Tryz.prog 114 [.agg (GNode.encS a),.lit (.int .i64 left)] [] (.lit (.int .i64 res)) []:=by
 refine ai (ra:=[]) (md:=mdT) hT (hi:=hi00) Tryz.func114 rfl rfl (by decide +kernel) (by simp) ?_
 unfold ji at h
 obtain ⟨h1,h⟩|⟨h1,h⟩:=af h
 ·cases h
  simp(config:=cS)only[go_sem,eqT h1]
 ·obtain ⟨r01,g2,h⟩:=ae h
  simp(config:=cS)only[go_sem,eqF h1]
  refine ag (gD g2) ?_
  obtain ⟨h3,h⟩|⟨h3,h⟩:=af h
  ·cases h
   simp(config:=cS)only[go_sem,eqT h3]
  ·cases h
   simp(config:=cS)only[go_sem,eqF h3]
def mq (a:List GNode):(Int × Int)→St
 | (b,i)=>⟨[(0,.sl (ab GNode.encS a)),(1,.lit (.int .i64 b)),(5,.lit (.int .i64 i))],[],2⟩
attribute [go_sem] mq
attribute [go_sem] Tryz.ntmps48 Tryz.results48
theorem yQ {a:List GNode}{left res:Int}(h:iy a left=some res):am Tryz.prog 48 [.sl (ab GNode.encS a),.lit (.int .i64 left)] [] (.lit (.int .i64 res)) []:=by
 refine ai (ra:=[]) (md:=mdT) hT (hi:=hi00) Tryz.func48 rfl rfl (by decide +kernel) (by simp) ?_
 unfold iy at h
 obtain ⟨h1,h⟩|⟨h1,h⟩:=af h
 ·cases h
  simp(config:=cS)only[go_sem,eqT h1]
 ·obtain ⟨q03,l2,h⟩:=ae h
  simp(config:=cS)only[go_sem,eqF h1]
  refine aw (m1:=.mk) (m2:=.mk) [.nf [0,1,5] []] (mq a) l2 ?_ ?_
  ·simp(config:=cS)only[go_sem]
  ·intro nb3 sb3 bb3 b3 gb3
   obtain ⟨left_1,i_1⟩:=sb3
   unfold fh at b3
   try dsimp only at b3
   obtain ⟨h4,b3⟩|⟨h4,b3⟩:=af b3
   ·obtain ⟨x01,g5,b3⟩:=ae b3
    obtain ⟨h6,h7,h8⟩:=ak g5
    obtain ⟨r02,g9,b3⟩:=ae b3
    simp(config:=cS)only[go_sem,eqT h4,h6,h7,h8]
    refine ag (Ay g9) ?_
    obtain ⟨h10,b3⟩|⟨h10,b3⟩:=af b3
    ·cases b3
     obtain rfl:=(aj gb3).symm
     try dsimp only at h
     cases h
     simp(config:=cS)only[go_sem,eqT h10]
    ·cases b3
     simp(config:=cS)only[go_sem,eqF h10]
     refine au gb3 ?_
     simp(config:=cS)only[go_sem]
   ·cases b3
    obtain rfl:=(aj gb3).symm
    try dsimp only at h
    cases h
    simp(config:=cS)only[go_sem,eqF h4]
attribute [go_sem] Tryz.ntmps49 Tryz.results49
theorem Az {a:List GTie}{left res:Int}(h:jj a left=some res):am Tryz.prog 49 [.sl (ab GTie.enc a),.lit (.int .i64 left)] [] (.lit (.int .i64 res)) []:=by
 refine ai (ra:=[]) (md:=mdT) hT (hi:=hi00) Tryz.func49 rfl rfl (by decide +kernel) (by simp) ?_
 unfold jj at h
 obtain ⟨h1,h⟩|⟨h1,h⟩:=af h
 ·cases h
  simp(config:=cS)only[go_sem,eqT h1]
 ·cases h
  simp(config:=cS)only[go_sem,eqF h1]
attribute [go_sem] Tryz.ntmps9 Tryz.results9
theorem AA {a:GShow}{left res:Int}(h:jk a left=some res):am Tryz.prog 9 [.agg (GShow.encS a),.lit (.int .i64 left)] [] (.lit (.int .i64 res)) []:=by
 refine ai (ra:=[]) (md:=mdT) hT (hi:=hi00) Tryz.func9 rfl rfl (by decide +kernel) (by simp) ?_
 unfold jk at h
 obtain ⟨r01,g1,h⟩:=ae h
 simp(config:=cS)only[go_sem]
 refine ag (yQ g1) ?_
 obtain ⟨h2,h⟩|⟨h2,h⟩:=af h
 ·cases h
  simp(config:=cS)only[go_sem,eqT h2]
 ·obtain ⟨r02,g3,h⟩:=ae h
  simp(config:=cS)only[go_sem,eqF h2]
  refine ag (Az g3) ?_
  obtain ⟨h4,h⟩|⟨h4,h⟩:=af h
  ·cases h
   simp(config:=cS)only[go_sem,eqT h4]
  ·cases h
   simp(config:=cS)only[go_sem,eqF h4]
def mQ (a:List Int):(Int × (List Int))→St
 | (i,b)=>⟨[(0,.sl (ab eI a)),(3,.ref 448 1 0 b.length),(4,.lit (.int .i64 i))],[(448,1,.row true (ab eI b))],2⟩
attribute [go_sem] mQ
attribute [go_sem] Tryz.ntmps14 Tryz.results14
theorem gE {a res:List Int}(h:cp a=some res):am Tryz.prog 14 [.sl (ab eI a)] [] (.ref 20000 1 0 res.length) [(20000,1,.row true (ab eI res))]:=by
 refine ai (ra:=[.home 2]) (md:=mdT) hT (hi:=hi00) Tryz.func14 rfl rfl (by decide +kernel) (by simp) ?_
 unfold cp at h
 obtain ⟨h1,h⟩:=al h
 obtain ⟨h2,h⟩:=al h
 obtain ⟨q03,l3,h⟩:=ae h
 simp(config:=cS)only[go_sem,eqT h1,eqT h2]
 refine aw (m1:=.mk) (m2:=.mk) [.nf [0,3,4] [448]] (mQ a) l3 ?_ ?_
 ·simp(config:=cS)only[go_sem]
 ·intro nb4 sb4 bb4 b4 gb4
  obtain ⟨i_1,out_1⟩:=sb4
  unfold fZ at b4
  try dsimp only at b4
  obtain ⟨h5,b4⟩|⟨h5,b4⟩:=af b4
  ·obtain ⟨x01,g6,b4⟩:=ae b4
   obtain ⟨h7,h8,h9⟩:=ak g6
   obtain ⟨x02,g10,b4⟩:=ae b4
   obtain ⟨h11,h12,h13⟩:=ak g10
   cases b4
   simp(config:=cS)only[go_sem,eqT h5,h7,h8,h9,h11,h12,h13]
   refine au gb4 ?_
   simp(config:=cS)only[go_sem]
  ·cases b4
   obtain rfl:=(aj gb4).symm
   try dsimp only at h
   cases h
   simp(config:=cS)only[go_sem,eqF h5]
attribute [go_sem] Tryz.ntmps124 Tryz.results124
theorem AB {a res:GNode}(h:jl a=some res):am Tryz.prog 124 [.agg (GNode.encS a)] [] (.agg [.lit (.string res.name),.ref 20000 1 0 res.label.length,.lit (.int .i64 res.watch)]) [(20000,1,.row true (ab eI res.label))]:=by
 refine ai (ra:=[.homeCell 128 1]) (md:=mdT) hT (hi:=hi00) Tryz.func124 rfl rfl (by decide +kernel) (by simp) ?_
 unfold jl at h
 obtain ⟨r01,g1,h⟩:=ae h
 simp(config:=cS)only[go_sem]
 refine ag (gE g1) ?_
 cases h
 simp(config:=cS)only[go_sem]
def mr (a:List GNode):(Int × (List GNode))→St
 | (i,b)=>⟨[(0,.sl (ab GNode.encS a)),(3,.ref 448 1 0 b.length),(4,.lit (.int .i64 i))],[(448,1,.row true (ab GNode.encO b))],2⟩
attribute [go_sem] mr
attribute [go_sem] Tryz.ntmps54 Tryz.results54
theorem yR {a res:List GNode}(h:iA a=some res):am Tryz.prog 54 [.sl (ab GNode.encS a)] [] (.ref 20000 1 0 res.length) [(20000,1,.row true (ab GNode.encO res))]:=by
 refine ai (ra:=[.home 2]) (md:=mdT) hT (hi:=hi00) Tryz.func54 rfl rfl (by decide +kernel) (by simp) ?_
 unfold iA at h
 obtain ⟨h1,h⟩:=al h
 obtain ⟨h2,h⟩:=al h
 obtain ⟨q04,l3,h⟩:=ae h
 simp(config:=cS)only[go_sem,eqT h1,eqT h2]
 refine aw (m1:=.mk) (m2:=.mk) [.nf [0,3,4] [448]] (mr a) l3 ?_ ?_
 ·simp(config:=cS)only[go_sem]
 ·intro nb4 sb4 bb4 b4 gb4
  obtain ⟨i_1,out_1⟩:=sb4
  unfold fi at b4
  try dsimp only at b4
  obtain ⟨h5,b4⟩|⟨h5,b4⟩:=af b4
  ·obtain ⟨x01,g6,b4⟩:=ae b4
   obtain ⟨h7,h8,h9⟩:=ak g6
   obtain ⟨r02,g10,b4⟩:=ae b4
   simp(config:=cS)only[go_sem,eqT h5,h7,h8,h9]
   refine ag (AB g10) ?_
   obtain ⟨x03,g11,b4⟩:=ae b4
   obtain ⟨h12,h13,h14⟩:=ak g11
   cases b4
   simp(config:=cS)only[go_sem,h12,h13,h14]
   refine au gb4 ?_
   simp(config:=cS)only[go_sem]
  ·cases b4
   obtain rfl:=(aj gb4).symm
   try dsimp only at h
   cases h
   simp(config:=cS)only[go_sem,eqF h5]
attribute [go_sem] Tryz.ntmps125 Tryz.results125
theorem Cs {a res:GTie}(h:mH a=some res):am Tryz.prog 125 [.agg (GTie.enc a)] [] (.agg (GTie.enc res)) []:=by
 refine ai (ra:=[]) (md:=mdT) hT (hi:=hi00) Tryz.func125 rfl rfl (by decide +kernel) (by simp) ?_
 unfold mH at h
 cases h
 simp(config:=cS)only[go_sem]
def mR (a:List GTie):(Int × (List GTie))→St
 | (i,b)=>⟨[(0,.sl (ab GTie.enc a)),(3,.ref 448 1 0 b.length),(4,.lit (.int .i64 i))],[(448,1,.row true (ab GTie.enc b))],2⟩
attribute [go_sem] mR
attribute [go_sem] Tryz.ntmps55 Tryz.results55
theorem AC {a res:List GTie}(h:jm a=some res):am Tryz.prog 55 [.sl (ab GTie.enc a)] [] (.ref 20000 1 0 res.length) [(20000,1,.row true (ab GTie.enc res))]:=by
 refine ai (ra:=[.home 2]) (md:=mdT) hT (hi:=hi00) Tryz.func55 rfl rfl (by decide +kernel) (by simp) ?_
 unfold jm at h
 obtain ⟨h1,h⟩:=al h
 obtain ⟨h2,h⟩:=al h
 obtain ⟨q04,l3,h⟩:=ae h
 simp(config:=cS)only[go_sem,eqT h1,eqT h2]
 refine aw (m1:=.mk) (m2:=.mk) [.nf [0,3,4] [448]] (mR a) l3 ?_ ?_
 ·simp(config:=cS)only[go_sem]
 ·intro nb4 sb4 bb4 b4 gb4
  obtain ⟨i_1,out_1⟩:=sb4
  unfold ga at b4
  try dsimp only at b4
  obtain ⟨h5,b4⟩|⟨h5,b4⟩:=af b4
  ·obtain ⟨x01,g6,b4⟩:=ae b4
   obtain ⟨h7,h8,h9⟩:=ak g6
   obtain ⟨r02,g10,b4⟩:=ae b4
   simp(config:=cS)only[go_sem,eqT h5,h7,h8,h9]
   refine ag (Cs g10) ?_
   obtain ⟨x03,g11,b4⟩:=ae b4
   obtain ⟨h12,h13,h14⟩:=ak g11
   cases b4
   simp(config:=cS)only[go_sem,h12,h13,h14]
   refine au gb4 ?_
   simp(config:=cS)only[go_sem]
  ·cases b4
   obtain rfl:=(aj gb4).symm
   try dsimp only at h
   cases h
   simp(config:=cS)only[go_sem,eqF h5]
attribute [go_sem] Tryz.ntmps12 Tryz.results12
theorem AD {a res:GShow}(h:jn a=some res):am Tryz.prog 12 [.agg (GShow.encS a)] [] (.agg [.ref 20000 1 0 res.nodes.length,.ref 20001 1 0 res.ties.length,.lit (.int .i64 res.horizon)]) [(20000,1,.row true (ab GNode.encO res.nodes)),(20001,1,.row true (ab GTie.enc res.ties))]:=by
 refine ai (ra:=[.homeCell 128 0,.homeCell 128 1]) (md:=mdT) hT (hi:=hi00) Tryz.func12 rfl rfl (by decide +kernel) (by simp) ?_
 unfold jn at h
 obtain ⟨r01,g1,h⟩:=ae h
 simp(config:=cS)only[go_sem]
 refine ag (yR g1) ?_
 obtain ⟨r02,g2,h⟩:=ae h
 simp(config:=cS)only[go_sem]
 refine ag (AC g2) ?_
 cases h
 simp(config:=cS)only[go_sem]
def qx (s c:ByteArray)(a i:Int)(b:List ByteArray)(k:Int):St:=⟨[(0,.lit (.string s)),(1,.lit (.string c)),(5,.ref 576 1 0 b.length),(6,.lit (.int .i64 a)),(7,.lit (.int .i64 i)),(8,.lit (.int .i64 k))],[(576,1,.row true (ab eS b))],2⟩
attribute [go_sem] qx
def qy (s c:ByteArray):(Int × Int × (List ByteArray))→St
 | (a,i,b)=>⟨[(0,.lit (.string s)),(1,.lit (.string c)),(5,.ref 576 1 0 b.length),(6,.lit (.int .i64 a)),(7,.lit (.int .i64 i))],[(576,1,.row true (ab eS b))],2⟩
attribute [go_sem] qy
@[go_sem] def hi153_9:DT:=.i2 0 (.i2 1 (.i2 2 (.i2 3 (.i2 4 (.i2 5 (.i2 6 .nil))))))
def Fu:Hint where
 acts:=fun _=>[]
 draws:=fun
  | 9=>⟨hi153_9,[[],[],[0,1],[],[],[3,4],.range 6],.range 7⟩
  | _=>⟨.nil,[],[]⟩
theorem Lm (i:Nat):Fu.acts i=[]:=rfl
theorem Ln (i:Nat):Fu.views i=none:=rfl
attribute [go_sem] Lm Ln Tryz.ntmps153 Tryz.results153
@[go_sem] theorem NJ:(Fu.draws 9).order=hi153_9:=rfl
def qz (s:ByteArray)(i:Int):St:=⟨[(0,.lit (.string s)),(3,.lit (.int .i64 i))],[],2⟩
attribute [go_sem] qz
attribute [go_sem] Tryz.ntmps284 Tryz.results284
def kJ  : (Int × ByteArray)→St
 | (n,s)=>⟨[(0,.lit (.int .i64 n)),(3,.lit (.string s))],[],2⟩
attribute [go_sem] kJ
@[go_sem] def hi73_4:DT:=.i2 0 (.i2 1 (.i2 3 (.i2 4 (.i2 5 (.i1 6 (.fork (.i0 2 [6] (.i2 7 (.i1 8 (.i2 9 (.i2 10 .nil))))) (.i2 7 (.i1 8 (.i0 2 [6,8] (.i2 9 (.i2 10 .nil)))))))))))
def hi73:Hint where
 acts:=fun _=>[]
 draws:=fun
  | 4=>⟨hi73_4,[[],[0],[0,1],[],[3],[3,4],[3,4,5],[3,4,5,6],[3,4,5,6,7],.range 9,.range 10],.range 11⟩
  | _=>⟨.nil,[],[]⟩
theorem MV (i:Nat):hi73.acts i=[]:=rfl
theorem MW (i:Nat):hi73.views i=none:=rfl
attribute [go_sem] MV MW Tryz.ntmps73 Tryz.results73
@[go_sem] theorem Oi:(hi73.draws 4).order=hi73_4:=rfl
theorem sN {rec:Int→Option ByteArray}(hrec:∀ {n:Int} {res:ByteArray},rec n=some res→am Tryz.prog 73 [.lit (.int .i64 n)] [] (.lit (.string res)) []){n:Int}{res:ByteArray}(h:bK rec n=some res):am Tryz.prog 73 [.lit (.int .i64 n)] [] (.lit (.string res)) []:=by
 refine ai (ra:=[]) (md:=mdT) hT (hi:=hi73) Tryz.func73 rfl rfl (by decide +kernel) (by simp) ?_
 unfold bK at h
 obtain ⟨h1,h⟩|⟨h1,h⟩:=af h
 ·obtain ⟨h2,h⟩|⟨h2,h⟩:=af h
  ·obtain ⟨h3,h⟩:=al h
   cases h
   simp(config:=cS)only[go_sem,eqT h1,eqT h2,eqT h3]
  ·try simp(config:=cS)only[go_sem,eqT h1,eqF h2]
   refine gJ ?_ ?_
   ·obtain ⟨r01,g4,h⟩:=ae h
    simp(config:=cS)only[go_sem]
    refine ag (hrec g4) ?_
    obtain ⟨h5,h⟩:=al h
    cases h
    simp(config:=cS)only[go_sem,eqT h5]
   ·obtain ⟨r02,g6,h⟩:=ae h
    simp(config:=cS)only[go_sem]
    refine ag (hrec g6) ?_
    obtain ⟨h7,h⟩:=al h
    cases h
    simp(config:=cS)only[go_sem,eqT h7]
 ·obtain ⟨q03,l8,h⟩:=ae h
  simp(config:=cS)only[go_sem,eqF h1]
  refine aw (m1:=.mk) (m2:=.mk) [.nf [0,3] []] (kJ) l8 ?_ ?_
  ·simp(config:=cS)only[go_sem]
  ·intro nb9 sb9 bb9 b9 gb9
   obtain ⟨n_1,s_1⟩:=sb9
   unfold dW at b9
   try dsimp only at b9
   obtain ⟨h10,b9⟩|⟨h10,b9⟩:=af b9
   ·obtain ⟨h11,b9⟩:=al b9
    cases b9
    simp(config:=cS)only[go_sem,eqT h10,eqT h11]
    refine au gb9 ?_
    simp(config:=cS)only[go_sem]
   ·cases b9
    obtain rfl:=(aj gb9).symm
    try dsimp only at h
    obtain ⟨h13,h⟩:=al h
    cases h
    simp(config:=cS)only[go_sem,eqF h10,eqT h13]
theorem qA (fu:Nat):∀ {n:Int} {res:ByteArray},cf fu n=some res→am Tryz.prog 73 [.lit (.int .i64 n)] [] (.lit (.string res)) []:=by
 induction fu with
 | zero=>intro _ _ h;cases h
 | succ fu ih=>intro _ _ h;exact sN (@ih) h
theorem pn {n:Int}{res:ByteArray}(h:gm n=some res):am Tryz.prog 73 [.lit (.int .i64 n)] [] (.lit (.string res)) []:=qA 40 h
def qB (s:ByteArray)(a:Bool)(t:ByteArray):(Int × Int)→St
 | (n,i)=>⟨[(0,.lit (.string s)),(4,.lit (.bool a)),(5,.lit (.string t)),(6,.lit (.int .i64 n)),(7,.lit (.int .i64 i))],[],2⟩
attribute [go_sem] qB
def qC (s:ByteArray):(Int × Int)→St
 | (n,i)=>⟨[(0,.lit (.string s)),(4,.lit (.bool false)),(5,.lit (.string s)),(6,.lit (.int .i64 n)),(7,.lit (.int .i64 i))],[],2⟩
attribute [go_sem] qC
attribute [go_sem] Tryz.ntmps237 Tryz.results237
def qD (c:Int)(a:List ByteArray):(Int × (List Int))→St
 | (d,b)=>⟨[(4,.ref 576 1 0 b.length),(14,.ref 896 1 0 a.length),(15,.lit (.int .i64 c)),(16,.lit (.int .i64 d))],[(576,1,.row true (ab eI b)),(896,1,.row true (ab eS a))],2⟩
attribute [go_sem] qD
attribute [go_sem] Tryz.ntmps238 Tryz.results238
attribute [go_sem] Tryz.ntmps154 Tryz.results154
def po (c:Int)(a:List ByteArray):(Int × (List GEntry))→St
 | (d,b)=>⟨[(4,.ref 640 1 0 b.length),(5,.ref 768 1 0 a.length),(13,.ref 768 1 0 a.length),(14,.lit (.int .i64 c)),(15,.lit (.int .i64 d))],[(640,1,.row true (ab GEntry.encO b)),(768,1,.row true (ab eS a))],2⟩
attribute [go_sem] po
attribute [go_sem] Tryz.ntmps82 Tryz.results82
attribute [go_sem] Tryz.ntmps121 Tryz.results121
theorem cj {n lo hi:Int}{res:Bool}(h:bm n lo hi=some res):am Tryz.prog 121 [.lit (.int .i64 n),.lit (.int .i64 lo),.lit (.int .i64 hi)] [] (.lit (.bool res)) []:=by
 refine ai (ra:=[]) (md:=mdT) hT (hi:=hi00) Tryz.func121 rfl rfl (by decide +kernel) (by simp) ?_
 unfold bm at h
 obtain ⟨h1,h⟩|⟨h1,h⟩:=af h
 ·cases h
  simp(config:=cS)only[go_sem,eqT h1]
 ·cases h
  simp(config:=cS)only[go_sem,eqF h1]
def mS (s:ByteArray)(i:Int):St:=⟨[(0,.lit (.string s)),(3,.lit (.int .i64 i))],[],2⟩
attribute [go_sem] mS
attribute [go_sem] Tryz.ntmps273 Tryz.results273
theorem AE {s:ByteArray}{res:Bool}(h:jo s=some res):am Tryz.prog 273 [.lit (.string s)] [] (.lit (.bool res)) []:=by
 refine ai (ra:=[]) (md:=mdT) hT (hi:=hi00) Tryz.func273 rfl rfl (by decide +kernel) (by simp) ?_
 unfold jo at h
 obtain ⟨q03,l1,h⟩:=ae h
 simp(config:=cS)only[go_sem]
 refine aw (m1:=.mk) (m2:=.mk) [.nf [0,3] []] (mS s) l1 ?_ ?_
 ·simp(config:=cS)only[go_sem]
 ·intro nb2 i_1 bb2 b2 gb2
  unfold eo at b2
  try dsimp only at b2
  obtain ⟨h3,b2⟩|⟨h3,b2⟩:=af b2
  ·obtain ⟨c1001,g4,b2⟩:=ae b2
   obtain ⟨h5,h6,h7⟩:=fN g4
   obtain ⟨h8,b2⟩|⟨h8,b2⟩:=af b2
   ·obtain ⟨h9,b2⟩|⟨h9,b2⟩:=af b2
    ·cases b2
     simp(config:=cS)only[go_sem,eqT h3,h5,h6,h7,eqT h8,eqT h9]
     refine au gb2 ?_
     simp(config:=cS)only[go_sem]
    ·obtain ⟨h10,b2⟩|⟨h10,b2⟩:=af b2
     ·cases b2
      obtain rfl:=(aj gb2).symm
      try dsimp only at h
      cases h
      simp(config:=cS)only[go_sem,eqT h3,h5,h6,h7,eqT h8,eqF h9,eqT h10]
     ·obtain ⟨h12,b2⟩|⟨h12,b2⟩:=af b2
      ·cases b2
       obtain rfl:=(aj gb2).symm
       try dsimp only at h
       cases h
       simp(config:=cS)only[go_sem,eqT h3,h5,h6,h7,eqT h8,eqF h9,eqF h10,eqT h12]
      ·obtain ⟨h14,b2⟩|⟨h14,b2⟩:=af b2
       ·cases b2
        obtain rfl:=(aj gb2).symm
        try dsimp only at h
        cases h
        simp(config:=cS)only[go_sem,eqT h3,h5,h6,h7,eqT h8,eqF h9,eqF h10,eqF h12,eqT h14]
       ·cases b2
        simp(config:=cS)only[go_sem,eqT h3,h5,h6,h7,eqT h8,eqF h9,eqF h10,eqF h12,eqF h14]
        refine au gb2 ?_
        simp(config:=cS)only[go_sem]
   ·obtain ⟨h16,b2⟩|⟨h16,b2⟩:=af b2
    ·cases b2
     obtain rfl:=(aj gb2).symm
     try dsimp only at h
     cases h
     simp(config:=cS)only[go_sem,eqT h3,h5,h6,h7,eqF h8,eqT h16]
    ·obtain ⟨h18,b2⟩|⟨h18,b2⟩:=af b2
     ·cases b2
      obtain rfl:=(aj gb2).symm
      try dsimp only at h
      cases h
      simp(config:=cS)only[go_sem,eqT h3,h5,h6,h7,eqF h8,eqF h16,eqT h18]
     ·obtain ⟨h20,b2⟩|⟨h20,b2⟩:=af b2
      ·cases b2
       obtain rfl:=(aj gb2).symm
       try dsimp only at h
       cases h
       simp(config:=cS)only[go_sem,eqT h3,h5,h6,h7,eqF h8,eqF h16,eqF h18,eqT h20]
      ·cases b2
       simp(config:=cS)only[go_sem,eqT h3,h5,h6,h7,eqF h8,eqF h16,eqF h18,eqF h20]
       refine au gb2 ?_
       simp(config:=cS)only[go_sem]
  ·cases b2
   obtain rfl:=(aj gb2).symm
   try dsimp only at h
   obtain ⟨r02,g23,h⟩:=ae h
   simp(config:=cS)only[go_sem,eqF h3]
   refine ag (cj g23) ?_
   cases h
   simp(config:=cS)only[go_sem]
attribute [go_sem] Tryz.ntmps119 Tryz.results119
theorem kj {n res:Int}(h:cz n=some res):am Tryz.prog 119 [.lit (.int .i64 n)] [] (.lit (.int .i64 res)) []:=by
 refine ai (ra:=[]) (md:=mdT) hT (hi:=hi00) Tryz.func119 rfl rfl (by decide +kernel) (by simp) ?_
 unfold cz at h
 obtain ⟨h1,h⟩|⟨h1,h⟩:=af h
 ·cases h
  simp(config:=cS)only[go_sem,eqT h1]
 ·cases h
  simp(config:=cS)only[go_sem,eqF h1]
def ms (l:List Int)(a b:Int):St:=⟨[(0,.sl (ab eI l)),(5,.sl (ab eI l)),(6,.lit (.int .i64 a)),(7,.lit (.int .i64 b))],[],2⟩
attribute [go_sem] ms
attribute [go_sem] Tryz.ntmps149 Tryz.results149
theorem kk {l:List Int}{res:Bool}(h:cY l=some res):am Tryz.prog 149 [.sl (ab eI l)] [] (.lit (.bool res)) []:=by
 refine ai (ra:=[]) (md:=mdT) hT (hi:=hi00) Tryz.func149 rfl rfl (by decide +kernel) (by simp) ?_
 unfold cY at h
 obtain ⟨q06,l1,h⟩:=ae h
 simp(config:=cS)only[go_sem]
 refine aw (m1:=.mk) (m2:=.mk) [.nf [0,5,6,7] []] (ms l ((l.length:Nat):Int)) l1 ?_ ?_
 ·simp(config:=cS)only[go_sem]
 ·intro nb2 v7_1 bb2 b2 gb2
  unfold dz at b2
  try dsimp only at b2
  obtain ⟨h3,b2⟩|⟨h3,b2⟩:=af b2
  ·obtain ⟨x01,g4,b2⟩:=ae b2
   obtain ⟨h5,h6,h7⟩:=ak g4
   obtain ⟨h8,b2⟩|⟨h8,b2⟩:=af b2
   ·cases b2
    obtain rfl:=(aj gb2).symm
    try dsimp only at h
    cases h
    simp(config:=cS)only[go_sem,eqT h3,h5,h6,h7,eqT h8]
   ·obtain ⟨r02,g10,b2⟩:=ae b2
    simp(config:=cS)only[go_sem,eqT h3,h5,h6,h7,eqF h8]
    refine ag (cj g10) ?_
    obtain ⟨h11,b2⟩|⟨h11,b2⟩:=af b2
    ·obtain ⟨h12,b2⟩|⟨h12,b2⟩:=af b2
     ·obtain ⟨x03,g13,b2⟩:=ae b2
      obtain ⟨h14,h15,h16⟩:=ak g13
      obtain ⟨r04,g17,b2⟩:=ae b2
      simp(config:=cS)only[go_sem,eqT h3,h5,h6,h7,eqF h8,eZt h11,eqT h12,h14,h15,h16]
      refine ag (kj g17) ?_
      obtain ⟨r05,g18,b2⟩:=ae b2
      simp(config:=cS)only[go_sem,eqT h3,h5,h6,h7,eqF h8,eZt h11,eqT h12,h14,h15,h16]
      refine ag (kj g18) ?_
      obtain ⟨h19,b2⟩|⟨h19,b2⟩:=af b2
      ·cases b2
       obtain rfl:=(aj gb2).symm
       try dsimp only at h
       cases h
       simp(config:=cS)only[go_sem,eqT h3,h5,h6,h7,eqF h8,eZt h11,eqT h12,h14,h15,h16,eqT h19]
      ·cases b2
       simp(config:=cS)only[go_sem,eqT h3,h5,h6,h7,eqF h8,eZt h11,eqT h12,h14,h15,h16,eqF h19]
       refine au gb2 ?_
       simp(config:=cS)only[go_sem,eqT h3,h5,h6,h7,eqF h8,eZt h11,eqT h12,h14,h15,h16,eqF h19]
     ·cases b2
      simp(config:=cS)only[go_sem,eqT h3,h5,h6,h7,eqF h8,eZt h11,eqF h12]
      refine au gb2 ?_
      simp(config:=cS)only[go_sem,eqT h3,h5,h6,h7,eqF h8,eZt h11,eqF h12]
    ·cases b2
     obtain rfl:=(aj gb2).symm
     try dsimp only at h
     cases h
     simp(config:=cS)only[go_sem,eqT h3,h5,h6,h7,eqF h8,eZf h11]
  ·cases b2
   obtain rfl:=(aj gb2).symm
   try dsimp only at h
   cases h
   simp(config:=cS)only[go_sem,eqF h3]
attribute [go_sem] Tryz.ntmps218 Tryz.results218
theorem AF {n:GNode}{res:Bool}(h:jp n=some res):am Tryz.prog 218 [.agg (GNode.encS n)] [] (.lit (.bool res)) []:=by
 refine ai (ra:=[]) (md:=mdT) hT (hi:=hi00) Tryz.func218 rfl rfl (by decide +kernel) (by simp) ?_
 unfold jp at h
 obtain ⟨r01,g1,h⟩:=ae h
 simp(config:=cS)only[go_sem]
 refine ag (AE g1) ?_
 obtain ⟨h2,h⟩|⟨h2,h⟩:=af h
 ·obtain ⟨r02,g3,h⟩:=ae h
  simp(config:=cS)only[go_sem,eZt h2]
  refine ag (kk g3) ?_
  obtain ⟨h4,h⟩|⟨h4,h⟩:=af h
  ·obtain ⟨r03,g5,h⟩:=ae h
   simp(config:=cS)only[go_sem,eZt h2,eZt h4]
   refine ag (cj g5) ?_
   cases h
   simp(config:=cS)only[go_sem,eZt h2,eZt h4]
  ·cases h
   simp(config:=cS)only[go_sem,eZt h2,eZf h4]
 ·cases h
  simp(config:=cS)only[go_sem,eZf h2]
def kK (a:ByteArray)(c:List GNode)(d b:Int):St:=⟨[(1,.lit (.string a)),(8,.sl (ab GNode.encS c)),(9,.lit (.int .i64 d)),(10,.lit (.int .i64 b))],[],2⟩
attribute [go_sem] kK
attribute [go_sem] Tryz.ntmps219 Tryz.results219
theorem vx {s:GShow}{name:ByteArray}{res:Int}(h:gb s name=some res):am Tryz.prog 219 [.agg (GShow.encS s),.lit (.string name)] [] (.lit (.int .i64 res)) []:=by
 refine ai (ra:=[]) (md:=mdT) hT (hi:=hi00) Tryz.func219 rfl rfl (by decide +kernel) (by simp) ?_
 unfold gb at h
 obtain ⟨q02,l1,h⟩:=ae h
 simp(config:=cS)only[go_sem]
 refine aw (m1:=.mk) (m2:=.mk) [.nf [1,8,9,10] []] (kK name s.nodes ((s.nodes.length:Nat):Int)) l1 ?_ ?_
 ·simp(config:=cS)only[go_sem]
 ·intro nb2 v10_1 bb2 b2 gb2
  unfold cK at b2
  try dsimp only at b2
  obtain ⟨h3,b2⟩|⟨h3,b2⟩:=af b2
  ·obtain ⟨x01,g4,b2⟩:=ae b2
   obtain ⟨h5,h6,h7⟩:=ak g4
   obtain ⟨h8,b2⟩|⟨h8,b2⟩:=af b2
   ·cases b2
    obtain rfl:=(aj gb2).symm
    try dsimp only at h
    cases h
    simp(config:=cS)only[go_sem,eqT h3,h5,h6,h7,eqT h8]
   ·cases b2
    simp(config:=cS)only[go_sem,eqT h3,h5,h6,h7,eqF h8]
    refine au gb2 ?_
    simp(config:=cS)only[go_sem]
  ·cases b2
   obtain rfl:=(aj gb2).symm
   try dsimp only at h
   cases h
   simp(config:=cS)only[go_sem,eqF h3]
def kz (p:Int)(b:List GNode)(c a:Int):St:=⟨[(1,.lit (.int .i64 p)),(8,.sl (ab GNode.encS b)),(9,.lit (.int .i64 c)),(10,.lit (.int .i64 a))],[],2⟩
attribute [go_sem] kz
attribute [go_sem] Tryz.ntmps118 Tryz.results118
theorem ig {s:GShow}{p res:Int}(h:bC s p=some res):am Tryz.prog 118 [.agg (GShow.encS s),.lit (.int .i64 p)] [] (.lit (.int .i64 res)) []:=by
 refine ai (ra:=[]) (md:=mdT) hT (hi:=hi00) Tryz.func118 rfl rfl (by decide +kernel) (by simp) ?_
 unfold bC at h
 obtain ⟨q02,l1,h⟩:=ae h
 simp(config:=cS)only[go_sem]
 refine aw (m1:=.mk) (m2:=.mk) [.nf [1,8,9,10] []] (kz p s.nodes ((s.nodes.length:Nat):Int)) l1 ?_ ?_
 ·simp(config:=cS)only[go_sem]
 ·intro nb2 v10_1 bb2 b2 gb2
  unfold cA at b2
  try dsimp only at b2
  obtain ⟨h3,b2⟩|⟨h3,b2⟩:=af b2
  ·obtain ⟨x01,g4,b2⟩:=ae b2
   obtain ⟨h5,h6,h7⟩:=ak g4
   obtain ⟨h8,b2⟩|⟨h8,b2⟩:=af b2
   ·cases b2
    obtain rfl:=(aj gb2).symm
    try dsimp only at h
    cases h
    simp(config:=cS)only[go_sem,eqT h3,h5,h6,h7,eqT h8]
   ·cases b2
    simp(config:=cS)only[go_sem,eqT h3,h5,h6,h7,eqF h8]
    refine au gb2 ?_
    simp(config:=cS)only[go_sem]
  ·cases b2
   obtain rfl:=(aj gb2).symm
   try dsimp only at h
   cases h
   simp(config:=cS)only[go_sem,eqF h3]
def mT (n:Int)(a:List Int)(b c:Int):St:=⟨[(1,.lit (.int .i64 n)),(7,.sl (ab eI a)),(8,.lit (.int .i64 b)),(9,.lit (.int .i64 c))],[],2⟩
attribute [go_sem] mT
attribute [go_sem] Tryz.ntmps220 Tryz.results220
theorem li {l:List Int}{n:Int}{res:Bool}(h:cq l n=some res):am Tryz.prog 220 [.sl (ab eI l),.lit (.int .i64 n)] [] (.lit (.bool res)) []:=by
 refine ai (ra:=[]) (md:=mdT) hT (hi:=hi00) Tryz.func220 rfl rfl (by decide +kernel) (by simp) ?_
 unfold cq at h
 obtain ⟨q02,l1,h⟩:=ae h
 simp(config:=cS)only[go_sem]
 refine aw (m1:=.mk) (m2:=.mk) [.nf [1,7,8,9] []] (mT n l ((l.length:Nat):Int)) l1 ?_ ?_
 ·simp(config:=cS)only[go_sem]
 ·intro nb2 v9_1 bb2 b2 gb2
  unfold ep at b2
  try dsimp only at b2
  obtain ⟨h3,b2⟩|⟨h3,b2⟩:=af b2
  ·obtain ⟨x01,g4,b2⟩:=ae b2
   obtain ⟨h5,h6,h7⟩:=ak g4
   obtain ⟨h8,b2⟩|⟨h8,b2⟩:=af b2
   ·cases b2
    obtain rfl:=(aj gb2).symm
    try dsimp only at h
    cases h
    simp(config:=cS)only[go_sem,eqT h3,h5,h6,h7,eqT h8]
   ·cases b2
    simp(config:=cS)only[go_sem,eqT h3,h5,h6,h7,eqF h8]
    refine au gb2 ?_
    simp(config:=cS)only[go_sem]
  ·cases b2
   obtain rfl:=(aj gb2).symm
   try dsimp only at h
   cases h
   simp(config:=cS)only[go_sem,eqF h3]
def jJ (a b:List Int)(c d:Int):St:=⟨[(0,.sl (ab eI a)),(15,.sl (ab eI b)),(16,.lit (.int .i64 c)),(17,.lit (.int .i64 d))],[],2⟩
attribute [go_sem] jJ
attribute [go_sem] Tryz.ntmps221 Tryz.results221
theorem rX {a b:List Int}{res:Bool}(h:cL a b=some res):am Tryz.prog 221 [.sl (ab eI a),.sl (ab eI b)] [] (.lit (.bool res)) []:=by
 refine ai (ra:=[]) (md:=mdT) hT (hi:=hi00) Tryz.func221 rfl rfl (by decide +kernel) (by simp) ?_
 unfold cL at h
 obtain ⟨r01,g1,h⟩:=ae h
 simp(config:=cS)only[go_sem]
 refine ag (kk g1) ?_
 obtain ⟨h2,h⟩|⟨h2,h⟩:=af h
 ·obtain ⟨r02,g3,h⟩:=ae h
  simp(config:=cS)only[go_sem,eZt h2]
  refine ag (kk g3) ?_
  obtain ⟨h4,h⟩|⟨h4,h⟩:=af h
  ·obtain ⟨q05,l5,h⟩:=ae h
   simp(config:=cS)only[go_sem,eZt h2,eZt h4]
   refine aw (m1:=.mk) (m2:=.mk) [.nf [0,15,16,17] []] (jJ a b ((b.length:Nat):Int)) l5 ?_ ?_
   ·simp(config:=cS)only[go_sem,eZt h2,eZt h4]
   ·intro nb6 v17_1 bb6 b6 gb6
    unfold bU at b6
    try dsimp only at b6
    obtain ⟨h7,b6⟩|⟨h7,b6⟩:=af b6
    ·obtain ⟨x03,g8,b6⟩:=ae b6
     obtain ⟨h9,h10,h11⟩:=ak g8
     obtain ⟨r04,g12,b6⟩:=ae b6
     simp(config:=cS)only[go_sem,eZt h2,eZt h4,eqT h7,h9,h10,h11]
     refine ag (li g12) ?_
     obtain ⟨h13,b6⟩|⟨h13,b6⟩:=af b6
     ·cases b6
      simp(config:=cS)only[go_sem,eZt h2,eZt h4,eqT h7,h9,h10,h11,eZt h13]
      refine au gb6 ?_
      simp(config:=cS)only[go_sem,eZt h2,eZt h4,eqT h7,h9,h10,h11,eZt h13]
     ·cases b6
      obtain rfl:=(aj gb6).symm
      try dsimp only at h
      cases h
      simp(config:=cS)only[go_sem,eZt h2,eZt h4,eqT h7,h9,h10,h11,eZf h13]
    ·cases b6
     obtain rfl:=(aj gb6).symm
     try dsimp only at h
     cases h
     simp(config:=cS)only[go_sem,eZt h2,eZt h4,eqF h7]
  ·cases h
   simp(config:=cS)only[go_sem,eZt h2,eZf h4]
 ·cases h
  simp(config:=cS)only[go_sem,eZf h2]
def lC (a:List GNode)(b:Int)(c:List GTie)(d e:Int):St:=⟨[(1,.ptr 64 1 0 0),(33,.sl (ab GNode.encS a)),(34,.lit (.int .i64 b)),(35,.lit (.int .i64 e))],[(64,1,.var [.sl (ab GNode.encS a),.sl (ab GTie.enc c),.lit (.int .i64 d)])],2⟩
attribute [go_sem] lC
def lD (a:List GNode)(c d:Int)(b:List Int)(e:Int)(f:List GTie)(g:Int)(h:ByteArray)(i j:Int):St:=⟨[(1,.ptr 64 1 0 0),(6,.ptr 384 1 0 0),(66,.sl (ab GNode.encS a)),(67,.lit (.int .i64 c)),(68,.lit (.int .i64 d)),(73,.sl (ab eI b)),(74,.lit (.int .i64 e)),(75,.lit (.int .i64 j))],[(64,1,.var [.sl (ab GNode.encS a),.sl (ab GTie.enc f),.lit (.int .i64 g)]),(384,1,.var [.lit (.string h),.sl (ab eI b),.lit (.int .i64 i)])],2⟩
attribute [go_sem] lD
def lE (a:List GNode)(b:Int)(c:List GTie)(d e:Int):St:=⟨[(1,.ptr 64 1 0 0),(66,.sl (ab GNode.encS a)),(67,.lit (.int .i64 b)),(68,.lit (.int .i64 e))],[(64,1,.var [.sl (ab GNode.encS a),.sl (ab GTie.enc c),.lit (.int .i64 d)])],2⟩
attribute [go_sem] lE
@[go_sem] def hi137_16:DT:=.i2 0 (.i2 1 (.i2 2 (.i2 3 (.i2 4 (.i2 5 (.i2 6 (.i2 7 (.i2 8 (.i2 9 (.i2 10 (.i2 11 (.i2 12 (.i2 13 (.i2 14 (.i2 15 (.i2 16 (.i2 17 (.i2 18 (.i2 19 (.i2 20 (.i2 21 (.i2 22 (.i2 23 (.i2 24 (.i2 25 (.i2 26 (.i2 27 (.i2 28 (.i2 29 (.i2 30 (.i2 31 (.i2 32 (.i2 33 (.i2 34 .nil))))))))))))))))))))))))))))))))))
@[go_sem] def hi137_15:DT:=.i1 0 (.i2 1 (.i0 2 [0] (.i2 3 (.i2 4 .nil))))
def xp:Hint where
 acts:=fun _=>[]
 draws:=fun
  | 15=>⟨hi137_15,[[],[],[1],[0,1,2],[0,1,2,3]],.range 5⟩
  | 16=>⟨hi137_16,[[],[0],[0,1],[0,1,2],[0,1,2,3],[0,1,2],.range 6,.range 7,.range 8,[0,1,2],.range 10,.range 11,.range 12,.range 13,.range 14,.range 13,.range 16,.range 17,.range 18,.range 13,[0,1,2,3,4,5,6,7,8,9,10,11,12,19],.range 21,.range 22,.range 23,.range 24,.range 25,.range 24,[0,1,2,3,4,5,6,7,8,9,10,11,12,13,14,15,16,17,18,19,20,21,22,23,26],.range 24,[0,1,2,3,4,5,6,7,8,9,10,11,12,13,14,15,16,17,18,19,20,21,22,23,26,27,28],[0,1,2,3,4,5,6,7,8,9,10,11,12,13,14,15,16,17,18,19,20,21,22,23,26,27,28,29],[0,1,2,3,4,5,6,7,8,9,10,11,12,13,14,15,16,17,18,19,20,21,22,23,26,27,28,29,30],.range 32,.range 33,.range 34],.range 35⟩
  | _=>⟨.nil,[],[]⟩
theorem Lo (i:Nat):xp.acts i=[]:=rfl
theorem Lp (i:Nat):xp.views i=none:=rfl
attribute [go_sem] Lo Lp Tryz.ntmps137 Tryz.results137
@[go_sem] theorem NE:(xp.draws 15).order=hi137_15:=rfl
@[go_sem] theorem NF:(xp.draws 16).order=hi137_16:=rfl
theorem xq {s:GShow}{res:Bool}(h:gN s=some res):am Tryz.prog 137 [.agg (GShow.encS s)] [] (.lit (.bool res)) []:=by
 refine ai (ra:=[]) (md:=mdT) hT (hi:=xp) Tryz.func137 rfl rfl (by decide +kernel) (by simp) ?_
 unfold gN at h
 obtain ⟨r01,g1,h⟩:=ae h
 simp(config:=cS)only[go_sem]
 refine ag (cj g1) ?_
 obtain ⟨h2,h⟩|⟨h2,h⟩:=af h
 ·obtain ⟨x02,g3,h⟩:=ae h
  obtain ⟨h5,h6⟩:=cU (k:=0) g3
  obtain ⟨h7,h⟩|⟨h7,h⟩:=af h
  ·cases h
   simp(config:=cS)only[go_sem,eZt h2,h5,h6,eqT h7]
  ·obtain ⟨h8,h⟩|⟨h8,h⟩:=af h
   ·obtain ⟨q17,l9,h⟩:=ae h
    simp(config:=cS)only[go_sem,eZt h2,h5,h6,eqF h7,eqT h8]
    refine aw (m1:=.mk) (m2:=.mk) [.nf [1,33,34,35] [64]] (lC s.nodes ((s.nodes.length:Nat):Int) s.ties s.horizon) l9 ?_ ?_
    ·simp(config:=cS)only[go_sem,eZt h2,h5,h6,eqF h7,eqT h8]
    ·intro nb10 v35_1 bb10 b10 gb10
     unfold cZ at b10
     try dsimp only at b10
     obtain ⟨h11,b10⟩|⟨h11,b10⟩:=af b10
     ·obtain ⟨x03,g12,b10⟩:=ae b10
      obtain ⟨h13,h14,h15⟩:=ak g12
      obtain ⟨r04,g16,b10⟩:=ae b10
      simp(config:=cS)only[go_sem,eZt h2,h5,h6,eqF h7,eqT h8,eqT h11,h13,h14,h15]
      refine ag (AF g16) ?_
      obtain ⟨h17,b10⟩|⟨h17,b10⟩:=af b10
      ·obtain ⟨r05,g18,b10⟩:=ae b10
       simp(config:=cS)only[go_sem,eZt h2,h5,h6,eqF h7,eqT h8,eqT h11,h13,h14,h15,eZt h17]
       refine ag (vx g18) ?_
       obtain ⟨h19,b10⟩|⟨h19,b10⟩:=af b10
       ·obtain ⟨h20,b10⟩|⟨h20,b10⟩:=af b10
        ·cases b10
         simp(config:=cS)only[go_sem,eZt h2,h5,h6,eqF h7,eqT h8,eqT h11,h13,h14,h15,eZt h17,eqT h19,eqT h20]
         refine au gb10 ?_
         simp(config:=cS)only[go_sem,eZt h2,h5,h6,eqF h7,eqT h8,eqT h11,h13,h14,h15,eZt h17,eqT h19,eqT h20]
        ·obtain ⟨r06,g21,b10⟩:=ae b10
         simp(config:=cS)only[go_sem,eZt h2,h5,h6,eqF h7,eqT h8,eqT h11,h13,h14,h15,eZt h17,eqT h19,eqF h20]
         refine ag (ig g21) ?_
         obtain ⟨h22,b10⟩|⟨h22,b10⟩:=af b10
         ·cases b10
          simp(config:=cS)only[go_sem,eZt h2,h5,h6,eqF h7,eqT h8,eqT h11,h13,h14,h15,eZt h17,eqT h19,eqF h20,eqT h22]
          refine au gb10 ?_
          simp(config:=cS)only[go_sem,eZt h2,h5,h6,eqF h7,eqT h8,eqT h11,h13,h14,h15,eZt h17,eqT h19,eqF h20,eqT h22]
         ·cases b10
          obtain rfl:=(aj gb10).symm
          try dsimp only at h
          cases h
          simp(config:=cS)only[go_sem,eZt h2,h5,h6,eqF h7,eqT h8,eqT h11,h13,h14,h15,eZt h17,eqT h19,eqF h20,eqF h22]
       ·cases b10
        obtain rfl:=(aj gb10).symm
        try dsimp only at h
        cases h
        simp(config:=cS)only[go_sem,eZt h2,h5,h6,eqF h7,eqT h8,eqT h11,h13,h14,h15,eZt h17,eqF h19]
      ·cases b10
       obtain rfl:=(aj gb10).symm
       try dsimp only at h
       cases h
       simp(config:=cS)only[go_sem,eZt h2,h5,h6,eqF h7,eqT h8,eqT h11,h13,h14,h15,eZf h17]
     ·cases b10
      obtain rfl:=(aj gb10).symm
      try dsimp only at h
      obtain ⟨q16,l27,h⟩:=ae h
      simp(config:=cS)only[go_sem,eZt h2,h5,h6,eqF h7,eqT h8,eqF h11]
      refine aw (m1:=.mk) (m2:=.mk) [.nf [1,66,67,68] [64]] (lE s.nodes ((s.nodes.length:Nat):Int) s.ties s.horizon) l27 ?_ ?_
      ·simp(config:=cS)only[go_sem,eZt h2,h5,h6,eqF h7,eqT h8,eqF h11]
      ·intro nb28 v68_2 bb28 b28 gb28
       unfold db at b28
       try dsimp only at b28
       obtain ⟨h29,b28⟩|⟨h29,b28⟩:=af b28
       ·obtain ⟨x07,g30,b28⟩:=ae b28
        obtain ⟨h31,h32,h33⟩:=ak g30
        obtain ⟨q15,l34,b28⟩:=ae b28
        simp(config:=cS)only[go_sem,eZt h2,h5,h6,eqF h7,eqT h8,eqF h11,eqT h29,h31,h32,h33]
        refine aw (m1:=.mk) (m2:=.mk) [.nf [1,6,66,67,68,73,74,75] [64,384]] (lD s.nodes ((s.nodes.length:Nat):Int) v68_2 x07.label ((x07.label.length:Nat):Int) s.ties s.horizon x07.name x07.watch) l34 ?_ ?_
        ·simp(config:=cS)only[go_sem,eZt h2,h5,h6,eqF h7,eqT h8,eqF h11,eqT h29,h31,h32,h33]
        ·intro nb35 v75_3 bb35 b35 gb35
         unfold da at b35
         try dsimp only at b35
         obtain ⟨h36,b35⟩|⟨h36,b35⟩:=af b35
         ·obtain ⟨x08,g37,b35⟩:=ae b35
          obtain ⟨h38,h39,h40⟩:=ak g37
          obtain ⟨r09,g41,b35⟩:=ae b35
          simp(config:=cS)only[go_sem,eZt h2,h5,h6,eqF h7,eqT h8,eqF h11,eqT h29,h31,h32,h33,eqT h36,h38,h39,h40]
          refine ag (kj g41) ?_
          obtain ⟨r10,g42,b35⟩:=ae b35
          simp(config:=cS)only[go_sem,eZt h2,h5,h6,eqF h7,eqT h8,eqF h11,eqT h29,h31,h32,h33,eqT h36,h38,h39,h40]
          refine ag (ig g42) ?_
          obtain ⟨h43,b35⟩|⟨h43,b35⟩:=af b35
          ·cases b35
           obtain rfl:=(aj gb35).symm
           try dsimp only at b28
           cases b28
           obtain rfl:=(aj gb28).symm
           try dsimp only at h
           cases h
           simp(config:=cS)only[go_sem,eZt h2,h5,h6,eqF h7,eqT h8,eqF h11,eqT h29,h31,h32,h33,eqT h36,h38,h39,h40,eqT h43]
          ·obtain ⟨x11,g46,b35⟩:=ae b35
           obtain ⟨h47,h48,h49⟩:=ak g46
           obtain ⟨r12,g50,b35⟩:=ae b35
           simp(config:=cS)only[go_sem,eZt h2,h5,h6,eqF h7,eqT h8,eqF h11,eqT h29,h31,h32,h33,eqT h36,h38,h39,h40,eqF h43,h47,h48,h49]
           refine ag (li g50) ?_
           obtain ⟨h51,b35⟩|⟨h51,b35⟩:=af b35
           ·cases b35
            obtain rfl:=(aj gb35).symm
            try dsimp only at b28
            cases b28
            obtain rfl:=(aj gb28).symm
            try dsimp only at h
            cases h
            simp(config:=cS)only[go_sem,eZt h2,h5,h6,eqF h7,eqT h8,eqF h11,eqT h29,h31,h32,h33,eqT h36,h38,h39,h40,eqF h43,h47,h48,h49,eZt h51]
           ·obtain ⟨r13,g54,b35⟩:=ae b35
            simp(config:=cS)only[go_sem,eZt h2,h5,h6,eqF h7,eqT h8,eqF h11,eqT h29,h31,h32,h33,eqT h36,h38,h39,h40,eqF h43,h47,h48,h49,eZf h51]
            refine ag (li g54) ?_
            obtain ⟨h55,b35⟩|⟨h55,b35⟩:=af b35
            ·cases b35
             obtain rfl:=(aj gb35).symm
             try dsimp only at b28
             cases b28
             obtain rfl:=(aj gb28).symm
             try dsimp only at h
             cases h
             simp(config:=cS)only[go_sem,eZt h2,h5,h6,eqF h7,eqT h8,eqF h11,eqT h29,h31,h32,h33,eqT h36,h38,h39,h40,eqF h43,h47,h48,h49,eZf h51,eZt h55]
            ·obtain ⟨r14,g58,b35⟩:=ae b35
             simp(config:=cS)only[go_sem,eZt h2,h5,h6,eqF h7,eqT h8,eqF h11,eqT h29,h31,h32,h33,eqT h36,h38,h39,h40,eqF h43,h47,h48,h49,eZf h51,eZf h55]
             refine ag (rX g58) ?_
             obtain ⟨h59,b35⟩|⟨h59,b35⟩:=af b35
             ·cases b35
              simp(config:=cS)only[go_sem,eZt h2,h5,h6,eqF h7,eqT h8,eqF h11,eqT h29,h31,h32,h33,eqT h36,h38,h39,h40,eqF h43,h47,h48,h49,eZf h51,eZf h55,eZt h59]
              refine au gb35 ?_
              simp(config:=cS)only[go_sem,eZt h2,h5,h6,eqF h7,eqT h8,eqF h11,eqT h29,h31,h32,h33,eqT h36,h38,h39,h40,eqF h43,h47,h48,h49,eZf h51,eZf h55,eZt h59]
             ·cases b35
              obtain rfl:=(aj gb35).symm
              try dsimp only at b28
              cases b28
              obtain rfl:=(aj gb28).symm
              try dsimp only at h
              cases h
              simp(config:=cS)only[go_sem,eZt h2,h5,h6,eqF h7,eqT h8,eqF h11,eqT h29,h31,h32,h33,eqT h36,h38,h39,h40,eqF h43,h47,h48,h49,eZf h51,eZf h55,eZf h59]
         ·cases b35
          obtain rfl:=(aj gb35).symm
          try dsimp only at b28
          cases b28
          simp(config:=cS)only[go_sem,eZt h2,h5,h6,eqF h7,eqT h8,eqF h11,eqT h29,h31,h32,h33,eqF h36]
          refine au gb28 ?_
          simp(config:=cS)only[go_sem,eZt h2,h5,h6,eqF h7,eqT h8,eqF h11,eqT h29,h31,h32,h33,eqF h36]
       ·cases b28
        obtain rfl:=(aj gb28).symm
        try dsimp only at h
        cases h
        simp(config:=cS)only[go_sem,eZt h2,h5,h6,eqF h7,eqT h8,eqF h11,eqF h29]
   ·cases h
    simp(config:=cS)only[go_sem,eZt h2,h5,h6,eqF h7,eqF h8]
 ·cases h
  simp(config:=cS)only[go_sem,eZf h2]
def mt (b a:List Int)(c d:Int):St:=⟨[(1,.sl (ab eI b)),(12,.sl (ab eI a)),(13,.lit (.int .i64 c)),(14,.lit (.int .i64 d))],[],2⟩
attribute [go_sem] mt
attribute [go_sem] Tryz.ntmps222 Tryz.results222
theorem kl {a b:List Int}{res:Bool}(h:dc a b=some res):am Tryz.prog 222 [.sl (ab eI a),.sl (ab eI b)] [] (.lit (.bool res)) []:=by
 refine ai (ra:=[]) (md:=mdT) hT (hi:=hi00) Tryz.func222 rfl rfl (by decide +kernel) (by simp) ?_
 unfold dc at h
 obtain ⟨h1,h⟩|⟨h1,h⟩:=af h
 ·obtain ⟨q03,l2,h⟩:=ae h
  simp(config:=cS)only[go_sem,eqT h1]
  refine aw (m1:=.mk) (m2:=.mk) [.nf [1,12,13,14] []] (mt b a ((a.length:Nat):Int)) l2 ?_ ?_
  ·simp(config:=cS)only[go_sem]
  ·intro nb3 v14_1 bb3 b3 gb3
   unfold dA at b3
   try dsimp only at b3
   obtain ⟨h4,b3⟩|⟨h4,b3⟩:=af b3
   ·obtain ⟨x01,g5,b3⟩:=ae b3
    obtain ⟨h6,h7,h8⟩:=ak g5
    obtain ⟨x02,g9,b3⟩:=ae b3
    obtain ⟨h10,h11,h12⟩:=ak g9
    obtain ⟨h13,b3⟩|⟨h13,b3⟩:=af b3
    ·cases b3
     simp(config:=cS)only[go_sem,eqT h4,h6,h7,h8,h10,h11,h12,eqT h13]
     refine au gb3 ?_
     simp(config:=cS)only[go_sem]
    ·cases b3
     obtain rfl:=(aj gb3).symm
     try dsimp only at h
     cases h
     simp(config:=cS)only[go_sem,eqT h4,h6,h7,h8,h10,h11,h12,eqF h13]
   ·cases b3
    obtain rfl:=(aj gb3).symm
    try dsimp only at h
    cases h
    simp(config:=cS)only[go_sem,eqF h4]
 ·cases h
  simp(config:=cS)only[go_sem,eqF h1]
def mu (a:Int)(c:List GTie)(d b:Int):St:=⟨[(1,.lit (.int .i64 a)),(8,.sl (ab GTie.enc c)),(9,.lit (.int .i64 d)),(10,.lit (.int .i64 b))],[],2⟩
attribute [go_sem] mu
attribute [go_sem] Tryz.ntmps223 Tryz.results223
theorem qE {s:GShow}{node res:Int}(h:fS s node=some res):am Tryz.prog 223 [.agg (GShow.encS s),.lit (.int .i64 node)] [] (.lit (.int .i64 res)) []:=by
 refine ai (ra:=[]) (md:=mdT) hT (hi:=hi00) Tryz.func223 rfl rfl (by decide +kernel) (by simp) ?_
 unfold fS at h
 obtain ⟨q02,l1,h⟩:=ae h
 simp(config:=cS)only[go_sem]
 refine aw (m1:=.mk) (m2:=.mk) [.nf [1,8,9,10] []] (mu node s.ties ((s.ties.length:Nat):Int)) l1 ?_ ?_
 ·simp(config:=cS)only[go_sem]
 ·intro nb2 v10_1 bb2 b2 gb2
  unfold dB at b2
  try dsimp only at b2
  obtain ⟨h3,b2⟩|⟨h3,b2⟩:=af b2
  ·obtain ⟨x01,g4,b2⟩:=ae b2
   obtain ⟨h5,h6,h7⟩:=ak g4
   obtain ⟨h8,b2⟩|⟨h8,b2⟩:=af b2
   ·obtain ⟨h9,b2⟩|⟨h9,b2⟩:=af b2
    ·cases b2
     obtain rfl:=(aj gb2).symm
     try dsimp only at h
     cases h
     simp(config:=cS)only[go_sem,eqT h3,h5,h6,h7,eZt h8,eqT h9]
    ·cases b2
     simp(config:=cS)only[go_sem,eqT h3,h5,h6,h7,eZt h8,eqF h9]
     refine au gb2 ?_
     simp(config:=cS)only[go_sem]
   ·cases b2
    simp(config:=cS)only[go_sem,eqT h3,h5,h6,h7,eZf h8]
    refine au gb2 ?_
    simp(config:=cS)only[go_sem]
  ·cases b2
   obtain rfl:=(aj gb2).symm
   try dsimp only at h
   cases h
   simp(config:=cS)only[go_sem,eqF h3]
@[go_sem] def hi138_5:DT:=.i2 0 (.i2 1 (.i2 2 (.i2 3 (.i2 4 (.i2 5 (.i2 6 (.i2 7 (.i2 8 (.i2 9 (.i2 10 (.i2 11 (.i2 12 (.i2 13 (.i2 14 (.i2 15 (.i2 16 (.i2 17 (.i2 18 (.i2 19 (.i2 20 (.i2 21 (.i2 22 (.i2 23 (.i2 24 (.i2 25 (.i2 26 (.i2 27 (.i2 28 (.i2 29 (.i2 30 (.i2 31 (.i2 32 (.i2 33 (.i2 34 (.i2 35 (.i2 36 (.i2 37 (.i2 38 (.i2 39 (.i2 40 (.i2 41 (.i2 42 (.i2 44 (.i2 43 (.i2 45 (.i2 46 (.i2 47 (.i2 48 .nil))))))))))))))))))))))))))))))))))))))))))))))))
def Bp:Hint where
 acts:=fun _=>[]
 draws:=fun
  | 5=>⟨hi138_5,[[],[0],[0,1],[0,1,2],[0,1,2,3],.range 5,.range 6,.range 7,.range 8,.range 9,.range 10,.range 11,.range 12,.range 13,.range 14,.range 13,[0,1,2,3,4,5,6,7,8,9,10,11,12,15],.range 17,.range 18,.range 19,.range 20,.range 21,.range 22,.range 23,.range 24,.range 23,[0,1,2,3,4,5,6,7,8,9,10,11,12,13,14,15,16,17,18,19,20,21,22,25],.range 27,.range 28,.range 29,.range 23,[0,1,2,3,4,5,6,7,8,9,10,11,12,13,14,15,16,17,18,19,20,21,22,30],.range 23,[0,1,2,3,4,5,6,7,8,9,10,11,12,13,14,15,16,17,18,19,20,21,22,32],[0,1,2,3,4,5,6,7,8,9,10,11,12,13,14,15,16,17,18,19,20,21,22,30,31,32,33],[0,1,2,3,4,5,6,7,8,9,10,11,12,13,14,15,16,17,18,19,20,21,22,30,31,32,33,34],[0,1,2,3,4,5,6,7,8,9,10,11,12,13,14,15,16,17,18,19,20,21,22,30,31,32,33,34,35],.range 37,.range 38,.range 39,.range 40,.range 40,[0,1,2,3,4,5,6,7,8,9,10,11,12,13,14,15,16,17,18,19,20,21,22,23,24,25,26,27,28,29,30,31,32,33,34,35,36,37,38,39,41],.range 43,.range 40,.range 45,.range 46,.range 47,.range 48],.range 49⟩
  | _=>⟨.nil,[],[]⟩
theorem Lq (i:Nat):Bp.acts i=[]:=rfl
theorem Lr (i:Nat):Bp.views i=none:=rfl
attribute [go_sem] Lq Lr Tryz.ntmps138 Tryz.results138
@[go_sem] theorem NK:(Bp.draws 5).order=hi138_5:=rfl
theorem AG {s:GShow}{i:Int}{res:Bool}(h:jq s i=some res):am Tryz.prog 138 [.agg (GShow.encS s),.lit (.int .i64 i)] [] (.lit (.bool res)) []:=by
 refine ai (ra:=[]) (md:=mdT) hT (hi:=Bp) Tryz.func138 rfl rfl (by decide +kernel) (by simp) ?_
 unfold jq at h
 obtain ⟨x01,g1,h⟩:=ae h
 obtain ⟨h2,h3,h4⟩:=ak g1
 obtain ⟨r02,g5,h⟩:=ae h
 simp(config:=cS)only[go_sem,h2,h3,h4]
 refine ag (cj g5) ?_
 obtain ⟨h6,h⟩|⟨h6,h⟩:=af h
 ·obtain ⟨r03,g7,h⟩:=ae h
  simp(config:=cS)only[go_sem,h2,h3,h4,eZt h6]
  refine ag (cj g7) ?_
  obtain ⟨h8,h⟩|⟨h8,h⟩:=af h
  ·obtain ⟨h9,h⟩|⟨h9,h⟩:=af h
   ·cases h
    simp(config:=cS)only[go_sem,h2,h3,h4,eZt h6,eZt h8,eqT h9]
   ·obtain ⟨h10,h⟩|⟨h10,h⟩:=af h
    ·cases h
     simp(config:=cS)only[go_sem,h2,h3,h4,eZt h6,eZt h8,eqF h9,eqT h10]
    ·obtain ⟨h11,h⟩|⟨h11,h⟩:=af h
     ·cases h
      simp(config:=cS)only[go_sem,h2,h3,h4,eZt h6,eZt h8,eqF h9,eqF h10,eqT h11]
     ·obtain ⟨h12,h⟩|⟨h12,h⟩:=af h
      ·cases h
       simp(config:=cS)only[go_sem,h2,h3,h4,eZt h6,eZt h8,eqF h9,eqF h10,eqF h11,eqT h12]
      ·obtain ⟨h13,h⟩|⟨h13,h⟩:=af h
       ·obtain ⟨h14,h⟩|⟨h14,h⟩:=af h
        ·obtain ⟨h15,h⟩|⟨h15,h⟩:=af h
         ·cases h
          simp(config:=cS)only[go_sem,h2,h3,h4,eZt h6,eZt h8,eqF h9,eqF h10,eqF h11,eqF h12,eZt h13,eqT h14,eqT h15]
         ·obtain ⟨x04,g16,h⟩:=ae h
          obtain ⟨h17,h18,h19⟩:=ak g16
          obtain ⟨h20,h⟩|⟨h20,h⟩:=af h
          ·obtain ⟨x05,g21,h⟩:=ae h
           obtain ⟨h22,h23,h24⟩:=ak g21
           obtain ⟨r06,g25,h⟩:=ae h
           simp(config:=cS)only[go_sem,h2,h3,h4,eZt h6,eZt h8,eqF h9,eqF h10,eqF h11,eqF h12,eZt h13,eqT h14,eqF h15,h17,h18,h19,eqT h20,h22,h23,h24]
           refine ag (kl g25) ?_
           obtain ⟨h26,h⟩|⟨h26,h⟩:=af h
           ·obtain ⟨r07,g27,h⟩:=ae h
            simp(config:=cS)only[go_sem,h2,h3,h4,eZt h6,eZt h8,eqF h9,eqF h10,eqF h11,eqF h12,eZt h13,eqT h14,eqF h15,h17,h18,h19,eqT h20,h22,h23,h24,eZt h26]
            refine ag (qE g27) ?_
            cases h
            simp(config:=cS)only[go_sem,h2,h3,h4,eZt h6,eZt h8,eqF h9,eqF h10,eqF h11,eqF h12,eZt h13,eqT h14,eqF h15,h17,h18,h19,eqT h20,h22,h23,h24,eZt h26]
           ·cases h
            simp(config:=cS)only[go_sem,h2,h3,h4,eZt h6,eZt h8,eqF h9,eqF h10,eqF h11,eqF h12,eZt h13,eqT h14,eqF h15,h17,h18,h19,eqT h20,h22,h23,h24,eZf h26]
          ·cases h
           simp(config:=cS)only[go_sem,h2,h3,h4,eZt h6,eZt h8,eqF h9,eqF h10,eqF h11,eqF h12,eZt h13,eqT h14,eqF h15,h17,h18,h19,eqF h20]
        ·cases h
         simp(config:=cS)only[go_sem,h2,h3,h4,eZt h6,eZt h8,eqF h9,eqF h10,eqF h11,eqF h12,eZt h13,eqF h14]
       ·cases h
        simp(config:=cS)only[go_sem,h2,h3,h4,eZt h6,eZt h8,eqF h9,eqF h10,eqF h11,eqF h12,eZf h13]
  ·cases h
   simp(config:=cS)only[go_sem,h2,h3,h4,eZt h6,eZf h8]
 ·cases h
  simp(config:=cS)only[go_sem,h2,h3,h4,eZf h6]
def mU (a:Int)(b:List GNode)(c:List GTie)(d e:Int):St:=⟨[(1,.ptr 64 1 0 0),(21,.lit (.int .i64 a)),(22,.lit (.int .i64 e))],[(64,1,.var [.sl (ab GNode.encS b),.sl (ab GTie.enc c),.lit (.int .i64 d)])],2⟩
attribute [go_sem] mU
attribute [go_sem] Tryz.ntmps66 Tryz.results66
theorem lj {s:GShow}{res:Bool}(h:dM s=some res):am Tryz.prog 66 [.agg (GShow.encS s)] [] (.lit (.bool res)) []:=by
 refine ai (ra:=[]) (md:=mdT) hT (hi:=hi00) Tryz.func66 rfl rfl (by decide +kernel) (by simp) ?_
 unfold dM at h
 obtain ⟨r01,g1,h⟩:=ae h
 simp(config:=cS)only[go_sem]
 refine ag (xq g1) ?_
 obtain ⟨h2,h⟩|⟨h2,h⟩:=af h
 ·obtain ⟨h3,h⟩|⟨h3,h⟩:=af h
  ·cases h
   simp(config:=cS)only[go_sem,eZt h2,eqT h3]
  ·obtain ⟨r02,g4,h⟩:=ae h
   simp(config:=cS)only[go_sem,eZt h2,eqF h3]
   refine ag (cj g4) ?_
   obtain ⟨h5,h⟩|⟨h5,h⟩:=af h
   ·obtain ⟨q04,l6,h⟩:=ae h
    simp(config:=cS)only[go_sem,eZt h5]
    refine aw (m1:=.mk) (m2:=.mk) [.nf [1,21,22] [64]] (mU ((s.ties.length:Nat):Int) s.nodes s.ties s.horizon) l6 ?_ ?_
    ·simp(config:=cS)only[go_sem]
    ·intro nb7 v22_1 bb7 b7 gb7
     unfold eu at b7
     try dsimp only at b7
     obtain ⟨h8,b7⟩|⟨h8,b7⟩:=af b7
     ·obtain ⟨r03,g9,b7⟩:=ae b7
      simp(config:=cS)only[go_sem,eqT h8]
      refine ag (AG g9) ?_
      obtain ⟨h10,b7⟩|⟨h10,b7⟩:=af b7
      ·cases b7
       simp(config:=cS)only[go_sem,eZt h10]
       refine au gb7 ?_
       simp(config:=cS)only[go_sem]
      ·cases b7
       obtain rfl:=(aj gb7).symm
       try dsimp only at h
       cases h
       simp(config:=cS)only[go_sem,eZf h10]
     ·cases b7
      obtain rfl:=(aj gb7).symm
      try dsimp only at h
      cases h
      simp(config:=cS)only[go_sem,eqF h8]
   ·cases h
    simp(config:=cS)only[go_sem,eZf h5]
 ·cases h
  simp(config:=cS)only[go_sem,eZf h2]
def kA (c:Int)(b:List Int):(Int × (List Int))→St
 | (d,a)=>⟨[(2,.ptr 128 1 0 0),(3,.ptr 192 1 0 0),(14,.lit (.int .i64 c)),(15,.lit (.int .i64 d))],[(128,1,.var [.lit (.int .i64 0),.lit (.slice none 0 0),.lit (.slice none 0 0)]),(192,1,.var [.lit (.int .i64 0),.ref 100012289 1 0 a.length,.ref 640 1 0 b.length]),(100012289,1,.row true (ab eI a)),(640,1,.row true (ab eI b))],2⟩
attribute [go_sem] kA
attribute [go_sem] Tryz.ntmps213 Tryz.results213
theorem ue {s:GShow}{res:GState}(h:fj s=some res):am Tryz.prog 213 [.agg (GShow.encS s)] [] (.agg [.lit (.int .i64 res.now),.ref 20000 1 0 res.times.length,.ref 20001 1 0 res.values.length]) [(20000,1,.row true (ab eI res.times)),(20001,1,.row true (ab eI res.values))]:=by
 refine ai (ra:=[.homeCell 128 1,.homeCell 128 2]) (md:=mdT) hT (hi:=hi00) Tryz.func213 rfl rfl (by decide +kernel) (by simp) ?_
 unfold fj at h
 obtain ⟨r01,g1,h⟩:=ae h
 simp(config:=cS)only[go_sem]
 refine ag (lj g1) ?_
 obtain ⟨h2,h⟩|⟨h2,h⟩:=af h
 ·obtain ⟨q02,l3,h⟩:=ae h
  simp(config:=cS)only[go_sem,eZt h2]
  refine aw (m1:=.mk) (m2:=.mk) [.homeCell 192 1,.nf [2,3,14,15] [128,192,100012289,640]] (kA ((s.nodes.length:Nat):Int) (List.replicate 3 0)) l3 ?_ ?_
  ·simp(config:=cS)only[go_sem]
  ·intro nb4 sb4 bb4 b4 gb4
   obtain ⟨v15_1,h100012289_1⟩:=sb4
   unfold cB at b4
   try dsimp only at b4
   obtain ⟨h5,b4⟩|⟨h5,b4⟩:=af b4
   ·obtain ⟨h6,b4⟩|⟨h6,b4⟩:=af b4
    ·obtain ⟨h7,b4⟩:=al b4
     obtain ⟨h8,b4⟩:=al b4
     cases b4
     simp(config:=cS)only[go_sem,eqT h5,eqT h6,eqT h7,eqT h8]
     refine au gb4 ?_
     simp(config:=cS)only[go_sem]
    ·obtain ⟨h9,b4⟩:=al b4
     obtain ⟨h10,b4⟩:=al b4
     cases b4
     simp(config:=cS)only[go_sem,eqT h5,eqF h6,eqT h9,eqT h10]
     refine au gb4 ?_
     simp(config:=cS)only[go_sem]
   ·cases b4
    obtain rfl:=(aj gb4).symm
    try dsimp only at h
    cases h
    simp(config:=cS)only[go_sem,eqF h5]
 ·cases h
  simp(config:=cS)only[go_sem,eZf h2]
def lF (v:List Int)(a b:Int):St:=⟨[(0,.sl (ab eI v)),(5,.sl (ab eI v)),(6,.lit (.int .i64 a)),(7,.lit (.int .i64 b))],[],2⟩
attribute [go_sem] lF
attribute [go_sem] Tryz.ntmps239 Tryz.results239
theorem xr {v:List Int}{res:Bool}(h:gO v=some res):am Tryz.prog 239 [.sl (ab eI v)] [] (.lit (.bool res)) []:=by
 refine ai (ra:=[]) (md:=mdT) hT (hi:=hi00) Tryz.func239 rfl rfl (by decide +kernel) (by simp) ?_
 unfold gO at h
 obtain ⟨q03,l1,h⟩:=ae h
 simp(config:=cS)only[go_sem]
 refine aw (m1:=.mk) (m2:=.mk) [.nf [0,5,6,7] []] (lF v ((v.length:Nat):Int)) l1 ?_ ?_
 ·simp(config:=cS)only[go_sem]
 ·intro nb2 v7_1 bb2 b2 gb2
  unfold dd at b2
  try dsimp only at b2
  obtain ⟨h3,b2⟩|⟨h3,b2⟩:=af b2
  ·obtain ⟨x01,g4,b2⟩:=ae b2
   obtain ⟨h5,h6,h7⟩:=ak g4
   obtain ⟨r02,g8,b2⟩:=ae b2
   simp(config:=cS)only[go_sem,eqT h3,h5,h6,h7]
   refine ag (cj g8) ?_
   obtain ⟨h9,b2⟩|⟨h9,b2⟩:=af b2
   ·cases b2
    simp(config:=cS)only[go_sem,eZt h9]
    refine au gb2 ?_
    simp(config:=cS)only[go_sem]
   ·cases b2
    obtain rfl:=(aj gb2).symm
    try dsimp only at h
    cases h
    simp(config:=cS)only[go_sem,eZf h9]
  ·cases b2
   obtain rfl:=(aj gb2).symm
   try dsimp only at h
   cases h
   simp(config:=cS)only[go_sem,eqF h3]
def mv (a:List Int)(d:Int)(e:List GNode)(f:List GTie)(g b:Int)(c:List Int)(h:Int):St:=⟨[(2,.ptr 128 1 0 0),(3,.ptr 192 1 0 0),(44,.sl (ab eI a)),(45,.lit (.int .i64 d)),(46,.lit (.int .i64 h))],[(128,1,.var [.sl (ab GNode.encS e),.sl (ab GTie.enc f),.lit (.int .i64 g)]),(192,1,.var [.lit (.int .i64 b),.sl (ab eI a),.sl (ab eI c)])],2⟩
attribute [go_sem] mv
def mw (d:List GNode)(e:List GTie)(f a:Int)(b c:List Int)(p:Int):St:=⟨[(2,.ptr 128 1 0 0),(3,.ptr 192 1 0 0),(7,.lit (.int .i64 p))],[(128,1,.var [.sl (ab GNode.encS d),.sl (ab GTie.enc e),.lit (.int .i64 f)]),(192,1,.var [.lit (.int .i64 a),.sl (ab eI b),.sl (ab eI c)])],2⟩
attribute [go_sem] mw
@[go_sem] def hi159_13:DT:=.i2 0 (.i2 1 (.i2 2 (.i2 3 (.i2 4 (.i2 5 (.i2 6 (.i2 7 (.i2 8 (.i2 9 (.i2 10 (.i2 11 (.i2 12 (.i2 13 (.i2 14 (.i2 15 (.i2 16 (.i2 17 .nil)))))))))))))))))
def Bq:Hint where
 acts:=fun _=>[]
 draws:=fun
  | 13=>⟨hi159_13,[[],[0],[],[2],[0,1,2,3],.range 5,.range 6,[],[7],[7,8],[7,8,9],[7,8,9,10],[7,8,9],[7,8,9,10,11,12],[7,8,9,10,11,12,13],[7,8,9,10,11,12,13,14],[7,8,9,10,11,12,13,14,15],.range 17],.range 18⟩
  | _=>⟨.nil,[],[]⟩
theorem Ls (i:Nat):Bq.acts i=[]:=rfl
theorem Lt (i:Nat):Bq.views i=none:=rfl
attribute [go_sem] Ls Lt Tryz.ntmps159 Tryz.results159
@[go_sem] theorem NG:(Bq.draws 13).order=hi159_13:=rfl
theorem np {s:GShow}{v1:GState}{res:Bool}(h:de s v1=some res):am Tryz.prog 159 [.agg (GShow.encS s),.agg (GState.encS v1)] [] (.lit (.bool res)) []:=by
 refine ai (ra:=[]) (md:=mdT) hT (hi:=Bq) Tryz.func159 rfl rfl (by decide +kernel) (by simp) ?_
 unfold de at h
 obtain ⟨r01,g1,h⟩:=ae h
 simp(config:=cS)only[go_sem]
 refine ag (lj g1) ?_
 obtain ⟨h2,h⟩|⟨h2,h⟩:=af h
 ·obtain ⟨r02,g3,h⟩:=ae h
  simp(config:=cS)only[go_sem,eZt h2]
  refine ag (cj g3) ?_
  obtain ⟨h4,h⟩|⟨h4,h⟩:=af h
  ·obtain ⟨h5,h⟩|⟨h5,h⟩:=af h
   ·obtain ⟨x03,g6,h⟩:=ae h
    obtain ⟨h8,h9⟩:=cU (k:=0) g6
    obtain ⟨h10,h⟩|⟨h10,h⟩:=af h
    ·obtain ⟨r04,g11,h⟩:=ae h
     simp(config:=cS)only[go_sem,eZt h2,eZt h4,eqT h5,h8,h9,eqT h10]
     refine ag (xr g11) ?_
     obtain ⟨h12,h⟩|⟨h12,h⟩:=af h
     ·obtain ⟨q11,l13,h⟩:=ae h
      simp(config:=cS)only[go_sem,eZt h2,eZt h4,eqT h5,h8,h9,eqT h10,eZt h12]
      refine aw (m1:=.mk) (m2:=.mk) [.nf [2,3,44,45,46] [128,192]] (mv v1.times ((v1.times.length:Nat):Int) s.nodes s.ties s.horizon v1.now v1.values) l13 ?_ ?_
      ·simp(config:=cS)only[go_sem,eZt h2,eZt h4,eqT h5,h8,h9,eqT h10,eZt h12]
      ·intro nb14 v46_1 bb14 b14 gb14
       unfold dC at b14
       try dsimp only at b14
       obtain ⟨h15,b14⟩|⟨h15,b14⟩:=af b14
       ·obtain ⟨x05,g16,b14⟩:=ae b14
        obtain ⟨h17,h18,h19⟩:=ak g16
        obtain ⟨h20,b14⟩|⟨h20,b14⟩:=af b14
        ·obtain ⟨r06,g21,b14⟩:=ae b14
         simp(config:=cS)only[go_sem,eZt h2,eZt h4,eqT h5,h8,h9,eqT h10,eZt h12,eqT h15,h17,h18,h19,eqT h20]
         refine ag (cj g21) ?_
         obtain ⟨h22,b14⟩|⟨h22,b14⟩:=af b14
         ·cases b14
          simp(config:=cS)only[go_sem,eZt h2,eZt h4,eqT h5,h8,h9,eqT h10,eZt h12,eqT h15,h17,h18,h19,eqT h20,eZt h22]
          refine au gb14 ?_
          simp(config:=cS)only[go_sem,eZt h2,eZt h4,eqT h5,h8,h9,eqT h10,eZt h12,eqT h15,h17,h18,h19,eqT h20,eZt h22]
         ·cases b14
          obtain rfl:=(aj gb14).symm
          try dsimp only at h
          cases h
          simp(config:=cS)only[go_sem,eZt h2,eZt h4,eqT h5,h8,h9,eqT h10,eZt h12,eqT h15,h17,h18,h19,eqT h20,eZf h22]
        ·cases b14
         simp(config:=cS)only[go_sem,eZt h2,eZt h4,eqT h5,h8,h9,eqT h10,eZt h12,eqT h15,h17,h18,h19,eqF h20]
         refine au gb14 ?_
         simp(config:=cS)only[go_sem,eZt h2,eZt h4,eqT h5,h8,h9,eqT h10,eZt h12,eqT h15,h17,h18,h19,eqF h20]
       ·cases b14
        obtain rfl:=(aj gb14).symm
        try dsimp only at h
        obtain ⟨q10,l25,h⟩:=ae h
        simp(config:=cS)only[go_sem,eZt h2,eZt h4,eqT h5,h8,h9,eqT h10,eZt h12,eqF h15]
        refine aw (m1:=.mk) (m2:=.mk) [.nf [2,3,7] [128,192]] (mw s.nodes s.ties s.horizon v1.now v1.times v1.values) l25 ?_ ?_
        ·simp(config:=cS)only[go_sem,eZt h2,eZt h4,eqT h5,h8,h9,eqT h10,eZt h12,eqF h15]
        ·intro nb26 p_2 bb26 b26 gb26
         unfold dD at b26
         try dsimp only at b26
         obtain ⟨h27,b26⟩|⟨h27,b26⟩:=af b26
         ·obtain ⟨r07,g28,b26⟩:=ae b26
          simp(config:=cS)only[go_sem,eZt h2,eZt h4,eqT h5,h8,h9,eqT h10,eZt h12,eqF h15,eqT h27]
          refine ag (ig g28) ?_
          obtain ⟨x08,g29,b26⟩:=ae b26
          obtain ⟨h30,h31,h32⟩:=ak g29
          obtain ⟨h33,b26⟩|⟨h33,b26⟩:=af b26
          ·obtain ⟨x09,g34,b26⟩:=ae b26
           obtain ⟨h35,h36,h37⟩:=ak g34
           obtain ⟨h38,b26⟩|⟨h38,b26⟩:=af b26
           ·cases b26
            simp(config:=cS)only[go_sem,eZt h2,eZt h4,eqT h5,h8,h9,eqT h10,eZt h12,eqF h15,eqT h27,h30,h31,h32,eqT h33,h35,h36,h37,eqT h38]
            refine au gb26 ?_
            simp(config:=cS)only[go_sem,eZt h2,eZt h4,eqT h5,h8,h9,eqT h10,eZt h12,eqF h15,eqT h27,h30,h31,h32,eqT h33,h35,h36,h37,eqT h38]
           ·cases b26
            obtain rfl:=(aj gb26).symm
            try dsimp only at h
            cases h
            simp(config:=cS)only[go_sem,eZt h2,eZt h4,eqT h5,h8,h9,eqT h10,eZt h12,eqF h15,eqT h27,h30,h31,h32,eqT h33,h35,h36,h37,eqF h38]
          ·obtain ⟨h40,b26⟩|⟨h40,b26⟩:=af b26
           ·cases b26
            simp(config:=cS)only[go_sem,eZt h2,eZt h4,eqT h5,h8,h9,eqT h10,eZt h12,eqF h15,eqT h27,h30,h31,h32,eqF h33,eqT h40]
            refine au gb26 ?_
            simp(config:=cS)only[go_sem,eZt h2,eZt h4,eqT h5,h8,h9,eqT h10,eZt h12,eqF h15,eqT h27,h30,h31,h32,eqF h33,eqT h40]
           ·cases b26
            obtain rfl:=(aj gb26).symm
            try dsimp only at h
            cases h
            simp(config:=cS)only[go_sem,eZt h2,eZt h4,eqT h5,h8,h9,eqT h10,eZt h12,eqF h15,eqT h27,h30,h31,h32,eqF h33,eqF h40]
         ·cases b26
          obtain rfl:=(aj gb26).symm
          try dsimp only at h
          cases h
          simp(config:=cS)only[go_sem,eZt h2,eZt h4,eqT h5,h8,h9,eqT h10,eZt h12,eqF h15,eqF h27]
     ·cases h
      simp(config:=cS)only[go_sem,eZt h2,eZt h4,eqT h5,h8,h9,eqT h10,eZf h12]
    ·cases h
     simp(config:=cS)only[go_sem,eZt h2,eZt h4,eqT h5,h8,h9,eqF h10]
   ·cases h
    simp(config:=cS)only[go_sem,eZt h2,eZt h4,eqF h5]
  ·cases h
   simp(config:=cS)only[go_sem,eZt h2,eZf h4]
 ·cases h
  simp(config:=cS)only[go_sem,eZf h2]
def kL (e:List GTie)(f b:Int)(c d:List Int):(Int × (List Int))→St
 | (g,a)=>⟨[(3,.ptr 192 1 0 0),(5,.ref 512 1 0 a.length),(10,.sl (ab GTie.enc e)),(11,.lit (.int .i64 f)),(12,.lit (.int .i64 g))],[(192,1,.var [.lit (.int .i64 b),.sl (ab eI c),.sl (ab eI d)]),(512,1,.row true (ab eI a))],2⟩
attribute [go_sem] kL
attribute [go_sem] Tryz.ntmps271 Tryz.results271
theorem vy {s:GShow}{v1:GState}{res:List Int}(h:gd s v1=some res):am Tryz.prog 271 [.agg (GShow.encS s),.agg (GState.encS v1)] [] (.ref 20000 1 0 res.length) [(20000,1,.row true (ab eI res))]:=by
 refine ai (ra:=[.home 4]) (md:=mdT) hT (hi:=hi00) Tryz.func271 rfl rfl (by decide +kernel) (by simp) ?_
 unfold gd at h
 obtain ⟨q04,l1,h⟩:=ae h
 simp(config:=cS)only[go_sem]
 refine aw (m1:=.mk) (m2:=.mk) [.nf [3,5,10,11,12] [192,512]] (kL s.ties ((s.ties.length:Nat):Int) v1.now v1.times v1.values) l1 ?_ ?_
 ·simp(config:=cS)only[go_sem]
 ·intro nb2 sb2 bb2 b2 gb2
  obtain ⟨v12_1,out_1⟩:=sb2
  unfold dQ at b2
  try dsimp only at b2
  obtain ⟨h3,b2⟩|⟨h3,b2⟩:=af b2
  ·obtain ⟨x01,g4,b2⟩:=ae b2
   obtain ⟨h5,h6,h7⟩:=ak g4
   obtain ⟨h8,b2⟩|⟨h8,b2⟩:=af b2
   ·obtain ⟨x02,g9,b2⟩:=ae b2
    obtain ⟨h10,h11,h12⟩:=ak g9
    obtain ⟨h13,b2⟩|⟨h13,b2⟩:=af b2
    ·cases b2
     simp(config:=cS)only[go_sem,eqT h3,h5,h6,h7,eZt h8,h10,h11,h12,eqT h13]
     refine au gb2 ?_
     simp(config:=cS)only[go_sem]
    ·obtain ⟨x03,g14,b2⟩:=ae b2
     obtain ⟨h15,h16,h17⟩:=ak g14
     obtain ⟨h18,b2⟩|⟨h18,b2⟩:=af b2
     ·obtain ⟨h19,b2⟩:=al b2
      obtain ⟨h20,b2⟩:=al b2
      cases b2
      simp(config:=cS)only[go_sem,eqT h3,h5,h6,h7,eZt h8,h10,h11,h12,eqF h13,h15,h16,h17,eqT h18,eqT h19,eqT h20]
      refine au gb2 ?_
      simp(config:=cS)only[go_sem]
     ·cases b2
      simp(config:=cS)only[go_sem,eqT h3,h5,h6,h7,eZt h8,h10,h11,h12,eqF h13,h15,h16,h17,eqF h18]
      refine au gb2 ?_
      simp(config:=cS)only[go_sem]
   ·cases b2
    simp(config:=cS)only[go_sem,eqT h3,h5,h6,h7,eZf h8]
    refine au gb2 ?_
    simp(config:=cS)only[go_sem]
  ·cases b2
   obtain rfl:=(aj gb2).symm
   try dsimp only at h
   cases h
   simp(config:=cS)only[go_sem,eqF h3]
def kB (g:Int)(h:List GNode)(i:List GTie)(j d:Int)(e f b:List Int):(Int × (List Int) × (List Int))→St
 | (k,a,c)=>⟨[(2,.ptr 128 1 0 0),(3,.ptr 192 1 0 0),(6,.ref 704 1 0 a.length),(7,.ref 768 1 0 c.length),(15,.ref 960 1 0 b.length),(16,.lit (.int .i64 g)),(17,.lit (.int .i64 k))],[(128,1,.var [.sl (ab GNode.encS h),.sl (ab GTie.enc i),.lit (.int .i64 j)]),(192,1,.var [.lit (.int .i64 d),.sl (ab eI e),.sl (ab eI f)]),(704,1,.row true (ab eI a)),(768,1,.row true (ab eI c)),(960,1,.row true (ab eI b))],2⟩
attribute [go_sem] kB
@[go_sem] def hi246_6:DT:=.i2 0 (.i2 1 (.i2 2 (.i2 3 (.i2 4 (.i2 5 (.i2 6 (.i2 7 (.i2 8 (.i2 9 (.i2 10 (.i2 11 (.i2 12 (.i2 13 .nil)))))))))))))
def Br:Hint where
 acts:=fun _=>[]
 draws:=fun
  | 6=>⟨hi246_6,[[],[0],[],[2],[],[4],[],[4,5,6],[4,5,6,7],[4,5,6,7,8],[2,3,4,5,6,7,8,9],[2,3,4,5,6,7,8,9,10],.range 12,.range 13],.range 14⟩
  | _=>⟨.nil,[],[]⟩
theorem Lu (i:Nat):Br.acts i=[]:=rfl
theorem Lv (i:Nat):Br.views i=none:=rfl
attribute [go_sem] Lu Lv Tryz.ntmps246 Tryz.results246
@[go_sem] theorem NL:(Br.draws 6).order=hi246_6:=rfl
theorem uf {s:GShow}{v1:GState}{res:(List Int) × (List Int)}(h:fk s v1=some res):am Tryz.prog 246 [.agg (GShow.encS s),.agg (GState.encS v1)] [] (.tup [.ref 20000 1 0 res.1.length,.ref 20001 1 0 res.2.length]) [(20000,1,.row true (ab eI res.1)),(20001,1,.row true (ab eI res.2))]:=by
 refine ai (ra:=[.home 4,.home 5]) (md:=mdT) hT (hi:=Br) Tryz.func246 rfl rfl (by decide +kernel) (by simp) ?_
 unfold fk at h
 obtain ⟨r01,g1,h⟩:=ae h
 simp(config:=cS)only[go_sem]
 refine ag (vy g1) ?_
 obtain ⟨q05,l2,h⟩:=ae h
 simp(config:=cS)only[go_sem]
 refine aw (m1:=.mk) (m2:=.mk) [.nf [2,3,6,7,15,16,17] [128,192,704,768,960]] (kB ((r01.length:Nat):Int) s.nodes s.ties s.horizon v1.now v1.times v1.values r01) l2 ?_ ?_
 ·simp(config:=cS)only[go_sem]
 ·intro nb3 sb3 bb3 b3 gb3
  obtain ⟨v17_1,must_1,may_1⟩:=sb3
  unfold du at b3
  try dsimp only at b3
  obtain ⟨h4,b3⟩|⟨h4,b3⟩:=af b3
  ·obtain ⟨x02,g5,b3⟩:=ae b3
   obtain ⟨h6,h7,h8⟩:=ak g5
   obtain ⟨x03,g9,b3⟩:=ae b3
   obtain ⟨h10,h11,h12⟩:=ak g9
   obtain ⟨x04,g13,b3⟩:=ae b3
   obtain ⟨h14,h15,h16⟩:=ak g13
   obtain ⟨h17,b3⟩|⟨h17,b3⟩:=af b3
   ·obtain ⟨h18,b3⟩:=al b3
    obtain ⟨h19,b3⟩:=al b3
    cases b3
    simp(config:=cS)only[go_sem,eqT h4,h6,h7,h8,h10,h11,h12,h14,h15,h16,eqT h17,eqT h18,eqT h19]
    refine au gb3 ?_
    simp(config:=cS)only[go_sem]
   ·obtain ⟨h20,b3⟩|⟨h20,b3⟩:=af b3
    ·obtain ⟨h21,b3⟩:=al b3
     obtain ⟨h22,b3⟩:=al b3
     cases b3
     simp(config:=cS)only[go_sem,eqT h4,h6,h7,h8,h10,h11,h12,h14,h15,h16,eqF h17,eqT h20,eqT h21,eqT h22]
     refine au gb3 ?_
     simp(config:=cS)only[go_sem]
    ·cases b3
     simp(config:=cS)only[go_sem,eqT h4,h6,h7,h8,h10,h11,h12,h14,h15,h16,eqF h17,eqF h20]
     refine au gb3 ?_
     simp(config:=cS)only[go_sem]
  ·cases b3
   obtain rfl:=(aj gb3).symm
   try dsimp only at h
   cases h
   simp(config:=cS)only[go_sem,eqF h4]
def my (n:Int)(d:List Int)(b:Int):(Int × (List Int))→St
 | (c,a)=>⟨[(1,.lit (.int .i64 n)),(5,.ref 512 1 0 a.length),(9,.sl (ab eI d)),(10,.lit (.int .i64 b)),(11,.lit (.int .i64 c))],[(512,1,.row true (ab eI a))],2⟩
attribute [go_sem] my
attribute [go_sem] Tryz.ntmps248 Tryz.results248
theorem qF {l:List Int}{n:Int}{res:List Int}(h:fT l n=some res):am Tryz.prog 248 [.sl (ab eI l),.lit (.int .i64 n)] [] (.ref 20000 1 0 res.length) [(20000,1,.row true (ab eI res))]:=by
 refine ai (ra:=[.home 4]) (md:=mdT) hT (hi:=hi00) Tryz.func248 rfl rfl (by decide +kernel) (by simp) ?_
 unfold fT at h
 obtain ⟨q02,l1,h⟩:=ae h
 simp(config:=cS)only[go_sem]
 refine aw (m1:=.mk) (m2:=.mk) [.nf [1,5,9,10,11] [512]] (my n l ((l.length:Nat):Int)) l1 ?_ ?_
 ·simp(config:=cS)only[go_sem]
 ·intro nb2 sb2 bb2 b2 gb2
  obtain ⟨v11_1,out_1⟩:=sb2
  unfold fm at b2
  try dsimp only at b2
  obtain ⟨h3,b2⟩|⟨h3,b2⟩:=af b2
  ·obtain ⟨x01,g4,b2⟩:=ae b2
   obtain ⟨h5,h6,h7⟩:=ak g4
   obtain ⟨h8,b2⟩:=al b2
   obtain ⟨h9,b2⟩|⟨h9,b2⟩:=af b2
   ·obtain ⟨h10,b2⟩:=al b2
    obtain ⟨h11,b2⟩:=al b2
    cases b2
    simp(config:=cS)only[go_sem,eqT h3,h5,h6,h7,eqF h8,eqT h9,eqT h10,eqT h11]
    refine au gb2 ?_
    simp(config:=cS)only[go_sem]
   ·cases b2
    simp(config:=cS)only[go_sem,eqT h3,h5,h6,h7,eqF h8,eqF h9]
    refine au gb2 ?_
    simp(config:=cS)only[go_sem]
  ·cases b2
   obtain rfl:=(aj gb2).symm
   try dsimp only at h
   cases h
   simp(config:=cS)only[go_sem,eqF h3]
def lG (a b:List Int):(Int × Int × (List Int))→St
 | (i,k,c)=>⟨[(0,.sl (ab eI a)),(1,.sl (ab eI b)),(5,.ref 512 1 0 c.length),(6,.lit (.int .i64 i)),(7,.lit (.int .i64 k))],[(512,1,.row true (ab eI c))],2⟩
attribute [go_sem] lG
@[go_sem] def hi247_5:DT:=.i2 0 (.i2 1 (.i2 2 (.i2 3 (.i2 4 (.i2 5 (.i2 6 (.i2 7 (.i2 8 (.i2 9 (.i2 10 (.i2 11 (.i2 12 (.i2 13 (.i2 14 (.i2 15 (.i2 16 (.i2 17 (.i2 18 (.i2 19 (.i2 20 .nil))))))))))))))))))))
def Bs:Hint where
 acts:=fun _=>[]
 draws:=fun
  | 5=>⟨hi247_5,[[],[],[1],[0,1,2],[0,1,2,3],.range 5,.range 5,[0,1,2,3,4,6],.range 8,.range 9,.range 10,.range 10,.range 12,.range 13,.range 10,.range 10,[0,1,2,3,4,5,6,7,8,9,14,15],[0,1,2,3,4,5,6,7,8,9,14,15,16],.range 18,.range 19,.range 20],.range 21⟩
  | _=>⟨.nil,[],[]⟩
theorem Lw (i:Nat):Bs.acts i=[]:=rfl
theorem Lx (i:Nat):Bs.views i=none:=rfl
attribute [go_sem] Lw Lx Tryz.ntmps247 Tryz.results247
@[go_sem] theorem NM:(Bs.draws 5).order=hi247_5:=rfl
theorem xt {a b res:List Int}(h:eZ a b=some res):am Tryz.prog 247 [.sl (ab eI a),.sl (ab eI b)] [] (.ref 20000 1 0 res.length) [(20000,1,.row true (ab eI res))]:=by
 refine ai (ra:=[.home 4]) (md:=mdT) hT (hi:=Bs) Tryz.func247 rfl rfl (by decide +kernel) (by simp) ?_
 unfold eZ at h
 obtain ⟨q06,l1,h⟩:=ae h
 simp(config:=cS)only[go_sem]
 refine aw (m1:=.mk) (m2:=.mk) [.nf [0,1,5,6,7] [512]] (lG a b) l1 ?_ ?_
 ·simp(config:=cS)only[go_sem]
 ·intro nb2 sb2 bb2 b2 gb2
  obtain ⟨i_1,k_1,out_1⟩:=sb2
  unfold eP at b2
  try dsimp only at b2
  obtain ⟨h3,b2⟩|⟨h3,b2⟩:=af b2
  ·obtain ⟨h4,b2⟩|⟨h4,b2⟩:=af b2
   ·obtain ⟨x01,g5,b2⟩:=ae b2
    obtain ⟨h6,h7,h8⟩:=ak g5
    obtain ⟨h9,b2⟩:=al b2
    obtain ⟨h10,b2⟩:=al b2
    cases b2
    simp(config:=cS)only[go_sem,eqT h3,eqT h4,h6,h7,h8,eqT h9,eqT h10]
    refine au gb2 ?_
    simp(config:=cS)only[go_sem]
   ·obtain ⟨x02,g11,b2⟩:=ae b2
    obtain ⟨h12,h13,h14⟩:=ak g11
    obtain ⟨x03,g15,b2⟩:=ae b2
    obtain ⟨h16,h17,h18⟩:=ak g15
    obtain ⟨h19,b2⟩|⟨h19,b2⟩:=af b2
    ·obtain ⟨h20,b2⟩:=al b2
     obtain ⟨h21,b2⟩:=al b2
     cases b2
     simp(config:=cS)only[go_sem,eqT h3,eqF h4,h12,h13,h14,h16,h17,h18,eqT h19,eqT h20,eqT h21]
     refine au gb2 ?_
     simp(config:=cS)only[go_sem]
    ·obtain ⟨h22,b2⟩:=al b2
     obtain ⟨h23,b2⟩:=al b2
     cases b2
     simp(config:=cS)only[go_sem,eqT h3,eqF h4,h12,h13,h14,h16,h17,h18,eqF h19,eqT h22,eqT h23]
     refine au gb2 ?_
     simp(config:=cS)only[go_sem]
  ·obtain ⟨h24,b2⟩|⟨h24,b2⟩:=af b2
   ·obtain ⟨h25,b2⟩|⟨h25,b2⟩:=af b2
    ·obtain ⟨x04,g26,b2⟩:=ae b2
     obtain ⟨h27,h28,h29⟩:=ak g26
     obtain ⟨h30,b2⟩:=al b2
     obtain ⟨h31,b2⟩:=al b2
     cases b2
     simp(config:=cS)only[go_sem,eqF h3,eqT h24,eqT h25,h27,h28,h29,eqT h30,eqT h31]
     refine au gb2 ?_
     simp(config:=cS)only[go_sem]
    ·obtain ⟨x05,g32,b2⟩:=ae b2
     obtain ⟨h33,h34,h35⟩:=ak g32
     obtain ⟨h36,b2⟩:=al b2
     obtain ⟨h37,b2⟩:=al b2
     cases b2
     simp(config:=cS)only[go_sem,eqF h3,eqT h24,eqF h25,h33,h34,h35,eqT h36,eqT h37]
     refine au gb2 ?_
     simp(config:=cS)only[go_sem]
   ·cases b2
    obtain rfl:=(aj gb2).symm
    try dsimp only at h
    cases h
    simp(config:=cS)only[go_sem,eqF h3,eqF h24]
def kM (a b:List Int):(Int × (List (List Int)))→St
 | (n,c)=>⟨[(5,.ref 1472 1 0 a.length),(6,.ref 1473 1 0 b.length),(7,.ref 1664 1 0 c.length),(8,.lit (.int .i64 n))],[(1472,1,.row true (ab eI a)),(1473,1,.row true (ab eI b)),(1664,1,.row true (ab (eLO eI) c))],2⟩
attribute [go_sem] kM
attribute [go_sem] Tryz.ntmps169 Tryz.results169
theorem vz {s:GShow}{v1:GState}{res:List (List Int)}(h:gg s v1=some res):am Tryz.prog 169 [.agg (GShow.encS s),.agg (GState.encS v1)] [] (.ref 20000 1 0 res.length) [(20000,1,.row true (ab (eLO eI) res))]:=by
 refine ai (ra:=[.home 4]) (md:=mdT) hT (hi:=hi00) Tryz.func169 rfl rfl (by decide +kernel) (by simp) ?_
 unfold gg at h
 obtain ⟨r01,g1,h⟩:=ae h
 simp(config:=cS)only[go_sem]
 refine ag (np g1) ?_
 obtain ⟨h2,h⟩|⟨h2,h⟩:=af h
 ·obtain ⟨h3,h⟩|⟨h3,h⟩:=af h
  ·cases h
   simp(config:=cS)only[go_sem,eZt h2,eqT h3]
  ·obtain ⟨r02,g4,h⟩:=ae h
   simp(config:=cS)only[go_sem,eZt h2,eqF h3]
   refine ag (uf g4) ?_
   obtain ⟨q05,l5,h⟩:=ae h
   simp(config:=cS)only[go_sem]
   refine aw (m1:=.mk) (m2:=.mk) [.nf [5,6,7,8] [1472,1473,1664]] (kM r02.1 r02.2) l5 ?_ ?_
   ·simp(config:=cS)only[go_sem]
   ·intro nb6 sb6 bb6 b6 gb6
    obtain ⟨n_1,out_1⟩:=sb6
    unfold dR at b6
    try dsimp only at b6
    obtain ⟨h7,b6⟩:=al b6
    obtain ⟨h8,b6⟩|⟨h8,b6⟩:=af b6
    ·obtain ⟨r03,g9,b6⟩:=ae b6
     simp(config:=cS)only[go_sem,eqF h7,eqT h8]
     refine ag (qF g9) ?_
     obtain ⟨r04,g10,b6⟩:=ae b6
     simp(config:=cS)only[go_sem]
     refine ag (xt g10) ?_
     obtain ⟨h11,b6⟩:=al b6
     obtain ⟨h12,b6⟩:=al b6
     cases b6
     simp(config:=cS)only[go_sem,eqT h11,eqT h12]
     refine au gb6 ?_
     simp(config:=cS)only[go_sem]
    ·cases b6
     obtain rfl:=(aj gb6).symm
     try dsimp only at h
     cases h
     simp(config:=cS)only[go_sem,eqF h7,eqF h8]
 ·cases h
  simp(config:=cS)only[go_sem,eZf h2]
def nX (a:List Int)(b:List (List Int))(c d:Int):St:=⟨[(1,.sl (ab eI a)),(7,.sl (ab (eLS eI) b)),(8,.lit (.int .i64 c)),(9,.lit (.int .i64 d))],[],2⟩
attribute [go_sem] nX
attribute [go_sem] Tryz.ntmps307 Tryz.results307
theorem sO {l:List (List Int)}{set:List Int}{res:Bool}(h:iC l set=some res):am Tryz.prog 307 [.sl (ab (eLS eI) l),.sl (ab eI set)] [] (.lit (.bool res)) []:=by
 refine ai (ra:=[]) (md:=mdT) hT (hi:=hi00) Tryz.func307 rfl rfl (by decide +kernel) (by simp) ?_
 unfold iC at h
 obtain ⟨q03,l1,h⟩:=ae h
 simp(config:=cS)only[go_sem]
 refine aw (m1:=.mk) (m2:=.mk) [.nf [1,7,8,9] []] (nX set l ((l.length:Nat):Int)) l1 ?_ ?_
 ·simp(config:=cS)only[go_sem]
 ·intro nb2 v9_1 bb2 b2 gb2
  unfold fa at b2
  try dsimp only at b2
  obtain ⟨h3,b2⟩|⟨h3,b2⟩:=af b2
  ·obtain ⟨x01,g4,b2⟩:=ae b2
   obtain ⟨h5,h6,h7⟩:=ak g4
   obtain ⟨r02,g8,b2⟩:=ae b2
   simp(config:=cS)only[go_sem,eqT h3,h5,h6,h7]
   refine ag (kl g8) ?_
   obtain ⟨h9,b2⟩|⟨h9,b2⟩:=af b2
   ·cases b2
    obtain rfl:=(aj gb2).symm
    try dsimp only at h
    cases h
    simp(config:=cS)only[go_sem,eZt h9]
   ·cases b2
    simp(config:=cS)only[go_sem,eZf h9]
    refine au gb2 ?_
    simp(config:=cS)only[go_sem]
  ·cases b2
   obtain rfl:=(aj gb2).symm
   try dsimp only at h
   cases h
   simp(config:=cS)only[go_sem,eqF h3]
@[go_sem] def hi269_1:DT:=.i1 0 (.i1 1 (.i1 3 (.i1 4 (.i1 7 (.i1 8 (.fork (.i0 2 [0,1,3,4,7,8] (.fork (.i0 5 [0,1,7,8] (.i0 6 [0,1,3,4,7,8] (.i0 9 [0,1] (.i2 10 (.i2 11 .nil))))) (.i0 6 [0,1,3,4,7,8] (.i0 5 [0,1,7,8] (.i0 9 [0,1] (.i2 10 (.i2 11 .nil))))))) (.i0 6 [0,1,3,4,7,8] (.i0 2 [0,1,3,4,7,8] (.i0 5 [0,1,7,8] (.i0 9 [0,1] (.i2 10 (.i2 11 .nil))))))))))))
def Bt:Hint where
 acts:=fun _=>[]
 draws:=fun
  | 1=>⟨hi269_1,[[],[0],[],[],[3],[2,3,4],[],[],[7],[2,3,4,5,6,7,8],.range 10,.range 11],.range 12⟩
  | _=>⟨.nil,[],[]⟩
theorem Ly (i:Nat):Bt.acts i=[]:=rfl
theorem Lz (i:Nat):Bt.views i=none:=rfl
attribute [go_sem] Ly Lz Tryz.ntmps269 Tryz.results269
@[go_sem] theorem NN:(Bt.draws 1).order=hi269_1:=rfl
theorem km {v0 res:GState}(h:df v0=some res):am Tryz.prog 269 [.agg (GState.encS v0)] [] (.agg [.lit (.int .i64 res.now),.ref 20000 1 0 res.times.length,.ref 20001 1 0 res.values.length]) [(20000,1,.row true (ab eI res.times)),(20001,1,.row true (ab eI res.values))]:=by
 refine ai (ra:=[.homeCell 128 1,.homeCell 128 2]) (md:=mdT) hT (hi:=Bt) Tryz.func269 rfl rfl (by decide +kernel) (by simp) ?_
 unfold df at h
 try simp(config:=cS)only[go_sem]
 refine gJ ?_ ?_
 ·try simp(config:=cS)only[go_sem]
  refine gJ ?_ ?_
  ·obtain ⟨h1,h⟩:=al h
   obtain ⟨h2,h⟩:=al h
   obtain ⟨h3,h⟩:=al h
   obtain ⟨h4,h⟩:=al h
   cases h
   simp(config:=cS)only[go_sem,eqT h1,eqT h2,eqT h3,eqT h4]
  ·obtain ⟨h5,h⟩:=al h
   obtain ⟨h6,h⟩:=al h
   obtain ⟨h7,h⟩:=al h
   obtain ⟨h8,h⟩:=al h
   cases h
   simp(config:=cS)only[go_sem,eqT h5,eqT h6,eqT h7,eqT h8]
 ·obtain ⟨h9,h⟩:=al h
  obtain ⟨h10,h⟩:=al h
  obtain ⟨h11,h⟩:=al h
  obtain ⟨h12,h⟩:=al h
  cases h
  simp(config:=cS)only[go_sem,eqT h9,eqT h10,eqT h11,eqT h12]
def mV (g:List Int)(h:Int)(i:List GNode)(j:List GTie)(k d:Int)(e f:List Int)(c:Int)(a:List Int):(Int × (List Int))→St
 | (l,b)=>⟨[(3,.ptr 192 1 0 0),(4,.ptr 256 1 0 0),(6,.ptr 384 1 0 0),(7,.ptr 448 1 0 0),(12,.sl (ab eI g)),(13,.lit (.int .i64 h)),(14,.lit (.int .i64 l))],[(192,1,.var [.sl (ab GNode.encS i),.sl (ab GTie.enc j),.lit (.int .i64 k)]),(256,1,.var [.lit (.int .i64 d),.sl (ab eI e),.sl (ab eI f)]),(384,1,.var [.lit (.int .i64 0),.lit (.slice none 0 0),.lit (.slice none 0 0)]),(448,1,.var [.lit (.int .i64 c),.ref 704 1 0 b.length,.ref 705 1 0 a.length]),(704,1,.row true (ab eI b)),(705,1,.row true (ab eI a))],2⟩
attribute [go_sem] mV
@[go_sem] def hi308_5:DT:=.i2 0 (.i2 1 (.i2 2 (.i2 3 (.i2 4 (.i2 5 (.i2 6 (.i2 7 (.i2 8 (.i2 9 (.i2 10 (.i2 11 .nil)))))))))))
def Bu:Hint where
 acts:=fun _=>[]
 draws:=fun
  | 5=>⟨hi308_5,[[],[0],[],[2],[],[2,3,4],[2,3,4,5],[2,3,4,5,6],[],[8],.range 10,.range 11],.range 12⟩
  | _=>⟨.nil,[],[]⟩
theorem LA (i:Nat):Bu.acts i=[]:=rfl
theorem LB (i:Nat):Bu.views i=none:=rfl
attribute [go_sem] LA LB Tryz.ntmps308 Tryz.results308
@[go_sem] theorem NO:(Bu.draws 5).order=hi308_5:=rfl
theorem AH {s:GShow}{v1:GState}{ties:List Int}{res:GState}(h:jr s v1 ties=some res):am Tryz.prog 308 [.agg (GShow.encS s),.agg (GState.encS v1),.sl (ab eI ties)] [] (.agg [.lit (.int .i64 res.now),.ref 20000 1 0 res.times.length,.ref 20001 1 0 res.values.length]) [(20000,1,.row true (ab eI res.times)),(20001,1,.row true (ab eI res.values))]:=by
 refine ai (ra:=[.homeCell 384 1,.homeCell 384 2]) (md:=mdT) hT (hi:=Bu) Tryz.func308 rfl rfl (by decide +kernel) (by simp) ?_
 unfold jr at h
 obtain ⟨r01,g1,h⟩:=ae h
 simp(config:=cS)only[go_sem]
 refine ag (km g1) ?_
 obtain ⟨q05,l2,h⟩:=ae h
 simp(config:=cS)only[go_sem]
 refine aw (m1:=.mk) (m2:=.mk) [.nf [3,4,6,7,12,13,14] [192,256,384,448,704,705]] (mV ties ((ties.length:Nat):Int) s.nodes s.ties s.horizon v1.now v1.times v1.values r01.now r01.values) l2 ?_ ?_
 ·simp(config:=cS)only[go_sem]
 ·intro nb3 sb3 bb3 b3 gb3
  obtain ⟨v14_1,h704_1⟩:=sb3
  unfold gh at b3
  try dsimp only at b3
  obtain ⟨h4,b3⟩|⟨h4,b3⟩:=af b3
  ·obtain ⟨x02,g5,b3⟩:=ae b3
   obtain ⟨h6,h7,h8⟩:=ak g5
   obtain ⟨x03,g9,b3⟩:=ae b3
   obtain ⟨h10,h11,h12⟩:=ak g9
   obtain ⟨x04,g13,b3⟩:=ae b3
   obtain ⟨h14,h15,h16⟩:=ak g13
   cases b3
   simp(config:=cS)only[go_sem,eqT h4,h6,h7,h8,h10,h11,h12,h14,h15,h16]
   refine au gb3 ?_
   simp(config:=cS)only[go_sem]
  ·cases b3
   obtain rfl:=(aj gb3).symm
   try dsimp only at h
   cases h
   simp(config:=cS)only[go_sem,eqF h4]
attribute [go_sem] Tryz.ntmps280 Tryz.results280
theorem rY {s:GShow}{v1:GState}{ties:List Int}{res:GState × Bool}(h:gz s v1 ties=some res):am Tryz.prog 280 [.agg (GShow.encS s),.agg (GState.encS v1),.sl (ab eI ties)] [] (.tup [.agg [.lit (.int .i64 res.1.now),.ref 20000 1 0 res.1.times.length,.ref 20001 1 0 res.1.values.length],.lit (.bool res.2)]) [(20000,1,.row true (ab eI res.1.times)),(20001,1,.row true (ab eI res.1.values))]:=by
 refine ai (ra:=[.homeCell 384 1,.homeCell 384 2]) (md:=mdT) hT (hi:=hi00) Tryz.func280 rfl rfl (by decide +kernel) (by simp) ?_
 unfold gz at h
 obtain ⟨r01,g1,h⟩:=ae h
 simp(config:=cS)only[go_sem]
 refine ag (vz g1) ?_
 obtain ⟨r02,g2,h⟩:=ae h
 simp(config:=cS)only[go_sem]
 refine ag (sO g2) ?_
 obtain ⟨h3,h⟩|⟨h3,h⟩:=af h
 ·obtain ⟨r03,g4,h⟩:=ae h
  simp(config:=cS)only[go_sem,eZt h3]
  refine ag (AH g4) ?_
  cases h
  simp(config:=cS)only[go_sem]
 ·cases h
  simp(config:=cS)only[go_sem,eZf h3]
attribute [go_sem] Tryz.ntmps311 Tryz.results311
theorem xu {s:GShow}{v1:GState}{res:Bool}(h:gP s v1=some res):am Tryz.prog 311 [.agg (GShow.encS s),.agg (GState.encS v1)] [] (.lit (.bool res)) []:=by
 refine ai (ra:=[]) (md:=mdT) hT (hi:=hi00) Tryz.func311 rfl rfl (by decide +kernel) (by simp) ?_
 unfold gP at h
 obtain ⟨r01,g1,h⟩:=ae h
 simp(config:=cS)only[go_sem]
 refine ag (cj g1) ?_
 obtain ⟨h2,h⟩|⟨h2,h⟩:=af h
 ·obtain ⟨r02,g3,h⟩:=ae h
  simp(config:=cS)only[go_sem,eZt h2]
  refine ag (lj g3) ?_
  obtain ⟨h4,h⟩|⟨h4,h⟩:=af h
  ·obtain ⟨h5,h⟩|⟨h5,h⟩:=af h
   ·cases h
    simp(config:=cS)only[go_sem,eZt h2,eZt h4,eqT h5]
   ·obtain ⟨r03,g6,h⟩:=ae h
    simp(config:=cS)only[go_sem,eZt h2,eZt h4,eqF h5]
    refine ag (km g6) ?_
    obtain ⟨r04,g7,h⟩:=ae h
    simp(config:=cS)only[go_sem,eZt h2,eZt h4,eqF h5]
    refine ag (np g7) ?_
    cases h
    simp(config:=cS)only[go_sem,eZt h2,eZt h4,eqF h5]
  ·cases h
   simp(config:=cS)only[go_sem,eZt h2,eZf h4]
 ·cases h
  simp(config:=cS)only[go_sem,eZf h2]
def lH (v d:List Int)(a:Int):(Int × Int)→St
 | (b,c)=>⟨[(1,.sl (ab eI v)),(5,.lit (.int .i64 b)),(9,.sl (ab eI d)),(10,.lit (.int .i64 a)),(11,.lit (.int .i64 c))],[],2⟩
attribute [go_sem] lH
attribute [go_sem] Tryz.ntmps116 Tryz.results116
theorem xv {l v:List Int}{res:Int}(h:gQ l v=some res):am Tryz.prog 116 [.sl (ab eI l),.sl (ab eI v)] [] (.lit (.int .i64 res)) []:=by
 refine ai (ra:=[]) (md:=mdT) hT (hi:=hi00) Tryz.func116 rfl rfl (by decide +kernel) (by simp) ?_
 unfold gQ at h
 obtain ⟨q04,l1,h⟩:=ae h
 simp(config:=cS)only[go_sem]
 refine aw (m1:=.mk) (m2:=.mk) [.nf [1,5,9,10,11] []] (lH v l ((l.length:Nat):Int)) l1 ?_ ?_
 ·simp(config:=cS)only[go_sem]
 ·intro nb2 sb2 bb2 b2 gb2
  obtain ⟨out_1,v11_1⟩:=sb2
  unfold eQ at b2
  try dsimp only at b2
  obtain ⟨h3,b2⟩|⟨h3,b2⟩:=af b2
  ·obtain ⟨x01,g4,b2⟩:=ae b2
   obtain ⟨h5,h6,h7⟩:=ak g4
   obtain ⟨r02,g8,b2⟩:=ae b2
   simp(config:=cS)only[go_sem,eqT h3,h5,h6,h7]
   refine ag (kj g8) ?_
   obtain ⟨x03,g9,b2⟩:=ae b2
   obtain ⟨h10,h11,h12⟩:=ak g9
   obtain ⟨h13,b2⟩|⟨h13,b2⟩:=af b2
   ·cases b2
    simp(config:=cS)only[go_sem,h10,h11,h12,eqT h13]
    refine au gb2 ?_
    simp(config:=cS)only[go_sem]
   ·cases b2
    simp(config:=cS)only[go_sem,h10,h11,h12,eqF h13]
    refine au gb2 ?_
    simp(config:=cS)only[go_sem]
  ·cases b2
   obtain rfl:=(aj gb2).symm
   try dsimp only at h
   cases h
   simp(config:=cS)only[go_sem,eqF h3]
def kC (a:List GNode)(f:Int)(g:List GTie)(h c:Int)(d e:List Int):(Int × (List Int))→St
 | (i,b)=>⟨[(2,.ptr 128 1 0 0),(3,.ptr 192 1 0 0),(5,.ref 512 1 0 b.length),(10,.sl (ab GNode.encS a)),(11,.lit (.int .i64 f)),(12,.lit (.int .i64 i))],[(128,1,.var [.sl (ab GNode.encS a),.sl (ab GTie.enc g),.lit (.int .i64 h)]),(192,1,.var [.lit (.int .i64 c),.sl (ab eI d),.sl (ab eI e)]),(512,1,.row true (ab eI b))],2⟩
attribute [go_sem] kC
attribute [go_sem] Tryz.ntmps312 Tryz.results312
theorem ug {s:GShow}{v1:GState}{res:List Int}(h:fo s v1=some res):am Tryz.prog 312 [.agg (GShow.encS s),.agg (GState.encS v1)] [] (.ref 20000 1 0 res.length) [(20000,1,.row true (ab eI res))]:=by
 refine ai (ra:=[.home 4]) (md:=mdT) hT (hi:=hi00) Tryz.func312 rfl rfl (by decide +kernel) (by simp) ?_
 unfold fo at h
 obtain ⟨q05,l1,h⟩:=ae h
 simp(config:=cS)only[go_sem]
 refine aw (m1:=.mk) (m2:=.mk) [.nf [2,3,5,10,11,12] [128,192,512]] (kC s.nodes ((s.nodes.length:Nat):Int) s.ties s.horizon v1.now v1.times v1.values) l1 ?_ ?_
 ·simp(config:=cS)only[go_sem]
 ·intro nb2 sb2 bb2 b2 gb2
  obtain ⟨v12_1,out_1⟩:=sb2
  unfold dv at b2
  try dsimp only at b2
  obtain ⟨h3,b2⟩|⟨h3,b2⟩:=af b2
  ·obtain ⟨x01,g4,b2⟩:=ae b2
   obtain ⟨h5,h6,h7⟩:=ak g4
   obtain ⟨h8,b2⟩|⟨h8,b2⟩:=af b2
   ·obtain ⟨r02,g9,b2⟩:=ae b2
    simp(config:=cS)only[go_sem,eqT h3,h5,h6,h7,eqT h8]
    refine ag (qE g9) ?_
    obtain ⟨h10,b2⟩|⟨h10,b2⟩:=af b2
    ·obtain ⟨x03,g11,b2⟩:=ae b2
     obtain ⟨h12,h13,h14⟩:=ak g11
     obtain ⟨h15,b2⟩|⟨h15,b2⟩:=af b2
     ·obtain ⟨r04,g16,b2⟩:=ae b2
      simp(config:=cS)only[go_sem,eqT h10,h12,h13,h14,eqT h15]
      refine ag (xv g16) ?_
      obtain ⟨h17,b2⟩|⟨h17,b2⟩:=af b2
      ·obtain ⟨h18,b2⟩:=al b2
       obtain ⟨h19,b2⟩:=al b2
       cases b2
       simp(config:=cS)only[go_sem,eqT h17,eqT h18,eqT h19]
       refine au gb2 ?_
       simp(config:=cS)only[go_sem]
      ·cases b2
       simp(config:=cS)only[go_sem,eqF h17]
       refine au gb2 ?_
       simp(config:=cS)only[go_sem]
     ·cases b2
      simp(config:=cS)only[go_sem,eqT h10,h12,h13,h14,eqF h15]
      refine au gb2 ?_
      simp(config:=cS)only[go_sem]
    ·cases b2
     simp(config:=cS)only[go_sem,eqF h10]
     refine au gb2 ?_
     simp(config:=cS)only[go_sem]
   ·cases b2
    simp(config:=cS)only[go_sem,eqT h3,h5,h6,h7,eqF h8]
    refine au gb2 ?_
    simp(config:=cS)only[go_sem]
  ·cases b2
   obtain rfl:=(aj gb2).symm
   try dsimp only at h
   cases h
   simp(config:=cS)only[go_sem,eqF h3]
def jY (l:List Int):(Int × (List (List Int)))→St
 | (n,a)=>⟨[(5,.ref 896 1 0 l.length),(6,.ref 960 1 0 a.length),(7,.lit (.int .i64 n))],[(896,1,.row true (ab eI l)),(960,1,.row true (ab (eLO eI) a))],2⟩
attribute [go_sem] jY
attribute [go_sem] Tryz.ntmps288 Tryz.results288
theorem sP {s:GShow}{v1:GState}{res:List (List Int)}(h:eR s v1=some res):am Tryz.prog 288 [.agg (GShow.encS s),.agg (GState.encS v1)] [] (.ref 20000 1 0 res.length) [(20000,1,.row true (ab (eLO eI) res))]:=by
 refine ai (ra:=[.home 4]) (md:=mdT) hT (hi:=hi00) Tryz.func288 rfl rfl (by decide +kernel) (by simp) ?_
 unfold eR at h
 obtain ⟨r01,g1,h⟩:=ae h
 simp(config:=cS)only[go_sem]
 refine ag (xu g1) ?_
 obtain ⟨h2,h⟩|⟨h2,h⟩:=af h
 ·obtain ⟨r02,g3,h⟩:=ae h
  simp(config:=cS)only[go_sem,eZt h2]
  refine ag (ug g3) ?_
  obtain ⟨h4,h⟩:=al h
  obtain ⟨q04,l5,h⟩:=ae h
  simp(config:=cS)only[go_sem,eqF h4]
  refine aw (m1:=.mk) (m2:=.mk) [.nf [5,6,7] [896,960]] (jY r02) l5 ?_ ?_
  ·simp(config:=cS)only[go_sem]
  ·intro nb6 sb6 bb6 b6 gb6
   obtain ⟨n_1,out_1⟩:=sb6
   unfold dg at b6
   try dsimp only at b6
   obtain ⟨h7,b6⟩|⟨h7,b6⟩:=af b6
   ·obtain ⟨r03,g8,b6⟩:=ae b6
    simp(config:=cS)only[go_sem,eqT h7]
    refine ag (qF g8) ?_
    obtain ⟨h9,b6⟩:=al b6
    obtain ⟨h10,b6⟩:=al b6
    cases b6
    simp(config:=cS)only[go_sem,eqT h9,eqT h10]
    refine au gb6 ?_
    simp(config:=cS)only[go_sem]
   ·cases b6
    obtain rfl:=(aj gb6).symm
    try dsimp only at h
    cases h
    simp(config:=cS)only[go_sem,eqF h7]
 ·cases h
  simp(config:=cS)only[go_sem,eZf h2]
def kN (a:List Int)(h:Int)(i:List GNode)(j:List GTie)(k e:Int)(f g:List Int)(d:Int)(b:List Int):(Int × (List Int))→St
 | (l,c)=>⟨[(2,.sl (ab eI a)),(3,.ptr 192 1 0 0),(4,.ptr 256 1 0 0),(6,.ptr 384 1 0 0),(8,.ptr 512 1 0 0),(15,.sl (ab eI a)),(16,.lit (.int .i64 h)),(17,.lit (.int .i64 l))],[(192,1,.var [.sl (ab GNode.encS i),.sl (ab GTie.enc j),.lit (.int .i64 k)]),(256,1,.var [.lit (.int .i64 e),.sl (ab eI f),.sl (ab eI g)]),(384,1,.var [.lit (.int .i64 0),.lit (.slice none 0 0),.lit (.slice none 0 0)]),(512,1,.var [.lit (.int .i64 d),.ref 896 1 0 c.length,.ref 897 1 0 b.length]),(896,1,.row true (ab eI c)),(897,1,.row true (ab eI b))],2⟩
attribute [go_sem] kN
def kO (d:List Int)(f:List GNode)(g:List GTie)(h e:Int)(b c:List Int):(Int × (List Int))→St
 | (p,a)=>⟨[(2,.sl (ab eI d)),(3,.ptr 192 1 0 0),(6,.ptr 384 1 0 0),(8,.ptr 512 1 0 0),(11,.ref 1792 1 0 a.length),(12,.lit (.int .i64 p))],[(192,1,.var [.sl (ab GNode.encS f),.sl (ab GTie.enc g),.lit (.int .i64 h)]),(384,1,.var [.lit (.int .i64 0),.lit (.slice none 0 0),.lit (.slice none 0 0)]),(512,1,.var [.lit (.int .i64 e),.ref 896 1 0 b.length,.ref 897 1 0 c.length]),(896,1,.row true (ab eI b)),(897,1,.row true (ab eI c)),(1792,1,.row true (ab eI a))],2⟩
attribute [go_sem] kO
attribute [go_sem] Tryz.ntmps290 Tryz.results290
theorem vA {s:GShow}{v1:GState}{nodes:List Int}{res:GState × (List Int)}(h:gi s v1 nodes=some res):am Tryz.prog 290 [.agg (GShow.encS s),.agg (GState.encS v1),.sl (ab eI nodes)] [] (.tup [.agg [.lit (.int .i64 res.1.now),.ref 20000 1 0 res.1.times.length,.ref 20001 1 0 res.1.values.length],.ref 20002 1 0 res.2.length]) [(20000,1,.row true (ab eI res.1.times)),(20001,1,.row true (ab eI res.1.values)),(20002,1,.row true (ab eI res.2))]:=by
 refine ai (ra:=[.homeCell 384 1,.homeCell 384 2,.home 7]) (md:=mdT) hT (hi:=hi00) Tryz.func290 rfl rfl (by decide +kernel) (by simp) ?_
 unfold gi at h
 obtain ⟨r01,g1,h⟩:=ae h
 simp(config:=cS)only[go_sem]
 refine ag (km g1) ?_
 obtain ⟨q07,l2,h⟩:=ae h
 simp(config:=cS)only[go_sem]
 refine aw (m1:=.mk) (m2:=.mk) [.nf [2,3,4,6,8,15,16,17] [192,256,384,512,896,897]] (kN nodes ((nodes.length:Nat):Int) s.nodes s.ties s.horizon v1.now v1.times v1.values r01.now r01.values) l2 ?_ ?_
 ·simp(config:=cS)only[go_sem]
 ·intro nb3 sb3 bb3 b3 gb3
  obtain ⟨v17_1,h896_1⟩:=sb3
  unfold dS at b3
  try dsimp only at b3
  obtain ⟨h4,b3⟩|⟨h4,b3⟩:=af b3
  ·obtain ⟨x02,g5,b3⟩:=ae b3
   obtain ⟨h6,h7,h8⟩:=ak g5
   obtain ⟨x03,g9,b3⟩:=ae b3
   obtain ⟨h10,h11,h12⟩:=ak g9
   cases b3
   simp(config:=cS)only[go_sem,eqT h4,h6,h7,h8,h10,h11,h12]
   refine au gb3 ?_
   simp(config:=cS)only[go_sem]
  ·cases b3
   obtain rfl:=(aj gb3).symm
   try dsimp only at h
   obtain ⟨q06,l14,h⟩:=ae h
   simp(config:=cS)only[go_sem,eqF h4]
   refine aw (m1:=.mk) (m2:=.mk) [.nf [2,3,6,8,11,12] [192,384,512,896,897,1792]] (kO nodes s.nodes s.ties s.horizon r01.now h896_1 r01.values) l14 ?_ ?_
   ·simp(config:=cS)only[go_sem]
   ·intro nb15 sb15 bb15 b15 gb15
    obtain ⟨p_2,props_2⟩:=sb15
    unfold dT at b15
    try dsimp only at b15
    obtain ⟨h16,b15⟩|⟨h16,b15⟩:=af b15
    ·obtain ⟨r04,g17,b15⟩:=ae b15
     simp(config:=cS)only[go_sem,eqT h16]
     refine ag (ig g17) ?_
     obtain ⟨r05,g18,b15⟩:=ae b15
     simp(config:=cS)only[go_sem]
     refine ag (li g18) ?_
     obtain ⟨h19,b15⟩|⟨h19,b15⟩:=af b15
     ·obtain ⟨h20,b15⟩:=al b15
      obtain ⟨h21,b15⟩:=al b15
      cases b15
      simp(config:=cS)only[go_sem,eZt h19,eqT h20,eqT h21]
      refine au gb15 ?_
      simp(config:=cS)only[go_sem]
     ·cases b15
      simp(config:=cS)only[go_sem,eZf h19]
      refine au gb15 ?_
      simp(config:=cS)only[go_sem]
    ·cases b15
     obtain rfl:=(aj gb15).symm
     try dsimp only at h
     cases h
     simp(config:=cS)only[go_sem,eqF h16]
attribute [go_sem] Tryz.ntmps281 Tryz.results281
theorem rq {s:GShow}{v1:GState}{nodes:List Int}{res:GState × (List Int) × Bool}(h:fK s v1 nodes=some res):am Tryz.prog 281 [.agg (GShow.encS s),.agg (GState.encS v1),.sl (ab eI nodes)] [] (.tup [.agg [.lit (.int .i64 res.1.now),.ref 20000 1 0 res.1.times.length,.ref 20001 1 0 res.1.values.length],.ref 20002 1 0 res.2.1.length,.lit (.bool res.2.2)]) [(20000,1,.row true (ab eI res.1.times)),(20001,1,.row true (ab eI res.1.values)),(20002,1,.row true (ab eI res.2.1))]:=by
 refine ai (ra:=[.homeCell 384 1,.homeCell 384 2,.home 7]) (md:=mdT) hT (hi:=hi00) Tryz.func281 rfl rfl (by decide +kernel) (by simp) ?_
 unfold fK at h
 obtain ⟨r01,g1,h⟩:=ae h
 simp(config:=cS)only[go_sem]
 refine ag (sP g1) ?_
 obtain ⟨r02,g2,h⟩:=ae h
 simp(config:=cS)only[go_sem]
 refine ag (sO g2) ?_
 obtain ⟨h3,h⟩|⟨h3,h⟩:=af h
 ·obtain ⟨r03,g4,h⟩:=ae h
  simp(config:=cS)only[go_sem,eZt h3]
  refine ag (vA g4) ?_
  cases h
  simp(config:=cS)only[go_sem]
 ·cases h
  simp(config:=cS)only[go_sem,eZf h3]
def kP (a e:List Int)(f d:Int)(b:List Int):(Int × (List Int))→St
 | (g,c)=>⟨[(2,.sl (ab eI a)),(6,.ptr 384 1 0 0),(7,.ptr 448 1 0 0),(12,.sl (ab eI e)),(13,.lit (.int .i64 f)),(14,.lit (.int .i64 g))],[(384,1,.var [.lit (.int .i64 0),.lit (.slice none 0 0),.lit (.slice none 0 0)]),(448,1,.var [.lit (.int .i64 d),.ref 704 1 0 b.length,.ref 705 1 0 c.length]),(704,1,.row true (ab eI b)),(705,1,.row true (ab eI c))],2⟩
attribute [go_sem] kP
@[go_sem] def hi282_5:DT:=.i2 0 (.i2 1 (.i2 2 (.i2 3 (.i2 4 (.i2 5 (.i2 6 (.i2 7 (.i2 8 (.i2 9 .nil)))))))))
def Bv:Hint where
 acts:=fun _=>[]
 draws:=fun
  | 5=>⟨hi282_5,[[],[0],[],[2],[],[],[4,5],[4,5,6],.range 8,.range 9],.range 10⟩
  | _=>⟨.nil,[],[]⟩
theorem LC (i:Nat):Bv.acts i=[]:=rfl
theorem LD (i:Nat):Bv.views i=none:=rfl
attribute [go_sem] LC LD Tryz.ntmps282 Tryz.results282
@[go_sem] theorem NP:(Bv.draws 5).order=hi282_5:=rfl
theorem vB {v0:GState}{props values:List Int}{res:GState}(h:gj v0 props values=some res):am Tryz.prog 282 [.agg (GState.encS v0),.sl (ab eI props),.sl (ab eI values)] [] (.agg [.lit (.int .i64 res.now),.ref 20000 1 0 res.times.length,.ref 20001 1 0 res.values.length]) [(20000,1,.row true (ab eI res.times)),(20001,1,.row true (ab eI res.values))]:=by
 refine ai (ra:=[.homeCell 384 1,.homeCell 384 2]) (md:=mdT) hT (hi:=Bv) Tryz.func282 rfl rfl (by decide +kernel) (by simp) ?_
 unfold gj at h
 obtain ⟨r01,g1,h⟩:=ae h
 simp(config:=cS)only[go_sem]
 refine ag (km g1) ?_
 obtain ⟨q05,l2,h⟩:=ae h
 simp(config:=cS)only[go_sem]
 refine aw (m1:=.mk) (m2:=.mk) [.nf [2,6,7,12,13,14] [384,448,704,705]] (kP values props ((props.length:Nat):Int) r01.now r01.times) l2 ?_ ?_
 ·simp(config:=cS)only[go_sem]
 ·intro nb3 sb3 bb3 b3 gb3
  obtain ⟨v14_1,h705_1⟩:=sb3
  unfold dU at b3
  try dsimp only at b3
  obtain ⟨h4,b3⟩|⟨h4,b3⟩:=af b3
  ·obtain ⟨x02,g5,b3⟩:=ae b3
   obtain ⟨h6,h7,h8⟩:=ak g5
   obtain ⟨x03,g9,b3⟩:=ae b3
   obtain ⟨h10,h11,h12⟩:=ak g9
   obtain ⟨x04,g13,b3⟩:=ae b3
   obtain ⟨h14,h15,h16⟩:=ak g13
   cases b3
   simp(config:=cS)only[go_sem,eqT h4,h6,h7,h8,h10,h11,h12,h14,h15,h16]
   refine au gb3 ?_
   simp(config:=cS)only[go_sem]
  ·cases b3
   obtain rfl:=(aj gb3).symm
   try dsimp only at h
   cases h
   simp(config:=cS)only[go_sem,eqF h4]
def lI (e f:Int)(g h i:List Int)(j:Int)(b c d:List Int):(Int × (List Int))→St
 | (k,a)=>⟨[(5,.ptr 320 1 0 0),(6,.ptr 384 1 0 0),(10,.ptr 640 1 0 0),(11,.ref 2946 1 0 d.length),(13,.ref 3904 1 0 a.length),(62,.ref 2946 1 0 d.length),(63,.lit (.int .i64 e)),(64,.lit (.int .i64 k))],[(320,1,.var [.lit (.int .i64 f),.sl (ab eI g),.sl (ab eI h),.sl (ab eI i)]),(384,1,.var [.lit (.int .i64 0),.lit (.slice none 0 0),.lit (.slice none 0 0)]),(640,1,.var [.lit (.int .i64 j),.ref 2944 1 0 b.length,.ref 2945 1 0 c.length]),(2944,1,.row true (ab eI b)),(2945,1,.row true (ab eI c)),(2946,1,.row true (ab eI d)),(3904,1,.row true (ab eI a))],2⟩
attribute [go_sem] lI
attribute [go_sem] Tryz.ntmps235 Tryz.results235
theorem xw {s:GShow}{v1:GState}{e:GEntry}{res:GState × Bool}(h:gR s v1 e=some res):am Tryz.prog 235 [.agg (GShow.encS s),.agg (GState.encS v1),.agg (GEntry.encS e)] [] (.tup [.agg [.lit (.int .i64 res.1.now),.ref 20000 1 0 res.1.times.length,.ref 20001 1 0 res.1.values.length],.lit (.bool res.2)]) [(20000,1,.row true (ab eI res.1.times)),(20001,1,.row true (ab eI res.1.values))]:=by
 refine ai (ra:=[.homeCell 384 1,.homeCell 384 2]) (md:=mdT) hT (hi:=hi00) Tryz.func235 rfl rfl (by decide +kernel) (by simp) ?_
 unfold gR at h
 obtain ⟨r01,g1,h⟩:=ae h
 simp(config:=cS)only[go_sem]
 refine ag (rY g1) ?_
 obtain ⟨h2,h⟩|⟨h2,h⟩:=af h
 ·obtain ⟨h3,h⟩|⟨h3,h⟩:=af h
  ·obtain ⟨r02,g4,h⟩:=ae h
   simp(config:=cS)only[go_sem,eZt h2,eqT h3]
   refine ag (kk g4) ?_
   obtain ⟨h5,h⟩|⟨h5,h⟩:=af h
   ·obtain ⟨r03,g6,h⟩:=ae h
    simp(config:=cS)only[go_sem,eZt h5]
    refine ag (rq g6) ?_
    obtain ⟨h7,h⟩|⟨h7,h⟩:=af h
    ·obtain ⟨h8,h⟩|⟨h8,h⟩:=af h
     ·obtain ⟨q07,l9,h⟩:=ae h
      simp(config:=cS)only[go_sem,eZt h7,eqT h8]
      refine aw (m1:=.mk) (m2:=.mk) [.nf [5,6,10,11,13,62,63,64] [320,384,640,2944,2945,2946,3904]] (lI ((r03.2.1.length:Nat):Int) e.now e.ties e.nodes e.values r03.1.now r03.1.times r03.1.values r03.2.1) l9 ?_ ?_
      ·simp(config:=cS)only[go_sem]
      ·intro nb10 sb10 bb10 b10 gb10
       obtain ⟨v64_1,values_1⟩:=sb10
       unfold dh at b10
       try dsimp only at b10
       obtain ⟨h11,b10⟩|⟨h11,b10⟩:=af b10
       ·obtain ⟨x04,g12,b10⟩:=ae b10
        obtain ⟨h13,h14,h15⟩:=ak g12
        obtain ⟨x05,g16,b10⟩:=ae b10
        obtain ⟨h17,h18,h19⟩:=ak g16
        obtain ⟨h20,b10⟩|⟨h20,b10⟩:=af b10
        ·obtain ⟨h21,b10⟩:=al b10
         obtain ⟨h22,b10⟩:=al b10
         cases b10
         simp(config:=cS)only[go_sem,eqT h11,h13,h14,h15,h17,h18,h19,eqT h20,eqT h21,eqT h22]
         refine au gb10 ?_
         simp(config:=cS)only[go_sem]
        ·obtain ⟨h23,b10⟩|⟨h23,b10⟩:=af b10
         ·obtain ⟨h24,b10⟩:=al b10
          obtain ⟨h25,b10⟩:=al b10
          cases b10
          simp(config:=cS)only[go_sem,eqT h11,h13,h14,h15,h17,h18,h19,eqF h20,eqT h23,eqT h24,eqT h25]
          refine au gb10 ?_
          simp(config:=cS)only[go_sem]
         ·cases b10
          obtain rfl:=(aj gb10).symm
          try dsimp only at h
          cases h
          simp(config:=cS)only[go_sem,eqT h11,h13,h14,h15,h17,h18,h19,eqF h20,eqF h23]
       ·cases b10
        obtain rfl:=(aj gb10).symm
        try dsimp only at h
        obtain ⟨r06,g28,h⟩:=ae h
        simp(config:=cS)only[go_sem,eqF h11]
        refine ag (vB g28) ?_
        cases h
        simp(config:=cS)only[go_sem]
     ·cases h
      simp(config:=cS)only[go_sem,eZt h7,eqF h8]
    ·cases h
     simp(config:=cS)only[go_sem,eZf h7]
   ·cases h
    simp(config:=cS)only[go_sem,eZf h5]
  ·cases h
   simp(config:=cS)only[go_sem,eZt h2,eqF h3]
 ·cases h
  simp(config:=cS)only[go_sem,eZf h2]
def kQ (d:List GEntry)(e:Int)(f:List GNode)(g:List GTie)(h:Int):(Int × Int × (List Int) × (List Int))→St
 | (i,c,a,b)=>⟨[(2,.ptr 128 1 0 0),(4,.ptr 256 1 0 0),(6,.ptr 384 1 0 0),(13,.sl (ab GEntry.encS d)),(14,.lit (.int .i64 e)),(15,.lit (.int .i64 i))],[(128,1,.var [.sl (ab GNode.encS f),.sl (ab GTie.enc g),.lit (.int .i64 h)]),(256,1,.var [.lit (.int .i64 0),.lit (.slice none 0 0),.lit (.slice none 0 0)]),(384,1,.var [.lit (.int .i64 c),.ref 768 1 0 a.length,.ref 769 1 0 b.length]),(768,1,.row true (ab eI a)),(769,1,.row true (ab eI b))],2⟩
attribute [go_sem] kQ
@[go_sem] def hi148_10:DT:=.i1 0 (.i2 1 (.i0 2 [0] (.i2 3 (.i2 4 .nil))))
def Bw:Hint where
 acts:=fun _=>[]
 draws:=fun
  | 10=>⟨hi148_10,[[],[],[1],[0,1,2],[0,1,2,3]],.range 5⟩
  | _=>⟨.nil,[],[]⟩
theorem LE (i:Nat):Bw.acts i=[]:=rfl
theorem LF (i:Nat):Bw.views i=none:=rfl
attribute [go_sem] LE LF Tryz.ntmps148 Tryz.results148
@[go_sem] theorem NH:(Bw.draws 10).order=hi148_10:=rfl
theorem vC {s:GShow}{log:List GEntry}{res:GState × Bool}(h:gk s log=some res):am Tryz.prog 148 [.agg (GShow.encS s),.sl (ab GEntry.encS log)] [] (.tup [.agg [.lit (.int .i64 res.1.now),.ref 20000 1 0 res.1.times.length,.ref 20001 1 0 res.1.values.length],.lit (.bool res.2)]) [(20000,1,.row true (ab eI res.1.times)),(20001,1,.row true (ab eI res.1.values))]:=by
 refine ai (ra:=[.homeCell 256 1,.homeCell 256 2]) (md:=mdT) hT (hi:=Bw) Tryz.func148 rfl rfl (by decide +kernel) (by simp) ?_
 unfold gk at h
 obtain ⟨r01,g1,h⟩:=ae h
 simp(config:=cS)only[go_sem]
 refine ag (ue g1) ?_
 obtain ⟨q05,l2,h⟩:=ae h
 simp(config:=cS)only[go_sem]
 refine aw (m1:=.mk) (m2:=.mk) [.nfp [2,4,6,13,14,15] [(128,128),(256,256),(384,384),(1472,768),(768,768),(1473,769),(769,769)] []] (kQ log ((log.length:Nat):Int) s.nodes s.ties s.horizon) l2 ?_ ?_
 ·simp(config:=cS)only[go_sem]
 ·intro nb3 sb3 bb3 b3 gb3
  obtain ⟨v15_1,v6_0_1,h768_1,h769_1⟩:=sb3
  unfold dV at b3
  try dsimp only at b3
  obtain ⟨h4,b3⟩|⟨h4,b3⟩:=af b3
  ·obtain ⟨x02,g5,b3⟩:=ae b3
   obtain ⟨h6,h7,h8⟩:=ak g5
   obtain ⟨r03,g9,b3⟩:=ae b3
   simp(config:=cS)only[go_sem,eqT h4,h6,h7,h8]
   refine ag (xw g9) ?_
   obtain ⟨h10,b3⟩|⟨h10,b3⟩:=af b3
   ·cases b3
    simp(config:=cS)only[go_sem,eZt h10]
    refine au gb3 ?_
    simp(config:=cS)only[go_sem]
   ·cases b3
    obtain rfl:=(aj gb3).symm
    try dsimp only at h
    cases h
    simp(config:=cS)only[go_sem,eZf h10]
  ·cases b3
   obtain rfl:=(aj gb3).symm
   try dsimp only at h
   obtain ⟨r04,g13,h⟩:=ae h
   simp(config:=cS)only[go_sem,eqF h4]
   refine ag (lj g13) ?_
   cases h
   simp(config:=cS)only[go_sem]
attribute [go_sem] Tryz.ntmps72 Tryz.results72
def rr (d:List GNode)(e c:Int)(b:List GTie):(Int × (List GNode))→St
 | (f,a)=>⟨[(2,.ptr 128 1 0 0),(3,.ptr 192 1 0 0),(14,.sl (ab GNode.encS d)),(15,.lit (.int .i64 e)),(16,.lit (.int .i64 f))],[(128,1,.var [.lit (.slice none 0 0),.lit (.slice none 0 0),.lit (.int .i64 0)]),(192,1,.var [.ref 100012288 1 0 a.length,.ref 384 1 0 b.length,.lit (.int .i64 c)]),(100012288,1,.row true (ab GNode.encO a)),(384,1,.row true (ab GTie.enc b))],2⟩
attribute [go_sem] rr
@[go_sem] def hi83_5:DT:=.i1 0 (.i1 1 (.i1 2 (.i1 3 (.i1 5 (.i1 6 (.i1 8 (.i1 9 (.i0 4 [0,1,2,3,5,6,8,9] (.i0 7 [0,1,2,3,8,9] (.i2 10 (.i0 11 [0,1] (.i2 12 (.i2 13 (.i2 14 .nil))))))))))))))
@[go_sem] def hi83_1:DT:=.i1 1 (.i1 2 (.i1 4 (.i1 5 (.fork (.i0 0 [1,2,4,5] (.fork (.i0 3 [4,5] (.i2 6 (.i0 7 [1,2,4,5] (.i2 8 .nil)))) (.i0 7 [1,2,4,5] (.i0 3 [4,5] (.i2 6 (.i2 8 .nil)))))) (.i0 7 [1,2,4,5] (.i0 0 [1,2,4,5] (.i0 3 [4,5] (.i2 6 (.i2 8 .nil)))))))))
def hi83:Hint where
 acts:=fun _=>[]
 draws:=fun
  | 1=>⟨hi83_1,[[],[],[1],[0,1,2],[],[4],.range 6,[],.range 8],.range 9⟩
  | 5=>⟨hi83_5,[[],[0],[],[2],[],[],[5],[4,5,6],[],[8],[2,3,4,5,6,7,8,9],[2,3,4,5,6,7,8,9,10],.range 12,.range 13,.range 14],.range 15⟩
  | _=>⟨.nil,[],[]⟩
theorem MX (i:Nat):hi83.acts i=[]:=rfl
theorem MY (i:Nat):hi83.views i=none:=rfl
attribute [go_sem] MX MY Tryz.ntmps83 Tryz.results83
@[go_sem] theorem Oj:(hi83.draws 1).order=hi83_1:=rfl
@[go_sem] theorem Ok:(hi83.draws 5).order=hi83_5:=rfl
@[go_sem] def hi31_5:DT:=.i2 0 (.i1 2 (.i2 3 (.i2 4 (.i0 1 [2] (.i2 5 (.i2 6 (.i2 7 .nil)))))))
def hi31:Hint where
 acts:=fun _=>[]
 draws:=fun
  | 5=>⟨hi31_5,[[],[0],[],[],[],.range 5,.range 6,.range 7],.range 8⟩
  | _=>⟨.nil,[],[]⟩
theorem MZ (i:Nat):hi31.acts i=[]:=rfl
theorem Na (i:Nat):hi31.views i=none:=rfl
attribute [go_sem] MZ Na Tryz.ntmps31 Tryz.results31
@[go_sem] theorem Ol:(hi31.draws 5).order=hi31_5:=rfl
def qG (s c:ByteArray):(Int × Int × (List ByteArray))→St
 | (a,i,b)=>⟨[(0,.lit (.string s)),(1,.lit (.string c)),(5,.ref 383 1 0 b.length),(6,.lit (.int .i64 a)),(7,.lit (.int .i64 i))],[(383,1,.row true (ab eS b))],2⟩
attribute [go_sem] qG
attribute [go_sem] Tryz.ntmps173 Tryz.results173
def qH (c:Int)(a:List ByteArray):(Int × (List Int))→St
 | (d,b)=>⟨[(4,.ref 319 1 0 b.length),(12,.ref 768 1 0 a.length),(13,.lit (.int .i64 c)),(14,.lit (.int .i64 d))],[(319,1,.row true (ab eI b)),(768,1,.row true (ab eS a))],2⟩
attribute [go_sem] qH
attribute [go_sem] Tryz.ntmps175 Tryz.results175
attribute [go_sem] Tryz.ntmps101 Tryz.results101
def pq  : (ByteArray × (List GEntry))→St
 | (b,a)=>⟨[(0,.lit (.string b)),(4,.ref 319 1 0 a.length)],[(319,1,.row true (ab GEntry.encO a))],2⟩
attribute [go_sem] pq
attribute [go_sem] Tryz.ntmps41 Tryz.results41
def mX (s:ByteArray)(i:Int):St:=⟨[(0,.lit (.string s)),(3,.lit (.int .i64 i))],[],2⟩
attribute [go_sem] mX
@[go_sem] def hi274_4:DT:=.i2 0 (.i2 1 (.i2 2 (.i2 3 (.i2 4 (.i2 5 (.i2 6 (.i2 7 (.i2 8 (.i2 9 (.i2 10 (.i2 11 (.i2 12 (.i2 13 (.i2 14 (.i2 15 (.i2 16 (.i2 17 (.i2 18 (.i2 19 (.i2 20 (.i2 21 .nil)))))))))))))))))))))
def Bx:Hint where
 acts:=fun _=>[]
 draws:=fun
  | 4=>⟨hi274_4,[[],[],[0,1],[0,1,2],[0,1,2,3],.range 5,.range 5,.range 7,.range 8,.range 9,[],[],[10,11],[10,11,12],[0,1,2,3,4,10,11,12,13],[0,1,2,3,4,10,11,12,13,14],[0,1,2,3,4,10,11,12,13,14],[0,1,2,3,4,10,11,12,13,14,15,16],[0,1,2,3,4,10,11,12,13,14,15,16,17],[0,1,2,3,4,10,11,12,13,14,15,16,17,18],.range 15,.range 21],[0,1,2,3,4,5,6,7,8,9,10,11,12,13,14,16,17,18,19,20,15,21]⟩
  | _=>⟨.nil,[],[]⟩
theorem LG (i:Nat):Bx.acts i=[]:=rfl
theorem LH (i:Nat):Bx.views i=none:=rfl
attribute [go_sem] LG LH Tryz.ntmps274 Tryz.results274
@[go_sem] theorem NQ:(Bx.draws 4).order=hi274_4:=rfl
theorem AI {s:ByteArray}{res:Bool}(h:js s=some res):am Tryz.prog 274 [.lit (.string s)] [] (.lit (.bool res)) []:=by
 refine ai (ra:=[]) (md:=mdT) hT (hi:=Bx) Tryz.func274 rfl rfl (by decide +kernel) (by simp) ?_
 unfold js at h
 obtain ⟨q02,l1,h⟩:=ae h
 simp(config:=cS)only[go_sem]
 refine aw (m1:=.mk) (m2:=.mk) [.nf [0,3] []] (mX s) l1 ?_ ?_
 ·simp(config:=cS)only[go_sem]
 ·intro nb2 i_1 bb2 b2 gb2
  unfold ew at b2
  try dsimp only at b2
  obtain ⟨h3,b2⟩|⟨h3,b2⟩:=af b2
  ·obtain ⟨c1001,g4,b2⟩:=ae b2
   obtain ⟨h5,h6,h7⟩:=fN g4
   obtain ⟨h8,b2⟩|⟨h8,b2⟩:=af b2
   ·obtain ⟨h9,b2⟩|⟨h9,b2⟩:=af b2
    ·obtain ⟨h10,b2⟩|⟨h10,b2⟩:=af b2
     ·cases b2
      simp(config:=cS)only[go_sem,eqT h3,h5,h6,h7,eqT h8,eqT h9,eqT h10]
      refine au gb2 ?_
      simp(config:=cS)only[go_sem]
     ·obtain ⟨h11,b2⟩|⟨h11,b2⟩:=af b2
      ·obtain ⟨h12,b2⟩|⟨h12,b2⟩:=af b2
       ·cases b2
        obtain rfl:=(aj gb2).symm
        try dsimp only at h
        cases h
        simp(config:=cS)only[go_sem,eqT h3,h5,h6,h7,eqT h8,eqT h9,eqF h10,eqT h11,eqT h12]
       ·cases b2
        simp(config:=cS)only[go_sem,eqT h3,h5,h6,h7,eqT h8,eqT h9,eqF h10,eqT h11,eqF h12]
        refine au gb2 ?_
        simp(config:=cS)only[go_sem]
      ·cases b2
       obtain rfl:=(aj gb2).symm
       try dsimp only at h
       cases h
       simp(config:=cS)only[go_sem,eqT h3,h5,h6,h7,eqT h8,eqT h9,eqF h10,eqF h11]
    ·obtain ⟨h15,b2⟩|⟨h15,b2⟩:=af b2
     ·cases b2
      simp(config:=cS)only[go_sem,eqT h3,h5,h6,h7,eqT h8,eqF h9,eqT h15]
      refine au gb2 ?_
      simp(config:=cS)only[go_sem]
     ·cases b2
      obtain rfl:=(aj gb2).symm
      try dsimp only at h
      cases h
      simp(config:=cS)only[go_sem,eqT h3,h5,h6,h7,eqT h8,eqF h9,eqF h15]
   ·obtain ⟨h17,b2⟩|⟨h17,b2⟩:=af b2
    ·obtain ⟨h18,b2⟩|⟨h18,b2⟩:=af b2
     ·obtain ⟨h19,b2⟩|⟨h19,b2⟩:=af b2
      ·cases b2
       obtain rfl:=(aj gb2).symm
       try dsimp only at h
       cases h
       simp(config:=cS)only[go_sem,eqT h3,h5,h6,h7,eqF h8,eqT h17,eqT h18,eqT h19]
      ·cases b2
       simp(config:=cS)only[go_sem,eqT h3,h5,h6,h7,eqF h8,eqT h17,eqT h18,eqF h19]
       refine au gb2 ?_
       simp(config:=cS)only[go_sem]
     ·cases b2
      obtain rfl:=(aj gb2).symm
      try dsimp only at h
      cases h
      simp(config:=cS)only[go_sem,eqT h3,h5,h6,h7,eqF h8,eqT h17,eqF h18]
    ·cases b2
     obtain rfl:=(aj gb2).symm
     try dsimp only at h
     cases h
     simp(config:=cS)only[go_sem,eqT h3,h5,h6,h7,eqF h8,eqF h17]
  ·cases b2
   obtain rfl:=(aj gb2).symm
   try dsimp only at h
   obtain ⟨h24,h⟩|⟨h24,h⟩:=af h
   ·cases h
    simp(config:=cS)only[go_sem,eqF h3,eqT h24]
   ·cases h
    simp(config:=cS)only[go_sem,eqF h3,eqF h24]
attribute [go_sem] Tryz.ntmps197 Tryz.results197
theorem gF {l res:Int}(h:ct l=some res):am Tryz.prog 197 [.lit (.int .i64 l)] [] (.lit (.int .i64 res)) []:=by
 refine ai (ra:=[]) (md:=mdT) hT (hi:=hi00) Tryz.func197 rfl rfl (by decide +kernel) (by simp) ?_
 unfold ct at h
 cases h
 simp(config:=cS)only[go_sem]
def mz (l:List Int)(a b:Int):St:=⟨[(0,.sl (ab eI l)),(5,.sl (ab eI l)),(6,.lit (.int .i64 a)),(7,.lit (.int .i64 b))],[],2⟩
attribute [go_sem] mz
attribute [go_sem] Tryz.ntmps193 Tryz.results193
theorem iu {l:List Int}{res:Bool}(h:cC l=some res):am Tryz.prog 193 [.sl (ab eI l)] [] (.lit (.bool res)) []:=by
 refine ai (ra:=[]) (md:=mdT) hT (hi:=hi00) Tryz.func193 rfl rfl (by decide +kernel) (by simp) ?_
 unfold cC at h
 obtain ⟨q05,l1,h⟩:=ae h
 simp(config:=cS)only[go_sem]
 refine aw (m1:=.mk) (m2:=.mk) [.nf [0,5,6,7] []] (mz l ((l.length:Nat):Int)) l1 ?_ ?_
 ·simp(config:=cS)only[go_sem]
 ·intro nb2 v7_1 bb2 b2 gb2
  unfold dE at b2
  try dsimp only at b2
  obtain ⟨h3,b2⟩|⟨h3,b2⟩:=af b2
  ·obtain ⟨x01,g4,b2⟩:=ae b2
   obtain ⟨h5,h6,h7⟩:=ak g4
   obtain ⟨h8,b2⟩|⟨h8,b2⟩:=af b2
   ·cases b2
    obtain rfl:=(aj gb2).symm
    try dsimp only at h
    cases h
    simp(config:=cS)only[go_sem,eqT h3,h5,h6,h7,eqT h8]
   ·obtain ⟨h10,b2⟩|⟨h10,b2⟩:=af b2
    ·cases b2
     obtain rfl:=(aj gb2).symm
     try dsimp only at h
     cases h
     simp(config:=cS)only[go_sem,eqT h3,h5,h6,h7,eqF h8,eqT h10]
    ·obtain ⟨h12,b2⟩|⟨h12,b2⟩:=af b2
     ·cases b2
      obtain rfl:=(aj gb2).symm
      try dsimp only at h
      cases h
      simp(config:=cS)only[go_sem,eqT h3,h5,h6,h7,eqF h8,eqF h10,eqT h12]
     ·obtain ⟨h14,b2⟩|⟨h14,b2⟩:=af b2
      ·obtain ⟨x02,g15,b2⟩:=ae b2
       obtain ⟨h16,h17,h18⟩:=ak g15
       obtain ⟨r03,g19,b2⟩:=ae b2
       simp(config:=cS)only[go_sem,eqT h3,h5,h6,h7,eqF h8,eqF h10,eqF h12,eqT h14,h16,h17,h18]
       refine ag (gF g19) ?_
       obtain ⟨r04,g20,b2⟩:=ae b2
       simp(config:=cS)only[go_sem]
       refine ag (gF g20) ?_
       obtain ⟨h21,b2⟩|⟨h21,b2⟩:=af b2
       ·cases b2
        obtain rfl:=(aj gb2).symm
        try dsimp only at h
        cases h
        simp(config:=cS)only[go_sem,eqT h21]
       ·cases b2
        simp(config:=cS)only[go_sem,eqF h21]
        refine au gb2 ?_
        simp(config:=cS)only[go_sem]
      ·cases b2
       simp(config:=cS)only[go_sem,eqT h3,h5,h6,h7,eqF h8,eqF h10,eqF h12,eqF h14]
       refine au gb2 ?_
       simp(config:=cS)only[go_sem]
  ·cases b2
   obtain rfl:=(aj gb2).symm
   try dsimp only at h
   cases h
   simp(config:=cS)only[go_sem,eqF h3]
attribute [go_sem] Tryz.ntmps224 Tryz.results224
theorem AJ {n:GNode}{res:Bool}(h:jt n=some res):am Tryz.prog 224 [.agg (GNode.encS n)] [] (.lit (.bool res)) []:=by
 refine ai (ra:=[]) (md:=mdT) hT (hi:=hi00) Tryz.func224 rfl rfl (by decide +kernel) (by simp) ?_
 unfold jt at h
 obtain ⟨r01,g1,h⟩:=ae h
 simp(config:=cS)only[go_sem]
 refine ag (AI g1) ?_
 obtain ⟨h2,h⟩|⟨h2,h⟩:=af h
 ·obtain ⟨r02,g3,h⟩:=ae h
  simp(config:=cS)only[go_sem,eZt h2]
  refine ag (iu g3) ?_
  obtain ⟨h4,h⟩|⟨h4,h⟩:=af h
  ·obtain ⟨h5,h⟩|⟨h5,h⟩:=af h
   ·cases h
    simp(config:=cS)only[go_sem,eZt h2,eZt h4,eqT h5]
   ·cases h
    simp(config:=cS)only[go_sem,eZt h2,eZt h4,eqF h5]
  ·cases h
   simp(config:=cS)only[go_sem,eZt h2,eZf h4]
 ·cases h
  simp(config:=cS)only[go_sem,eZf h2]
def lJ (a:List GNode)(b c:Int)(d:List GNode)(e:Int)(f:List GTie)(g:Int)(h:ByteArray)(i:List Int)(j k:Int):St:=⟨[(1,.ptr 64 1 0 0),(4,.ptr 256 1 0 0),(35,.sl (ab GNode.encS a)),(36,.lit (.int .i64 b)),(37,.lit (.int .i64 c)),(48,.sl (ab GNode.encS d)),(49,.lit (.int .i64 e)),(50,.lit (.int .i64 k))],[(64,1,.var [.sl (ab GNode.encS a),.sl (ab GTie.enc f),.lit (.int .i64 g)]),(256,1,.var [.lit (.string h),.sl (ab eI i),.lit (.int .i64 j)])],2⟩
attribute [go_sem] lJ
def lK (a:List GNode)(b:Int)(c:List GTie)(d e:Int):St:=⟨[(1,.ptr 64 1 0 0),(35,.sl (ab GNode.encS a)),(36,.lit (.int .i64 b)),(37,.lit (.int .i64 e))],[(64,1,.var [.sl (ab GNode.encS a),.sl (ab GTie.enc c),.lit (.int .i64 d)])],2⟩
attribute [go_sem] lK
attribute [go_sem] Tryz.ntmps139 Tryz.results139
theorem xx {s:GShow}{res:Bool}(h:gS s=some res):am Tryz.prog 139 [.agg (GShow.encS s)] [] (.lit (.bool res)) []:=by
 refine ai (ra:=[]) (md:=mdT) hT (hi:=hi00) Tryz.func139 rfl rfl (by decide +kernel) (by simp) ?_
 unfold gS at h
 obtain ⟨h1,h⟩|⟨h1,h⟩:=af h
 ·cases h
  simp(config:=cS)only[go_sem,eqT h1]
 ·obtain ⟨h2,h⟩|⟨h2,h⟩:=af h
  ·cases h
   simp(config:=cS)only[go_sem,eqF h1,eqT h2]
  ·obtain ⟨x01,g3,h⟩:=ae h
   obtain ⟨h5,h6⟩:=cU (k:=0) g3
   obtain ⟨h7,h⟩|⟨h7,h⟩:=af h
   ·cases h
    simp(config:=cS)only[go_sem,eqF h1,eqF h2,h5,h6,eqT h7]
   ·obtain ⟨h8,h⟩|⟨h8,h⟩:=af h
    ·obtain ⟨q06,l9,h⟩:=ae h
     simp(config:=cS)only[go_sem,eqF h1,eqF h2,h5,h6,eqF h7,eqT h8]
     refine aw (m1:=.mk) (m2:=.mk) [.nf [1,35,36,37] [64]] (lK s.nodes ((s.nodes.length:Nat):Int) s.ties s.horizon) l9 ?_ ?_
     ·simp(config:=cS)only[go_sem]
     ·intro nb10 v37_1 bb10 b10 gb10
      unfold dj at b10
      try dsimp only at b10
      obtain ⟨h11,b10⟩|⟨h11,b10⟩:=af b10
      ·obtain ⟨x02,g12,b10⟩:=ae b10
       obtain ⟨h13,h14,h15⟩:=ak g12
       obtain ⟨r03,g16,b10⟩:=ae b10
       simp(config:=cS)only[go_sem,eqT h11,h13,h14,h15]
       refine ag (AJ g16) ?_
       obtain ⟨h17,b10⟩|⟨h17,b10⟩:=af b10
       ·obtain ⟨h18,b10⟩:=al b10
        obtain ⟨h19,b10⟩:=al b10
        obtain ⟨q05,l20,b10⟩:=ae b10
        simp(config:=cS)only[go_sem,eZt h17,eqT h18,eqT h19]
        refine aw (m1:=.mk) (m2:=.mk) [.nf [1,4,35,36,37,48,49,50] [64,256]] (lJ s.nodes ((s.nodes.length:Nat):Int) v37_1 (s.nodes.take v37_1.toNat) (((s.nodes.take v37_1.toNat).length:Nat):Int) s.ties s.horizon x02.name x02.label x02.watch) l20 ?_ ?_
        ·simp(config:=cS)only[go_sem]
        ·intro nb21 v50_2 bb21 b21 gb21
         unfold di at b21
         try dsimp only at b21
         obtain ⟨h22,b21⟩|⟨h22,b21⟩:=af b21
         ·obtain ⟨x04,g23,b21⟩:=ae b21
          obtain ⟨h24,h25,h26⟩:=ak g23
          obtain ⟨h27,b21⟩|⟨h27,b21⟩:=af b21
          ·cases b21
           obtain rfl:=(aj gb21).symm
           try dsimp only at b10
           cases b10
           obtain rfl:=(aj gb10).symm
           try dsimp only at h
           cases h
           simp(config:=cS)only[go_sem,eqT h22,h24,h25,h26,eqT h27]
          ·obtain ⟨h30,b21⟩|⟨h30,b21⟩:=af b21
           ·cases b21
            simp(config:=cS)only[go_sem,eqT h22,h24,h25,h26,eqF h27,eqT h30]
            refine au gb21 ?_
            simp(config:=cS)only[go_sem]
           ·obtain ⟨h31,b21⟩|⟨h31,b21⟩:=af b21
            ·cases b21
             obtain rfl:=(aj gb21).symm
             try dsimp only at b10
             cases b10
             obtain rfl:=(aj gb10).symm
             try dsimp only at h
             cases h
             simp(config:=cS)only[go_sem,eqT h22,h24,h25,h26,eqF h27,eqF h30,eqT h31]
            ·cases b21
             simp(config:=cS)only[go_sem,eqT h22,h24,h25,h26,eqF h27,eqF h30,eqF h31]
             refine au gb21 ?_
             simp(config:=cS)only[go_sem]
         ·cases b21
          obtain rfl:=(aj gb21).symm
          try dsimp only at b10
          cases b10
          simp(config:=cS)only[go_sem,eqF h22]
          refine au gb10 ?_
          simp(config:=cS)only[go_sem]
       ·cases b10
        obtain rfl:=(aj gb10).symm
        try dsimp only at h
        cases h
        simp(config:=cS)only[go_sem,eZf h17]
      ·cases b10
       obtain rfl:=(aj gb10).symm
       try dsimp only at h
       cases h
       simp(config:=cS)only[go_sem,eqF h11]
    ·cases h
     simp(config:=cS)only[go_sem,eqF h1,eqF h2,h5,h6,eqF h7,eqF h8]
attribute [go_sem] Tryz.ntmps207 Tryz.results207
theorem rO {n node:Int}{res:Bool}(h:gH n node=some res):am Tryz.prog 207 [.lit (.int .i64 n),.lit (.int .i64 node)] [] (.lit (.bool res)) []:=by
 refine ai (ra:=[]) (md:=mdT) hT (hi:=hi00) Tryz.func207 rfl rfl (by decide +kernel) (by simp) ?_
 unfold gH at h
 obtain ⟨h1,h⟩|⟨h1,h⟩:=af h
 ·cases h
  simp(config:=cS)only[go_sem,eqT h1]
 ·cases h
  simp(config:=cS)only[go_sem,eqF h1]
end Go.Proofs.Qc
