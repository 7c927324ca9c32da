/- Functions. -/
import Derived.Test.YtghfphjfkdbpjaaGreatAFK2
set_option linter.all false
set_option maxRecDepth 100000
set_option maxHeartbeats 4000000
namespace Go.Proofs.QA
open Go
def pT (a:List Int):(Int × Int)→St
 | (b,i)=>⟨[(0,.sl (ae (eK .u8) a)),(3,.lit (.int .i64 b)),(4,.lit (.int .i64 i))],[],2⟩
attribute [go_sem] pT
attribute [go_sem] Tryz.ntmps55 Tryz.results55
theorem vT {code:List Int}{res:GL01Cur}(h:iv code=some res):ao Tryz.prog 55 [.sl (ae (eK .u8) code)] [] (.ptr 20000 1 0 0) [(20000,1,.var [.sl (ae (eK .u8) res.b),.lit (.int .i64 res.i),.lit (.int .i64 res.h)])]:=by
 refine ak (ra:=[]) (md:=mdT) hT (hi:=hi00) Tryz.func55 rfl rfl (by decide +kernel) (by simp) ?_
 unfold iv at h
 obtain ⟨q02,l1,h⟩:=ab h
 simp(config:=cS)only[go_sem]
 refine al (m1:=.mk) (m2:=.mk) [.nf [0,3,4] []] (pT code) l1 ?_ ?_
 ·simp(config:=cS)only[go_sem]
 ·intro nb2 sb2 bb2 b2 gb2
  obtain ⟨v3_1,i_1⟩:=sb2
  unfold gV at b2
  try dsimp only at b2
  obtain ⟨h3,b2⟩|⟨h3,b2⟩:=af b2
  ·obtain ⟨h4,b2⟩|⟨h4,b2⟩:=af b2
   ·obtain ⟨x01,g5,b2⟩:=ab b2
    obtain ⟨h6,h7,h8⟩:=ai g5
    cases b2
    simp(config:=cS)only[go_sem,eqT h3,eqT h4,h6,h7,h8]
    refine an gb2 ?_
    simp(config:=cS)only[go_sem]
   ·cases b2
    obtain rfl:=(aj gb2).symm
    try dsimp only at h
    cases h
    simp(config:=cS)only[go_sem,eqT h3,eqF h4]
  ·cases b2
   obtain rfl:=(aj gb2).symm
   try dsimp only at h
   cases h
   simp(config:=cS)only[go_sem,eqF h3]
@[go_sem] def hi77_4:DT:=.i2 0 (.i2 1 (.i2 2 (.i2 3 (.i2 4 (.i2 5 (.i2 6 (.i2 7 (.i2 8 (.i2 9 (.i2 10 (.i2 11 (.i2 12 (.i2 13 (.i2 14 .nil))))))))))))))
@[go_sem] def hi77_3:DT:=.i2 0 (.i2 1 (.i2 2 (.i2 3 (.i2 4 (.i2 5 (.i2 6 (.i2 7 (.i2 8 (.i2 9 .nil)))))))))
@[go_sem] def hi77_2:DT:=.i2 0 (.i2 1 (.i2 2 (.i2 3 (.i2 4 (.i2 5 (.i2 6 (.i2 7 (.i2 8 (.i2 9 (.i2 10 (.i2 11 (.i2 12 .nil))))))))))))
def hi77:Hint where
 acts:=fun _=>[]
 draws:=fun
  | 2=>⟨hi77_2,[[],[0],[0,1],[0,1,2],[0,1,2,3],[],[5],[5,6],[5,6,7],[5,6,7,8],.range 10,.range 11,.range 12],.range 13⟩
  | 3=>⟨hi77_3,[[],[0],[0,1],[0,1,2],[],[4],[4,5],[4,5,6],[4,5,6,7],.range 9],.range 10⟩
  | 4=>⟨hi77_4,[[],[],[1],[1,2],[1,2,3],[],[5],[5,6],[5,6,7],[1,2,3,4,5,6,7,8],[1,2,3,4,5,6,7,8,9],[1,2,3,4,5,6,7,8,9,10],.range 12,.range 13,.range 14],.range 15⟩
  | _=>⟨.nil,[],[]⟩
theorem OO (i:Nat):hi77.acts i=[]:=rfl
theorem OP (i:Nat):hi77.views i=none:=rfl
attribute [go_sem] OO OP Tryz.ntmps77 Tryz.results77
@[go_sem] theorem Rp:(hi77.draws 2).order=hi77_2:=rfl
@[go_sem] theorem Rq:(hi77.draws 3).order=hi77_3:=rfl
@[go_sem] theorem Rr:(hi77.draws 4).order=hi77_4:=rfl
theorem dt {v0:GL01Cur}{res:Int × GL01Cur}(h:bB v0=some res):ao Tryz.prog 77 [.ptr 10000 0 0 0] [(10000,0,.var [.sl (ae (eK .u8) v0.b),.lit (.int .i64 v0.i),.lit (.int .i64 v0.h)])] (.lit (.int .i64 res.1)) [(10000,0,.var [.sl (ae (eK .u8) res.2.b),.lit (.int .i64 res.2.i),.lit (.int .i64 res.2.h)])]:=by
 refine ak (ra:=[]) (md:=mdT) hT (hi:=hi77) Tryz.func77 rfl rfl (by decide +kernel) (by simp) ?_
 unfold bB at h
 obtain ⟨h1,h⟩|⟨h1,h⟩:=af h
 ·obtain ⟨x01,g2,h⟩:=ab h
  obtain ⟨h3,h4,h5⟩:=ai g2
  cases h
  simp(config:=cS)only[go_sem,eqT h1,h3,h4,h5]
 ·cases h
  simp(config:=cS)only[go_sem,eqF h1]
attribute [go_sem] Tryz.ntmps149 Tryz.results149
theorem aK {v0:GL01Cur}{n:Int}{res:Int × GL01Cur}(h:aE v0 n=some res):ao Tryz.prog 149 [.ptr 10000 0 0 0,.lit (.int .i64 n)] [(10000,0,.var [.sl (ae (eK .u8) v0.b),.lit (.int .i64 v0.i),.lit (.int .i64 v0.h)])] (.lit (.int .i64 res.1)) [(10000,0,.var [.sl (ae (eK .u8) res.2.b),.lit (.int .i64 res.2.i),.lit (.int .i64 res.2.h)])]:=by
 refine ak (ra:=[]) (md:=mdT) hT (hi:=hi00) Tryz.func149 rfl rfl (by decide +kernel) (by simp) ?_
 unfold aE at h
 obtain ⟨h1,h⟩|⟨h1,h⟩:=af h
 ·cases h
  simp(config:=cS)only[go_sem,eqT h1]
 ·obtain ⟨h2,h⟩|⟨h2,h⟩:=af h
  ·obtain ⟨r01,g3,h⟩:=ab h
   simp(config:=cS)only[go_sem,eqF h1,eqT h2]
   refine ag (dt g3) ?_
   obtain ⟨h4,h⟩:=ah h
   cases h
   simp(config:=cS)only[go_sem,eqF h4]
  ·obtain ⟨r02,g5,h⟩:=ab h
   simp(config:=cS)only[go_sem,eqF h1,eqF h2]
   refine ag (dt g5) ?_
   obtain ⟨r03,g6,h⟩:=ab h
   simp(config:=cS)only[go_sem]
   refine ag (dt g6) ?_
   obtain ⟨r04,g7,h⟩:=ab h
   simp(config:=cS)only[go_sem]
   refine ag (dt g7) ?_
   obtain ⟨r05,g8,h⟩:=ab h
   simp(config:=cS)only[go_sem]
   refine ag (dt g8) ?_
   obtain ⟨h9,h⟩:=ah h
   cases h
   simp(config:=cS)only[go_sem,eqF h9]
attribute [go_sem] Tryz.ntmps124 Tryz.results124
theorem qG {v0:GL01Cur}{n:Int}{res:Bool × GL01Cur}(h:fb v0 n=some res):ao Tryz.prog 124 [.ptr 10000 0 0 0,.lit (.int .i64 n)] [(10000,0,.var [.sl (ae (eK .u8) v0.b),.lit (.int .i64 v0.i),.lit (.int .i64 v0.h)])] (.lit (.bool res.1)) [(10000,0,.var [.sl (ae (eK .u8) res.2.b),.lit (.int .i64 res.2.i),.lit (.int .i64 res.2.h)])]:=by
 refine ak (ra:=[]) (md:=mdT) hT (hi:=hi00) Tryz.func124 rfl rfl (by decide +kernel) (by simp) ?_
 unfold fb at h
 obtain ⟨r01,g1,h⟩:=ab h
 simp(config:=cS)only[go_sem]
 refine ag (aK g1) ?_
 cases h
 simp(config:=cS)only[go_sem]
def lZ (f:Int)(a:List GNode):(Int × (List GTie) × (List Int) × Int × Int)→St
 | (i,b,c,d,e)=>⟨[(0,.ptr 10000 0 0 0),(2,.ptr 128 1 0 0),(3,.ptr 192 1 0 0),(5,.lit (.int .i64 i))],[(10000,0,.var [.sl (ae (eK .u8) c),.lit (.int .i64 d),.lit (.int .i64 e)]),(128,1,.var [.lit (.slice none 0 0),.lit (.slice none 0 0),.lit (.int .i64 0)]),(192,1,.var [.ref 1024 1 0 a.length,.ref 1664 1 0 b.length,.lit (.int .i64 f)]),(1024,1,.row true (ae GNode.encO a)),(1664,1,.row true (ae GTie.enc b))],2⟩
attribute [go_sem] lZ
@[go_sem] def hi125_13:DT:=.i1 0 (.i1 1 (.i2 2 (.i2 3 (.i2 4 (.i0 5 [0,1] (.i2 6 (.i2 7 (.i0 8 [0,1] (.i2 9 (.i2 10 (.i2 11 .nil)))))))))))
@[go_sem] def hi125_9:DT:=.i1 0 (.i1 1 (.i2 2 (.i2 4 (.i2 5 (.i2 6 (.i2 7 (.i2 8 (.i0 3 [0,1] (.i0 9 [0,1] (.i2 10 (.i2 11 (.i0 12 [0,1] (.i2 13 (.i2 14 (.i2 15 .nil)))))))))))))))
def zH:Hint where
 acts:=fun _=>[]
 draws:=fun
  | 9=>⟨hi125_9,[[],[0],[],[2],[],[],[],[6],[],[2,3,8],[2,3,6,7,8,9],[2,3,4,5,6,7,8,9,10],[2,3,4,5,6,7,8,9,10,11],.range 13,.range 14,.range 15],.range 16⟩
  | 13=>⟨hi125_13,[[],[0],[],[],[],[4],[3,4,5],[2,3,4,5,6],[2,3,4,5,6,7],.range 9,.range 10,.range 11],.range 12⟩
  | _=>⟨.nil,[],[]⟩
theorem Me (i:Nat):zH.acts i=[]:=rfl
theorem Mf (i:Nat):zH.views i=none:=rfl
attribute [go_sem] Me Mf Tryz.ntmps125 Tryz.results125
@[go_sem] theorem Qg:(zH.draws 9).order=hi125_9:=rfl
@[go_sem] theorem PQ:(zH.draws 13).order=hi125_13:=rfl
theorem yq {v0:GL01Cur}{res:GShow × GL01Cur}(h:gW v0=some res):ao Tryz.prog 125 [.ptr 10000 0 0 0] [(10000,0,.var [.sl (ae (eK .u8) v0.b),.lit (.int .i64 v0.i),.lit (.int .i64 v0.h)])] (.agg [.ref 20000 1 0 res.1.nodes.length,.ref 20001 1 0 res.1.ties.length,.lit (.int .i64 res.1.horizon)]) [(10000,0,.var [.sl (ae (eK .u8) res.2.b),.lit (.int .i64 res.2.i),.lit (.int .i64 res.2.h)]),(20000,1,.row true (ae GNode.encO res.1.nodes)),(20001,1,.row true (ae GTie.enc res.1.ties))]:=by
 refine ak (ra:=[.homeCell 128 0,.homeCell 128 1]) (md:=mdT) hT (hi:=zH) Tryz.func125 rfl rfl (by decide +kernel) (by simp) ?_
 unfold gW at h
 obtain ⟨r01,g1,h⟩:=ab h
 simp(config:=cS)only[go_sem]
 refine ag (aK g1) ?_
 obtain ⟨r02,g2,h⟩:=ab h
 simp(config:=cS)only[go_sem]
 refine ag (aK g2) ?_
 obtain ⟨r03,g3,h⟩:=ab h
 simp(config:=cS)only[go_sem]
 refine ag (aK g3) ?_
 obtain ⟨q10,l4,h⟩:=ab h
 simp(config:=cS)only[go_sem]
 refine al (m1:=.mk) (m2:=.mk) [.nf [0,2,3,5] [10000,128,192,1024,1664]] (lZ (IntKind.wrap .i64 (4+r01.1)) ([(GNode.mk (ByteArray.mk #[103,111]) ([]) 0),(GNode.mk (ByteArray.mk #[97]) ([]) 1),(GNode.mk (ByteArray.mk #[98]) ([1]) 0),(GNode.mk (ByteArray.mk #[99]) ([(-1)]) 0)])) l4 ?_ ?_
 ·simp(config:=cS)only[go_sem]
 ·intro nb5 sb5 bb5 b5 gb5
  obtain ⟨i_1,h1664_1,v0_0_1,v0_1_1,v0_2_1⟩:=sb5
  unfold eJ at b5
  try dsimp only at b5
  obtain ⟨h6,b5⟩|⟨h6,b5⟩:=af b5
  ·obtain ⟨r04,g7,b5⟩:=ab b5
   simp(config:=cS)only[go_sem,eqT h6]
   refine ag (aK g7) ?_
   obtain ⟨r05,g8,b5⟩:=ab b5
   simp(config:=cS)only[go_sem]
   refine ag (aK g8) ?_
   obtain ⟨r06,g9,b5⟩:=ab b5
   simp(config:=cS)only[go_sem]
   refine ag (aK g9) ?_
   obtain ⟨h10,b5⟩:=ah b5
   obtain ⟨h11,b5⟩:=ah b5
   cases b5
   simp(config:=cS)only[go_sem,eqT h10,eqT h11]
   refine an gb5 ?_
   simp(config:=cS)only[go_sem]
  ·cases b5
   obtain rfl:=(aj gb5).symm
   try dsimp only at h
   obtain ⟨r07,g13,h⟩:=ab h
   simp(config:=cS)only[go_sem,eqF h6]
   refine ag (qG g13) ?_
   obtain ⟨h14,h⟩|⟨h14,h⟩:=af h
   ·obtain ⟨r08,g15,h⟩:=ab h
    simp(config:=cS)only[go_sem,eZt h14]
    refine ag (aK g15) ?_
    obtain ⟨r09,g16,h⟩:=ab h
    simp(config:=cS)only[go_sem]
    refine ag (aK g16) ?_
    obtain ⟨h17,h⟩:=ah h
    obtain ⟨h18,h⟩:=ah h
    cases h
    simp(config:=cS)only[go_sem,eqT h17,eqT h18]
   ·cases h
    simp(config:=cS)only[go_sem,eZf h14]
attribute [go_sem] Tryz.ntmps203 Tryz.results203
theorem uS {i:Int}{res:ByteArray}(h:gI i=some res):ao Tryz.prog 203 [.lit (.int .i64 i)] [] (.lit (.string res)) []:=by
 refine ak (ra:=[]) (md:=mdT) hT (hi:=hi00) Tryz.func203 rfl rfl (by decide +kernel) (by simp) ?_
 unfold gI at h
 obtain ⟨x01,g1,h⟩:=ab h
 obtain ⟨h2,h3,h4⟩:=ai g1
 simp only [List.length_cons,List.length_nil,Nat.zero_add,Nat.reduceAdd] at h4
 cases h
 simp(config:=cS)only[go_sem,h2,h3,h4]
def oH (m f:Int)(a:List GNode):(Int × (List Int) × Int × Int × (List GTie))→St
 | (k,c,d,e,b)=>⟨[(0,.ptr 10000 0 0 0),(3,.ptr 192 1 0 0),(4,.ptr 256 1 0 0),(5,.lit (.int .i64 m)),(6,.lit (.int .i64 k))],[(10000,0,.var [.sl (ae (eK .u8) c),.lit (.int .i64 d),.lit (.int .i64 e)]),(192,1,.var [.ref 10001 0 0 a.length,.ref 10002 1 0 b.length,.lit (.int .i64 f)]),(10001,0,.row true (ae GNode.encO a)),(10002,1,.row true (ae GTie.enc b)),(256,1,.var [.lit (.slice none 0 0),.lit (.slice none 0 0),.lit (.int .i64 0)])],2⟩
attribute [go_sem] oH
@[go_sem] def hi204_7:DT:=.i1 0 (.i1 1 (.i2 2 (.i2 3 (.i2 4 (.i2 5 (.i2 6 (.i2 7 (.i2 10 (.i2 12 (.i2 13 (.i2 14 (.i2 15 (.i0 8 [0,1] (.i2 9 (.i2 11 (.i0 16 [0,1] (.i2 17 (.i2 18 (.i0 19 [0,1] (.i2 20 (.i2 21 (.i2 22 .nil))))))))))))))))))))))
def CW:Hint where
 acts:=fun _=>[]
 draws:=fun
  | 7=>⟨hi204_7,[[],[0],[],[],[3],[],[],[6],[5,6,7],[3,4,5,6,7,8],[],[3,4,5,6,7,8,9,10],[],[],[13],[],[5,6,7,8,15],[5,6,7,8,13,14,15,16],[2,3,4,5,6,7,8,9,10,11,12,13,14,15,16,17],[2,3,4,5,6,7,8,9,10,11,12,13,14,15,16,17,18],.range 20,.range 21,.range 22],.range 23⟩
  | _=>⟨.nil,[],[]⟩
theorem Mg (i:Nat):CW.acts i=[]:=rfl
theorem Mh (i:Nat):CW.views i=none:=rfl
attribute [go_sem] Mg Mh Tryz.ntmps204 Tryz.results204
@[go_sem] theorem Qh:(CW.draws 7).order=hi204_7:=rfl
theorem AR {v0:GL01Cur}{s:GShow}{res:GShow × GL01Cur × (List GNode)}(h:jq v0 s=some res):ao Tryz.prog 204 [.ptr 10000 0 0 0,.agg [.ref 10001 0 0 s.nodes.length,.ref 10002 0 0 s.ties.length,.lit (.int .i64 s.horizon)]] [(10000,0,.var [.sl (ae (eK .u8) v0.b),.lit (.int .i64 v0.i),.lit (.int .i64 v0.h)]),(10001,0,.row true (ae GNode.encO s.nodes)),(10002,0,.row true (ae GTie.enc s.ties))] (.agg [.ref 10001 0 0 res.2.2.length,.ref 20000 1 0 res.1.ties.length,.lit (.int .i64 res.1.horizon)]) [(10000,0,.var [.sl (ae (eK .u8) res.2.1.b),.lit (.int .i64 res.2.1.i),.lit (.int .i64 res.2.1.h)]),(10001,0,.row true (ae GNode.encO res.2.2)),(20000,1,.row true (ae GTie.enc res.1.ties))]:=by
 refine ak (ra:=[.homeCell 256 0,.homeCell 256 1]) (md:=mdT) hT (hi:=CW) Tryz.func204 rfl rfl (by decide +kernel) (by simp) ?_
 unfold jq at h
 obtain ⟨r01,g1,h⟩:=ab h
 simp(config:=cS)only[go_sem]
 refine ag (aK g1) ?_
 obtain ⟨q06,l2,h⟩:=ab h
 simp(config:=cS)only[go_sem]
 refine al (m1:=.mk) (m2:=.mk) [.nfo [0,3,4,5,6] [10000,192,10001,10002,256] [10002]] (oH ((s.nodes.length:Nat):Int) s.horizon s.nodes) l2 ?_ ?_
 ·simp(config:=cS)only[go_sem]
 ·intro nb3 sb3 bb3 b3 gb3
  obtain ⟨k_1,v0_0_1,v0_1_1,v0_2_1,h10002_1⟩:=sb3
  unfold gg at b3
  try dsimp only at b3
  obtain ⟨h4,b3⟩|⟨h4,b3⟩:=af b3
  ·obtain ⟨r02,g5,b3⟩:=ab b3
   simp(config:=cS)only[go_sem,eqT h4]
   refine ag (aK g5) ?_
   obtain ⟨r03,g6,b3⟩:=ab b3
   simp(config:=cS)only[go_sem]
   refine ag (aK g6) ?_
   obtain ⟨r04,g7,b3⟩:=ab b3
   simp(config:=cS)only[go_sem]
   refine ag (aK g7) ?_
   obtain ⟨h8,b3⟩:=ah b3
   obtain ⟨r05,g9,b3⟩:=ab b3
   simp(config:=cS)only[go_sem,eqF h8]
   refine ag (aK g9) ?_
   obtain ⟨h10,b3⟩:=ah b3
   obtain ⟨h11,b3⟩:=ah b3
   cases b3
   simp(config:=cS)only[go_sem,eqT h10,eqT h11]
   refine an gb3 ?_
   simp(config:=cS)only[go_sem]
  ·cases b3
   obtain rfl:=(aj gb3).symm
   try dsimp only at h
   cases h
   simp(config:=cS)only[go_sem,eqF h4]
def nq (f:Int):(Int × (List GNode) × (List Int) × Int × Int × (List GTie))→St
 | (n,b,c,d,e,a)=>⟨[(0,.ptr 10000 0 0 0),(2,.ptr 128 1 0 0),(3,.ptr 192 1 0 0),(4,.lit (.int .i64 n))],[(10000,0,.var [.sl (ae (eK .u8) c),.lit (.int .i64 d),.lit (.int .i64 e)]),(128,1,.var [.lit (.slice none 0 0),.lit (.slice none 0 0),.lit (.int .i64 0)]),(192,1,.var [.ref 512 1 0 b.length,.ref 100012289 1 0 a.length,.lit (.int .i64 f)]),(512,1,.row true (ae GNode.encO b)),(100012289,1,.row true (ae GTie.enc a))],2⟩
attribute [go_sem] nq
@[go_sem] def hi126_12:DT:=.i1 0 (.i1 1 (.i2 2 (.i2 3 (.i2 4 (.i2 5 (.i2 6 (.i2 7 (.i0 8 [0,1] (.i2 9 (.i2 10 (.i0 11 [0,1] (.i2 12 (.i2 13 (.i2 14 .nil))))))))))))))
@[go_sem] def hi126_11:DT:=.i1 0 (.i1 1 (.i2 2 (.i2 3 (.i0 4 [0,1] (.i2 5 (.i0 6 [0,1] (.i2 7 (.i2 8 (.i2 9 .nil)))))))))
@[go_sem] def hi126_8:DT:=.i1 0 (.i1 1 (.i2 2 (.i2 3 (.i2 5 (.i2 6 (.i2 7 (.i2 8 (.i0 4 [0,1] (.i0 9 [0,1] (.i2 10 (.i2 11 (.i0 12 [0,1] (.i2 13 (.i2 14 (.i2 15 .nil)))))))))))))))
@[go_sem] def hi126_7:DT:=.i1 0 (.i1 1 (.i2 2 (.i0 3 [0,1] (.i2 4 (.i0 5 [0,1] (.i2 6 (.i2 7 (.i2 8 .nil))))))))
def vB:Hint where
 acts:=fun _=>[]
 draws:=fun
  | 7=>⟨hi126_7,[[],[0],[],[2],[2,3],[2,3,4],.range 6,.range 7,.range 8],.range 9⟩
  | 8=>⟨hi126_8,[[],[0],[],[],[2,3],[],[],[],[],[2,3,4,8],[2,3,4,7,8,9],[2,3,4,5,6,7,8,9,10],[2,3,4,5,6,7,8,9,10,11],.range 13,.range 14,.range 15],.range 16⟩
  | 11=>⟨hi126_11,[[],[0],[],[2],[2,3],[2,3,4],[2,3,4,5],.range 7,.range 8,.range 9],.range 10⟩
  | 12=>⟨hi126_12,[[],[0],[],[],[3],[],[],[],[7],[6,7,8],[2,3,4,5,6,7,8,9],[2,3,4,5,6,7,8,9,10],.range 12,.range 13,.range 14],.range 15⟩
  | _=>⟨.nil,[],[]⟩
theorem Mi (i:Nat):vB.acts i=[]:=rfl
theorem Mj (i:Nat):vB.views i=none:=rfl
attribute [go_sem] Mi Mj Tryz.ntmps126 Tryz.results126
@[go_sem] theorem Qi:(vB.draws 7).order=hi126_7:=rfl
@[go_sem] theorem Qj:(vB.draws 8).order=hi126_8:=rfl
@[go_sem] theorem PS:(vB.draws 11).order=hi126_11:=rfl
@[go_sem] theorem PT:(vB.draws 12).order=hi126_12:=rfl
theorem zI {v0:GL01Cur}{res:GShow × GL01Cur}(h:iC v0=some res):ao Tryz.prog 126 [.ptr 10000 0 0 0] [(10000,0,.var [.sl (ae (eK .u8) v0.b),.lit (.int .i64 v0.i),.lit (.int .i64 v0.h)])] (.agg [.ref 20000 1 0 res.1.nodes.length,.ref 20001 1 0 res.1.ties.length,.lit (.int .i64 res.1.horizon)]) [(10000,0,.var [.sl (ae (eK .u8) res.2.b),.lit (.int .i64 res.2.i),.lit (.int .i64 res.2.h)]),(20000,1,.row true (ae GNode.encO res.1.nodes)),(20001,1,.row true (ae GTie.enc res.1.ties))]:=by
 refine ak (ra:=[.homeCell 128 0,.homeCell 128 1]) (md:=mdT) hT (hi:=vB) Tryz.func126 rfl rfl (by decide +kernel) (by simp) ?_
 unfold iC at h
 obtain ⟨r01,g1,h⟩:=ab h
 simp(config:=cS)only[go_sem]
 refine ag (aK g1) ?_
 obtain ⟨r02,g2,h⟩:=ab h
 simp(config:=cS)only[go_sem]
 refine ag (aK g2) ?_
 obtain ⟨q12,l3,h⟩:=ab h
 simp(config:=cS)only[go_sem]
 refine al (m1:=.mk) (m2:=.mk) [.homeCell 192 1,.nf [0,2,3,4] [10000,128,192,512,100012289]] (nq (IntKind.wrap .i64 (4+r01.1))) l3 ?_ ?_
 ·simp(config:=cS)only[go_sem]
 ·intro nb4 sb4 bb4 b4 gb4
  obtain ⟨n_1,h512_1,v0_0_1,v0_1_1,v0_2_1,h100012289_1⟩:=sb4
  unfold fC at b4
  try dsimp only at b4
  obtain ⟨h5,b4⟩|⟨h5,b4⟩:=af b4
  ·obtain ⟨r03,g6,b4⟩:=ab b4
   simp(config:=cS)only[go_sem,eqT h5]
   refine ag (aK g6) ?_
   obtain ⟨r04,g7,b4⟩:=ab b4
   simp(config:=cS)only[go_sem]
   refine ag (uS g7) ?_
   obtain ⟨h8,b4⟩:=ah b4
   obtain ⟨h9,b4⟩:=ah b4
   obtain ⟨r05,g10,b4⟩:=ab b4
   simp(config:=cS)only[go_sem,eqT h8,eqT h9]
   refine ag (aK g10) ?_
   obtain ⟨r06,g11,b4⟩:=ab b4
   simp(config:=cS)only[go_sem]
   refine ag (aK g11) ?_
   obtain ⟨h12,b4⟩:=ah b4
   obtain ⟨h13,b4⟩:=ah b4
   obtain ⟨r07,g14,b4⟩:=ab b4
   simp(config:=cS)only[go_sem,eqT h12,eqT h13]
   refine ag (qG g14) ?_
   obtain ⟨h15,b4⟩|⟨h15,b4⟩:=af b4
   ·obtain ⟨h16,b4⟩|⟨h16,b4⟩:=af b4
    ·obtain ⟨r08,g17,b4⟩:=ab b4
     simp(config:=cS)only[go_sem,eZt h15,eqT h16]
     refine ag (aK g17) ?_
     obtain ⟨r09,g18,b4⟩:=ab b4
     simp(config:=cS)only[go_sem]
     refine ag (uS g18) ?_
     obtain ⟨h19,b4⟩:=ah b4
     try simp(config:=cS)only[go_sem] at h19
     obtain ⟨h20,b4⟩:=ah b4
     try simp(config:=cS)only[go_sem] at h20
     obtain ⟨r10,g21,b4⟩:=ab b4
     simp(config:=cS)only[go_sem,eqT h5,eqT h8,eqT h9,eqT h12,eqT h13,eZt h15,eqT h16,eqT h19,eqT h20]
     refine ag (aK g21) ?_
     obtain ⟨h22,b4⟩:=ah b4
     try simp(config:=cS)only[go_sem] at h22
     obtain ⟨h23,b4⟩:=ah b4
     try simp(config:=cS)only[go_sem] at h23
     cases b4
     simp(config:=cS)only[go_sem,eqT h5,eqT h8,eqT h9,eqT h12,eqT h13,eZt h15,eqT h16,eqT h19,eqT h20,eqT h22,eqT h23]
     refine an gb4 ?_
     simp(config:=cS)only[go_sem]
    ·cases b4
     simp(config:=cS)only[go_sem,eZt h15,eqF h16]
     refine an gb4 ?_
     simp(config:=cS)only[go_sem]
   ·cases b4
    simp(config:=cS)only[go_sem,eZf h15]
    refine an gb4 ?_
    simp(config:=cS)only[go_sem]
  ·cases b4
   obtain rfl:=(aj gb4).symm
   try dsimp only at h
   obtain ⟨r11,g25,h⟩:=ab h
   simp(config:=cS)only[go_sem,eqF h5]
   refine ag (AR g25) ?_
   cases h
   simp(config:=cS)only[go_sem]
attribute [go_sem] Tryz.ntmps54 Tryz.results54
theorem AS {v0:GL01Cur}{res:GShow × GL01Cur}(h:jr v0=some res):ao Tryz.prog 54 [.ptr 10000 0 0 0] [(10000,0,.var [.sl (ae (eK .u8) v0.b),.lit (.int .i64 v0.i),.lit (.int .i64 v0.h)])] (.agg [.ref 20000 1 0 res.1.nodes.length,.ref 20001 1 0 res.1.ties.length,.lit (.int .i64 res.1.horizon)]) [(10000,0,.var [.sl (ae (eK .u8) res.2.b),.lit (.int .i64 res.2.i),.lit (.int .i64 res.2.h)]),(20000,1,.row true (ae GNode.encO res.1.nodes)),(20001,1,.row true (ae GTie.enc res.1.ties))]:=by
 refine ak (ra:=[.homeCell 128 0,.homeCell 128 1]) (md:=mdT) hT (hi:=hi00) Tryz.func54 rfl rfl (by decide +kernel) (by simp) ?_
 unfold jr at h
 obtain ⟨r01,g1,h⟩:=ab h
 simp(config:=cS)only[go_sem]
 refine ag (qG g1) ?_
 obtain ⟨h2,h⟩|⟨h2,h⟩:=af h
 ·obtain ⟨r02,g3,h⟩:=ab h
  simp(config:=cS)only[go_sem,eZt h2]
  refine ag (yq g3) ?_
  cases h
  simp(config:=cS)only[go_sem]
 ·obtain ⟨r03,g4,h⟩:=ab h
  simp(config:=cS)only[go_sem,eZf h2]
  refine ag (zI g4) ?_
  cases h
  simp(config:=cS)only[go_sem]
attribute [go_sem] Tryz.ntmps11 Tryz.results11
theorem zJ {code:List Int}{res:GShow}(h:iD code=some res):ao Tryz.prog 11 [.sl (ae (eK .u8) code)] [] (.agg [.ref 20000 1 0 res.nodes.length,.ref 20001 1 0 res.ties.length,.lit (.int .i64 res.horizon)]) [(20000,1,.row true (ae GNode.encO res.nodes)),(20001,1,.row true (ae GTie.enc res.ties))]:=by
 refine ak (ra:=[.homeCell 128 0,.homeCell 128 1]) (md:=mdT) hT (hi:=hi00) Tryz.func11 rfl rfl (by decide +kernel) (by simp) ?_
 unfold iD at h
 obtain ⟨r01,g1,h⟩:=ab h
 simp(config:=cS)only[go_sem]
 refine ag (vT g1) ?_
 obtain ⟨r02,g2,h⟩:=ab h
 simp(config:=cS)only[go_sem]
 refine ag (AS g2) ?_
 cases h
 simp(config:=cS)only[go_sem]
@[go_sem] def hi12_3:DT:=.i2 0 (.i1 2 (.i2 4 (.i0 1 [2] (.i2 3 (.i2 5 (.i2 6 (.i2 7 .nil)))))))
def hi12:Hint where
 acts:=fun _=>[]
 draws:=fun
  | 3=>⟨hi12_3,[[],[0],[],[0,1,2],[],.range 5,.range 6,.range 7],.range 8⟩
  | _=>⟨.nil,[],[]⟩
theorem OQ (i:Nat):hi12.acts i=[]:=rfl
theorem OR (i:Nat):hi12.views i=none:=rfl
attribute [go_sem] OQ OR Tryz.ntmps12 Tryz.results12
@[go_sem] theorem Rs:(hi12.draws 3).order=hi12_3:=rfl
theorem uT {s:GShow}{lazy:Bool}{res:GDesk × Bool}(h:gJ s lazy=some res):ao Tryz.prog 12 [.agg (GShow.encS s),.lit (.bool lazy)] [] (.tup [.agg [.ref 20000 1 0 res.1.show_.nodes.length,.ref 20001 1 0 res.1.show_.ties.length,.lit (.int .i64 res.1.show_.horizon),.lit (.int .i64 res.1.state.now),.ref 20002 1 0 res.1.state.times.length,.ref 20003 1 0 res.1.state.values.length,.lit (.bool res.1.lazy),.ref 20004 1 0 res.1.log.length],.lit (.bool res.2)]) [(20000,1,.row true (ae GNode.encO res.1.show_.nodes)),(20001,1,.row true (ae GTie.enc res.1.show_.ties)),(20002,1,.row true (ae eI res.1.state.times)),(20003,1,.row true (ae eI res.1.state.values)),(20004,1,.row true (ae GEntry.encO res.1.log))]:=by
 refine ak (ra:=[.homeCell 256 0,.homeCell 256 1,.homeCell 256 4,.homeCell 256 5,.homeCell 256 7]) (md:=mdT) hT (hi:=hi12) Tryz.func12 rfl rfl (by decide +kernel) (by simp) ?_
 unfold gJ at h
 obtain ⟨r01,g1,h⟩:=ab h
 simp(config:=cS)only[go_sem]
 refine ag (mH g1) ?_
 obtain ⟨h2,h⟩|⟨h2,h⟩:=af h
 ·obtain ⟨r02,g3,h⟩:=ab h
  simp(config:=cS)only[go_sem,eZt h2]
  refine ag (uc g3) ?_
  obtain ⟨r03,g4,h⟩:=ab h
  simp(config:=cS)only[go_sem]
  refine ag (sj g4) ?_
  cases h
  simp(config:=cS)only[go_sem]
 ·cases h
  simp(config:=cS)only[go_sem,eZf h2]
def pU (n:Int):(Int × (List Int) × Int × Int)→St
 | (i,a,b,c)=>⟨[(1,.lit (.int .i64 n)),(5,.ptr 512 1 0 0),(6,.lit (.int .i64 i))],[(512,1,.var [.sl (ae (eK .u8) a),.lit (.int .i64 b),.lit (.int .i64 c)])],2⟩
attribute [go_sem] pU
attribute [go_sem] Tryz.ntmps76 Tryz.results76
theorem Cm {code:List Int}{n:Int}{res:GL01Cur}(h:ke code n=some res):ao Tryz.prog 76 [.sl (ae (eK .u8) code),.lit (.int .i64 n)] [] (.ptr 20000 1 0 0) [(20000,1,.var [.sl (ae (eK .u8) res.b),.lit (.int .i64 res.i),.lit (.int .i64 res.h)])]:=by
 refine ak (ra:=[]) (md:=mdT) hT (hi:=hi00) Tryz.func76 rfl rfl (by decide +kernel) (by simp) ?_
 unfold ke at h
 obtain ⟨r01,g1,h⟩:=ab h
 simp(config:=cS)only[go_sem]
 refine ag (vT g1) ?_
 obtain ⟨q03,l2,h⟩:=ab h
 simp(config:=cS)only[go_sem]
 refine al (m1:=.mk) (m2:=.mk) [.nf [1,5,6] [512]] (pU n) l2 ?_ ?_
 ·simp(config:=cS)only[go_sem]
 ·intro nb3 sb3 bb3 b3 gb3
  obtain ⟨i_1,v5_0_1,v5_1_1,v5_2_1⟩:=sb3
  unfold gZ at b3
  try dsimp only at b3
  obtain ⟨h4,b3⟩|⟨h4,b3⟩:=af b3
  ·obtain ⟨r02,g5,b3⟩:=ab b3
   simp(config:=cS)only[go_sem,eqT h4]
   refine ag (dt g5) ?_
   cases b3
   simp(config:=cS)only[go_sem]
   refine an gb3 ?_
   simp(config:=cS)only[go_sem]
  ·cases b3
   obtain rfl:=(aj gb3).symm
   try dsimp only at h
   cases h
   simp(config:=cS)only[go_sem,eqF h4]
attribute [go_sem] Tryz.ntmps22 Tryz.results22
theorem uU {code:List Int}{n res:Int}(h:jt code n=some res):ao Tryz.prog 22 [.sl (ae (eK .u8) code),.lit (.int .i64 n)] [] (.lit (.int .i64 res)) []:=by
 refine ak (ra:=[]) (md:=mdT) hT (hi:=hi00) Tryz.func22 rfl rfl (by decide +kernel) (by simp) ?_
 unfold jt at h
 obtain ⟨r01,g1,h⟩:=ab h
 simp(config:=cS)only[go_sem]
 refine ag (Cm g1) ?_
 obtain ⟨r02,g2,h⟩:=ab h
 simp(config:=cS)only[go_sem]
 refine ag (dt g2) ?_
 obtain ⟨r03,g3,h⟩:=ab h
 simp(config:=cS)only[go_sem]
 refine ag (dt g3) ?_
 cases h
 simp(config:=cS)only[go_sem]
def oI (c:List GTie)(d:Int):(Int × (List Int))→St
 | (b,a)=>⟨[(3,.ref 384 1 0 a.length),(8,.sl (ae GTie.enc c)),(9,.lit (.int .i64 d)),(10,.lit (.int .i64 b))],[(384,1,.row true (ae eI a))],2⟩
attribute [go_sem] oI
attribute [go_sem] Tryz.ntmps135 Tryz.results135
theorem uV {s:GShow}{res:List Int}(h:gL s=some res):ao Tryz.prog 135 [.agg (GShow.encS s)] [] (.ref 20000 1 0 res.length) [(20000,1,.row true (ae eI res))]:=by
 refine ak (ra:=[.home 2]) (md:=mdT) hT (hi:=hi00) Tryz.func135 rfl rfl (by decide +kernel) (by simp) ?_
 unfold gL at h
 obtain ⟨q02,l1,h⟩:=ab h
 simp(config:=cS)only[go_sem]
 refine al (m1:=.mk) (m2:=.mk) [.nf [3,8,9,10] [384]] (oI s.ties ((s.ties.length:Nat):Int)) l1 ?_ ?_
 ·simp(config:=cS)only[go_sem]
 ·intro nb2 sb2 bb2 b2 gb2
  obtain ⟨v10_1,out_1⟩:=sb2
  unfold gi at b2
  try dsimp only at b2
  obtain ⟨h3,b2⟩|⟨h3,b2⟩:=af b2
  ·obtain ⟨x01,g4,b2⟩:=ab b2
   obtain ⟨h5,h6,h7⟩:=ai g4
   obtain ⟨h8,b2⟩|⟨h8,b2⟩:=af b2
   ·obtain ⟨h9,b2⟩:=ah b2
    obtain ⟨h10,b2⟩:=ah b2
    cases b2
    simp(config:=cS)only[go_sem,eqT h3,h5,h6,h7,eZt h8,eqT h9,eqT h10]
    refine an gb2 ?_
    simp(config:=cS)only[go_sem]
   ·cases b2
    simp(config:=cS)only[go_sem,eqT h3,h5,h6,h7,eZf h8]
    refine an gb2 ?_
    simp(config:=cS)only[go_sem]
  ·cases b2
   obtain rfl:=(aj gb2).symm
   try dsimp only at h
   cases h
   simp(config:=cS)only[go_sem,eqF h3]
def kx (b:Int)(c:List GNode)(d:List GTie)(e:Int)(a:List Int):(Int × Int)→St
 | (n,f)=>⟨[(1,.ptr 64 1 0 0),(3,.lit (.int .i64 n)),(11,.ref 704 1 0 a.length),(12,.lit (.int .i64 b)),(13,.lit (.int .i64 f))],[(64,1,.var [.sl (ae GNode.encS c),.sl (ae GTie.enc d),.lit (.int .i64 e)]),(704,1,.row true (ae eI a))],2⟩
attribute [go_sem] kx
def ky (a:List GNode)(b:List GTie)(c:Int):(Int × Int)→St
 | (n,p)=>⟨[(1,.ptr 64 1 0 0),(3,.lit (.int .i64 n)),(6,.lit (.int .i64 p))],[(64,1,.var [.sl (ae GNode.encS a),.sl (ae GTie.enc b),.lit (.int .i64 c)])],2⟩
attribute [go_sem] ky
@[go_sem] def hi60_7:DT:=.i2 0 (.i2 1 (.i2 2 (.i2 3 (.i2 4 (.i2 5 (.i2 6 (.i2 7 (.i2 8 (.i2 9 (.i2 10 (.i2 11 (.i2 12 (.i2 13 (.i2 14 (.i2 15 (.i2 16 .nil))))))))))))))))
def hi60:Hint where
 acts:=fun _=>[]
 draws:=fun
  | 7=>⟨hi60_7,[[],[],[1],[],[1,2,3],[1,2,3,4],[1,2,3,4,5],[],[7],[],[7,8,9],[7,8,9,10],[7,8,9,10,11],[1,2,3,4,5,6,7,8,9,10,11,12],[1,2,3,4,5,6,7,8,9,10,11,12,13],.range 15,.range 16],.range 17⟩
  | _=>⟨.nil,[],[]⟩
theorem OT (i:Nat):hi60.acts i=[]:=rfl
theorem OU (i:Nat):hi60.views i=none:=rfl
attribute [go_sem] OT OU Tryz.ntmps60 Tryz.results60
@[go_sem] theorem Rt:(hi60.draws 7).order=hi60_7:=rfl
theorem ig {s:GShow}{res:Int}(h:db s=some res):ao Tryz.prog 60 [.agg (GShow.encS s)] [] (.lit (.int .i64 res)) []:=by
 refine ak (ra:=[]) (md:=mdT) hT (hi:=hi60) Tryz.func60 rfl rfl (by decide +kernel) (by simp) ?_
 unfold db at h
 obtain ⟨r01,g1,h⟩:=ab h
 simp(config:=cS)only[go_sem]
 refine ag (kb g1) ?_
 obtain ⟨h2,h⟩|⟨h2,h⟩:=af h
 ·obtain ⟨r02,g3,h⟩:=ab h
  simp(config:=cS)only[go_sem,eZt h2]
  refine ag (uV g3) ?_
  obtain ⟨q07,l4,h⟩:=ab h
  simp(config:=cS)only[go_sem]
  refine al (m1:=.mk) (m2:=.mk) [.nf [1,3,11,12,13] [64,704]] (kx ((r02.length:Nat):Int) s.nodes s.ties s.horizon r02) l4 ?_ ?_
  ·simp(config:=cS)only[go_sem]
  ·intro nb5 sb5 bb5 b5 gb5
   obtain ⟨n_1,v13_1⟩:=sb5
   unfold ch at b5
   try dsimp only at b5
   obtain ⟨h6,b5⟩|⟨h6,b5⟩:=af b5
   ·obtain ⟨x03,g7,b5⟩:=ab b5
    obtain ⟨h8,h9,h10⟩:=ai g7
    obtain ⟨x04,g11,b5⟩:=ab b5
    obtain ⟨h12,h13,h14⟩:=ai g11
    cases b5
    simp(config:=cS)only[go_sem,eqT h6,h8,h9,h10,h12,h13,h14]
    refine an gb5 ?_
    simp(config:=cS)only[go_sem]
   ·cases b5
    obtain rfl:=(aj gb5).symm
    try dsimp only at h
    obtain ⟨q06,l16,h⟩:=ab h
    simp(config:=cS)only[go_sem,eqF h6]
    refine al (m1:=.mk) (m2:=.mk) [.nf [1,3,6] [64]] (ky s.nodes s.ties s.horizon) l16 ?_ ?_
    ·simp(config:=cS)only[go_sem]
    ·intro nb17 sb17 bb17 b17 gb17
     obtain ⟨n_2,p_2⟩:=sb17
     unfold de at b17
     try dsimp only at b17
     obtain ⟨h18,b17⟩|⟨h18,b17⟩:=af b17
     ·obtain ⟨r05,g19,b17⟩:=ab b17
      simp(config:=cS)only[go_sem,eqT h18]
      refine ag (dZ g19) ?_
      obtain ⟨h20,b17⟩|⟨h20,b17⟩:=af b17
      ·cases b17
       simp(config:=cS)only[go_sem,eqT h20]
       refine an gb17 ?_
       simp(config:=cS)only[go_sem]
      ·cases b17
       simp(config:=cS)only[go_sem,eqF h20]
       refine an gb17 ?_
       simp(config:=cS)only[go_sem]
     ·cases b17
      obtain rfl:=(aj gb17).symm
      try dsimp only at h
      cases h
      simp(config:=cS)only[go_sem,eqF h18]
 ·cases h
  simp(config:=cS)only[go_sem,eZf h2]
def nr (c:Int)(d:List GNode)(e:List GTie)(f:Int)(b:List Int):(Int × Int × (List Int))→St
 | (n,g,a)=>⟨[(1,.lit (.int .i64 n)),(2,.ptr 128 1 0 0),(4,.ptr 256 1 0 0),(6,.ptr 384 1 0 0),(21,.ref 1344 1 0 b.length),(22,.lit (.int .i64 c)),(23,.lit (.int .i64 g))],[(128,1,.var [.sl (ae GNode.encS d),.sl (ae GTie.enc e),.lit (.int .i64 f)]),(256,1,.var [.lit (.slice none 0 0),.lit (.slice none 0 0)]),(384,1,.var [.ref 100024576 1 0 a.length,.lit (.slice none 0 0)]),(100024576,1,.row true (ae eI a)),(1344,1,.row true (ae eI b))],2⟩
attribute [go_sem] nr
def nu (c:List GNode)(d:List GTie)(e:Int)(a:List Int):(Int × Int × (List Int))→St
 | (n,p,b)=>⟨[(1,.lit (.int .i64 n)),(2,.ptr 128 1 0 0),(4,.ptr 256 1 0 0),(6,.ptr 384 1 0 0),(10,.lit (.int .i64 p))],[(128,1,.var [.sl (ae GNode.encS c),.sl (ae GTie.enc d),.lit (.int .i64 e)]),(256,1,.var [.lit (.slice none 0 0),.lit (.slice none 0 0)]),(384,1,.var [.ref 100024576 1 0 a.length,.ref 100024577 1 0 b.length]),(100024576,1,.row true (ae eI a)),(100024577,1,.row true (ae eI b))],2⟩
attribute [go_sem] nu
@[go_sem] def hi59_8:DT:=.i1 0 (.i1 1 (.i2 2 (.i2 3 (.i2 4 (.i2 5 (.i2 6 (.i2 7 (.i2 8 (.i2 9 (.i2 10 (.i2 11 (.i0 12 [0,1] (.i2 13 (.i2 14 (.i2 15 .nil)))))))))))))))
@[go_sem] def hi59_7:DT:=.i2 0 (.i2 1 (.i2 2 (.i2 3 (.i2 4 (.i2 5 (.i2 6 (.i2 7 (.i2 8 (.i2 9 (.i2 10 (.i2 11 (.i2 12 (.i2 13 (.i2 14 .nil))))))))))))))
def hi59:Hint where
 acts:=fun _=>[]
 draws:=fun
  | 7=>⟨hi59_7,[[],[0],[],[0,1,2],[0,1,2,3],.range 5,[],[6],[],[6,7,8],[6,7,8,9],[6,7,8,9,10],.range 12,.range 13,.range 14],.range 15⟩
  | 8=>⟨hi59_8,[[],[0],[],[2],[],[2,3,4],[2,3,4,5],[2,3,4,5,6],[],[],[8,9],[2,3,4,5,6,7,8,9,10],[2,3,4,5,6,7,8,9,10,11],.range 13,.range 14,.range 15],.range 16⟩
  | _=>⟨.nil,[],[]⟩
theorem OV (i:Nat):hi59.acts i=[]:=rfl
theorem OW (i:Nat):hi59.views i=none:=rfl
attribute [go_sem] OV OW Tryz.ntmps59 Tryz.results59
@[go_sem] theorem Ru:(hi59.draws 7).order=hi59_7:=rfl
@[go_sem] theorem Rv:(hi59.draws 8).order=hi59_8:=rfl
theorem kz {s:GShow}{n:Int}{res:GChoice × Bool}(h:iG s n=some res):ao Tryz.prog 59 [.agg (GShow.encS s),.lit (.int .i64 n)] [] (.tup [.agg [.ref 20000 1 0 res.1.lengths.length,.ref 20001 1 0 res.1.values.length],.lit (.bool res.2)]) [(20000,1,.row true (ae eI res.1.lengths)),(20001,1,.row true (ae eI res.1.values))]:=by
 refine ak (ra:=[.homeCell 256 0,.homeCell 256 1]) (md:=mdT) hT (hi:=hi59) Tryz.func59 rfl rfl (by decide +kernel) (by simp) ?_
 unfold iG at h
 obtain ⟨r01,g1,h⟩:=ab h
 simp(config:=cS)only[go_sem]
 refine ag (ig g1) ?_
 obtain ⟨r02,g2,h⟩:=ab h
 simp(config:=cS)only[go_sem]
 refine ag (bF g2) ?_
 obtain ⟨h3,h⟩|⟨h3,h⟩:=af h
 ·obtain ⟨r03,g4,h⟩:=ab h
  simp(config:=cS)only[go_sem,eZt h3]
  refine ag (uV g4) ?_
  obtain ⟨q08,l5,h⟩:=ab h
  simp(config:=cS)only[go_sem]
  refine al (m1:=.mk) (m2:=.mk) [.homeCell 384 0,.nf [1,2,4,6,21,22,23] [128,256,384,100024576,1344]] (nr ((r03.length:Nat):Int) s.nodes s.ties s.horizon r03) l5 ?_ ?_
  ·simp(config:=cS)only[go_sem]
  ·intro nb6 sb6 bb6 b6 gb6
   obtain ⟨n_1,v23_1,h100024576_1⟩:=sb6
   unfold dE at b6
   try dsimp only at b6
   obtain ⟨h7,b6⟩|⟨h7,b6⟩:=af b6
   ·obtain ⟨x04,g8,b6⟩:=ab b6
    obtain ⟨h9,h10,h11⟩:=ai g8
    obtain ⟨x05,g12,b6⟩:=ab b6
    obtain ⟨h13,h14,h15⟩:=ai g12
    obtain ⟨h16,b6⟩:=ah b6
    obtain ⟨h17,b6⟩:=ah b6
    obtain ⟨h18,b6⟩:=ah b6
    cases b6
    simp(config:=cS)only[go_sem,eqT h7,h9,h10,h11,h13,h14,h15,eqF h16,eqT h17,eqT h18]
    refine an gb6 ?_
    simp(config:=cS)only[go_sem]
   ·cases b6
    obtain rfl:=(aj gb6).symm
    try dsimp only at h
    obtain ⟨q07,l20,h⟩:=ab h
    simp(config:=cS)only[go_sem,eqF h7]
    refine al (m1:=.mk) (m2:=.mk) [.homeCell 384 1,.nf [1,2,4,6,10] [128,256,384,100024576,100024577]] (nu s.nodes s.ties s.horizon h100024576_1) l20 ?_ ?_
    ·simp(config:=cS)only[go_sem]
    ·intro nb21 sb21 bb21 b21 gb21
     obtain ⟨n_2,p_2,h100024577_2⟩:=sb21
     unfold fE at b21
     try dsimp only at b21
     obtain ⟨h22,b21⟩|⟨h22,b21⟩:=af b21
     ·obtain ⟨r06,g23,b21⟩:=ab b21
      simp(config:=cS)only[go_sem,eqT h22]
      refine ag (dZ g23) ?_
      obtain ⟨h24,b21⟩|⟨h24,b21⟩:=af b21
      ·obtain ⟨h25,b21⟩:=ah b21
       obtain ⟨h26,b21⟩:=ah b21
       cases b21
       simp(config:=cS)only[go_sem,eqT h24,eqT h25,eqT h26]
       refine an gb21 ?_
       simp(config:=cS)only[go_sem]
      ·obtain ⟨h27,b21⟩:=ah b21
       obtain ⟨h28,b21⟩:=ah b21
       cases b21
       simp(config:=cS)only[go_sem,eqF h24,eqT h27,eqT h28]
       refine an gb21 ?_
       simp(config:=cS)only[go_sem]
     ·cases b21
      obtain rfl:=(aj gb21).symm
      try dsimp only at h
      cases h
      simp(config:=cS)only[go_sem,eqF h22]
 ·cases h
  simp(config:=cS)only[go_sem,eZf h3]
@[go_sem] def hi13_1:DT:=.i1 0 (.i2 1 (.i2 2 (.i1 4 (.fork (.i0 3 [0,4] (.fork (.i0 5 [0] (.i2 6 (.fork (.i2 7 (.i2 8 (.i2 9 (.i2 10 (.i0 11 [0,4] (.i2 12 (.i2 13 .nil))))))) (.i0 11 [0,4] (.i2 7 (.i2 8 (.i2 9 (.i2 10 (.i2 12 (.i2 13 .nil)))))))))) (.i0 11 [0,4] (.i0 5 [0] (.i2 6 (.i2 7 (.i2 8 (.i2 9 (.i2 10 (.i2 12 (.i2 13 .nil))))))))))) (.i0 11 [0,4] (.i0 3 [0,4] (.i0 5 [0] (.i2 6 (.i2 7 (.i2 8 (.i2 9 (.i2 10 (.i2 12 (.i2 13 .nil))))))))))))))
def hi13:Hint where
 acts:=fun _=>[]
 draws:=fun
  | 1=>⟨hi13_1,[[],[],[],[1,2],[],[1,2,3,4],[1,2,3,4,5],.range 7,.range 8,.range 9,.range 9,[],[0,1,2,3,4,5,6,7,8,9,11],.range 13],[0,1,2,3,4,5,6,7,8,9,12,10,11,13]⟩
  | _=>⟨.nil,[],[]⟩
theorem OX (i:Nat):hi13.acts i=[]:=rfl
theorem OY (i:Nat):hi13.views i=none:=rfl
attribute [go_sem] OX OY Tryz.ntmps13 Tryz.results13
@[go_sem] theorem Rw:(hi13.draws 1).order=hi13_1:=rfl
theorem sf {code:List Int}{n:Int}{s:GShow}{res:GChoice}(h:ej code n s=some res):ao Tryz.prog 13 [.sl (ae (eK .u8) code),.lit (.int .i64 n),.agg (GShow.encS s)] [] (.agg [.ref 20000 1 0 res.lengths.length,.ref 20001 1 0 res.values.length]) [(20000,1,.row true (ae eI res.lengths)),(20001,1,.row true (ae eI res.values))]:=by
 refine ak (ra:=[.homeCell 384 0,.homeCell 384 1]) (md:=mdT) hT (hi:=hi13) Tryz.func13 rfl rfl (by decide +kernel) (by simp) ?_
 unfold ej at h
 try simp(config:=cS)only[go_sem]
 refine aT ?_ ?_
 ·obtain ⟨r01,g1,h⟩:=ab h
  simp(config:=cS)only[go_sem]
  refine ag (uU g1) ?_
  try simp(config:=cS)only[go_sem]
  refine aT ?_ ?_
  ·obtain ⟨r02,g2,h⟩:=ab h
   simp(config:=cS)only[go_sem]
   refine ag (ig g2) ?_
   obtain ⟨h3,h⟩:=ah h
   try simp(config:=cS)only[go_sem,eqF h3]
   refine aT ?_ ?_
   ·obtain ⟨r03,g4,h⟩:=ab h
    simp(config:=cS)only[go_sem]
    refine ag (kz g4) ?_
    cases h
    simp(config:=cS)only[go_sem]
   ·obtain ⟨r04,g5,h⟩:=ab h
    simp(config:=cS)only[go_sem]
    refine ag (kz g5) ?_
    cases h
    simp(config:=cS)only[go_sem]
  ·obtain ⟨r05,g6,h⟩:=ab h
   simp(config:=cS)only[go_sem]
   refine ag (ig g6) ?_
   obtain ⟨h7,h⟩:=ah h
   obtain ⟨r06,g8,h⟩:=ab h
   simp(config:=cS)only[go_sem,eqF h7]
   refine ag (kz g8) ?_
   cases h
   simp(config:=cS)only[go_sem]
 ·obtain ⟨r07,g9,h⟩:=ab h
  simp(config:=cS)only[go_sem]
  refine ag (uU g9) ?_
  obtain ⟨r08,g10,h⟩:=ab h
  simp(config:=cS)only[go_sem]
  refine ag (ig g10) ?_
  obtain ⟨h11,h⟩:=ah h
  obtain ⟨r09,g12,h⟩:=ab h
  simp(config:=cS)only[go_sem,eqF h11]
  refine ag (kz g12) ?_
  cases h
  simp(config:=cS)only[go_sem]
def nw (b:List GTie)(c:Int):(Int × (List Int))→St
 | (d,a)=>⟨[(3,.ref 255 1 0 a.length),(7,.sl (ae GTie.enc b)),(8,.lit (.int .i64 c)),(9,.lit (.int .i64 d))],[(255,1,.row true (ae eI a))],2⟩
attribute [go_sem] nw
attribute [go_sem] Tryz.ntmps140 Tryz.results140
theorem tY {s:GShow}{res:List Int}(h:fX s=some res):ao Tryz.prog 140 [.agg (GShow.encS s)] [] (.ref 20000 1 0 res.length) [(20000,1,.row true (ae eI res))]:=by
 refine ak (ra:=[.home 2]) (md:=mdT) hT (hi:=hi00) Tryz.func140 rfl rfl (by decide +kernel) (by simp) ?_
 unfold fX at h
 obtain ⟨q02,l1,h⟩:=ab h
 simp(config:=cS)only[go_sem]
 refine al (m1:=.mk) (m2:=.mk) [.home 3,.nf [3,7,8,9] [255]] (nw s.ties ((s.ties.length:Nat):Int)) l1 ?_ ?_
 ·simp(config:=cS)only[go_sem]
 ·intro nb2 sb2 bb2 b2 gb2
  obtain ⟨v9_1,out_1⟩:=sb2
  unfold fG at b2
  try dsimp only at b2
  obtain ⟨h3,b2⟩|⟨h3,b2⟩:=af b2
  ·obtain ⟨x01,g4,b2⟩:=ab b2
   obtain ⟨h5,h6,h7⟩:=ai g4
   obtain ⟨h8,b2⟩|⟨h8,b2⟩:=af b2
   ·obtain ⟨h9,b2⟩:=ah b2
    obtain ⟨h10,b2⟩:=ah b2
    cases b2
    simp(config:=cS)only[go_sem,eqT h3,h5,h6,h7,eZt h8,eqT h9,eqT h10]
    refine an gb2 ?_
    simp(config:=cS)only[go_sem]
   ·cases b2
    simp(config:=cS)only[go_sem,eqT h3,h5,h6,h7,eZf h8]
    refine an gb2 ?_
    simp(config:=cS)only[go_sem]
  ·cases b2
   obtain rfl:=(aj gb2).symm
   try dsimp only at h
   cases h
   simp(config:=cS)only[go_sem,eqF h3]
def nx (d:Int)(e:List GNode)(f:List GTie)(g:Int)(b c a:List Int)(h:Int):St:=⟨[(2,.ptr 128 1 0 0),(3,.ptr 192 1 0 0),(24,.ref 704 1 0 a.length),(25,.lit (.int .i64 d)),(26,.lit (.int .i64 h))],[(128,1,.var [.sl (ae GNode.encS e),.sl (ae GTie.enc f),.lit (.int .i64 g)]),(192,1,.var [.sl (ae eI b),.sl (ae eI c)]),(704,1,.row true (ae eI a))],2⟩
attribute [go_sem] nx
def ny (a:List Int)(b:Int)(c:List GNode)(d:List GTie)(e f:Int):St:=⟨[(2,.ptr 128 1 0 0),(59,.sl (ae eI a)),(60,.lit (.int .i64 b)),(61,.lit (.int .i64 f))],[(128,1,.var [.sl (ae GNode.encS c),.sl (ae GTie.enc d),.lit (.int .i64 e)])],2⟩
attribute [go_sem] ny
@[go_sem] def hi62_7:DT:=.i2 0 (.i2 1 (.i2 2 (.i2 3 (.i2 4 (.i2 5 (.i2 6 (.i2 7 (.i2 8 (.i2 9 (.i2 10 (.i2 11 (.i2 12 (.i2 13 (.i2 14 (.i2 15 (.i2 16 (.i2 17 (.i2 18 (.i2 19 (.i2 20 (.i2 21 (.i2 22 (.i2 23 (.i2 24 (.i2 25 .nil)))))))))))))))))))))))))
def hi62:Hint where
 acts:=fun _=>[]
 draws:=fun
  | 7=>⟨hi62_7,[[],[0],[],[0,1,2],[0,1,2,3],[],[5],[],[5,6,7],[5,6,7,8],[5,6,7,8,9],.range 11,.range 12,.range 13,.range 14,.range 13,.range 16,.range 17,.range 13,[0,1,2,3,4,5,6,7,8,9,10,11,12,18],.range 13,[0,1,2,3,4,5,6,7,8,9,10,11,12,18,19,20],[0,1,2,3,4,5,6,7,8,9,10,11,12,18,19,20,21],[0,1,2,3,4,5,6,7,8,9,10,11,12,18,19,20,21,22],.range 24,.range 25],.range 26⟩
  | _=>⟨.nil,[],[]⟩
theorem OZ (i:Nat):hi62.acts i=[]:=rfl
theorem Pa (i:Nat):hi62.views i=none:=rfl
attribute [go_sem] OZ Pa Tryz.ntmps62 Tryz.results62
@[go_sem] theorem Rx:(hi62.draws 7).order=hi62_7:=rfl
theorem tZ {s:GShow}{v1:GChoice}{res:Bool}(h:fY s v1=some res):ao Tryz.prog 62 [.agg (GShow.encS s),.agg [.sl (ae eI v1.lengths),.sl (ae eI v1.values)]] [] (.lit (.bool res)) []:=by
 refine ak (ra:=[]) (md:=mdT) hT (hi:=hi62) Tryz.func62 rfl rfl (by decide +kernel) (by simp) ?_
 unfold fY at h
 obtain ⟨r01,g1,h⟩:=ab h
 simp(config:=cS)only[go_sem]
 refine ag (tY g1) ?_
 obtain ⟨h2,h⟩|⟨h2,h⟩:=af h
 ·obtain ⟨h3,h⟩|⟨h3,h⟩:=af h
  ·obtain ⟨q09,l4,h⟩:=ab h
   simp(config:=cS)only[go_sem,eqT h2,eqT h3]
   refine al (m1:=.mk) (m2:=.mk) [.nf [2,3,24,25,26] [128,192,704]] (nx ((r01.length:Nat):Int) s.nodes s.ties s.horizon v1.lengths v1.values r01) l4 ?_ ?_
   ·simp(config:=cS)only[go_sem]
   ·intro nb5 v26_1 bb5 b5 gb5
    unfold dF at b5
    try dsimp only at b5
    obtain ⟨h6,b5⟩|⟨h6,b5⟩:=af b5
    ·obtain ⟨x02,g7,b5⟩:=ab b5
     obtain ⟨h8,h9,h10⟩:=ai g7
     obtain ⟨x03,g11,b5⟩:=ab b5
     obtain ⟨h12,h13,h14⟩:=ai g11
     obtain ⟨x04,g15,b5⟩:=ab b5
     obtain ⟨h16,h17,h18⟩:=ai g15
     obtain ⟨h19,b5⟩|⟨h19,b5⟩:=af b5
     ·cases b5
      obtain rfl:=(aj gb5).symm
      try dsimp only at h
      cases h
      simp(config:=cS)only[go_sem,eqT h6,h8,h9,h10,h12,h13,h14,h16,h17,h18,eqT h19]
     ·obtain ⟨h21,b5⟩|⟨h21,b5⟩:=af b5
      ·cases b5
       obtain rfl:=(aj gb5).symm
       try dsimp only at h
       cases h
       simp(config:=cS)only[go_sem,eqT h6,h8,h9,h10,h12,h13,h14,h16,h17,h18,eqF h19,eqT h21]
      ·cases b5
       simp(config:=cS)only[go_sem,eqT h6,h8,h9,h10,h12,h13,h14,h16,h17,h18,eqF h19,eqF h21]
       refine an gb5 ?_
       simp(config:=cS)only[go_sem]
    ·cases b5
     obtain rfl:=(aj gb5).symm
     try dsimp only at h
     obtain ⟨q08,l24,h⟩:=ab h
     simp(config:=cS)only[go_sem,eqF h6]
     refine al (m1:=.mk) (m2:=.mk) [.nf [2,59,60,61] [128]] (ny v1.values ((v1.values.length:Nat):Int) s.nodes s.ties s.horizon) l24 ?_ ?_
     ·simp(config:=cS)only[go_sem]
     ·intro nb25 v61_2 bb25 b25 gb25
      unfold dG at b25
      try dsimp only at b25
      obtain ⟨h26,b25⟩|⟨h26,b25⟩:=af b25
      ·obtain ⟨x05,g27,b25⟩:=ab b25
       obtain ⟨h28,h29,h30⟩:=ai g27
       obtain ⟨h31,b25⟩|⟨h31,b25⟩:=af b25
       ·obtain ⟨h32,b25⟩|⟨h32,b25⟩:=af b25
        ·obtain ⟨r06,g33,b25⟩:=ab b25
         simp(config:=cS)only[go_sem,eqT h26,h28,h29,h30,eqT h31,eqT h32]
         refine ag (lw g33) ?_
         obtain ⟨h34,b25⟩|⟨h34,b25⟩:=af b25
         ·cases b25
          obtain rfl:=(aj gb25).symm
          try dsimp only at h
          cases h
          simp(config:=cS)only[go_sem,eqT h34]
         ·cases b25
          simp(config:=cS)only[go_sem,eqF h34]
          refine an gb25 ?_
          simp(config:=cS)only[go_sem]
        ·cases b25
         simp(config:=cS)only[go_sem,eqT h26,h28,h29,h30,eqT h31,eqF h32]
         refine an gb25 ?_
         simp(config:=cS)only[go_sem]
       ·obtain ⟨h36,b25⟩|⟨h36,b25⟩:=af b25
        ·obtain ⟨r07,g37,b25⟩:=ab b25
         simp(config:=cS)only[go_sem,eqT h26,h28,h29,h30,eqF h31,eqT h36]
         refine ag (lw g37) ?_
         obtain ⟨h38,b25⟩|⟨h38,b25⟩:=af b25
         ·cases b25
          obtain rfl:=(aj gb25).symm
          try dsimp only at h
          cases h
          simp(config:=cS)only[go_sem,eqT h38]
         ·cases b25
          simp(config:=cS)only[go_sem,eqF h38]
          refine an gb25 ?_
          simp(config:=cS)only[go_sem]
        ·cases b25
         obtain rfl:=(aj gb25).symm
         try dsimp only at h
         cases h
         simp(config:=cS)only[go_sem,eqT h26,h28,h29,h30,eqF h31,eqF h36]
      ·cases b25
       obtain rfl:=(aj gb25).symm
       try dsimp only at h
       cases h
       simp(config:=cS)only[go_sem,eqF h26]
  ·cases h
   simp(config:=cS)only[go_sem,eqT h2,eqF h3]
 ·cases h
  simp(config:=cS)only[go_sem,eqF h2]
@[go_sem] def hi144_1:DT:=.i1 0 (.i1 1 (.i1 2 (.i1 3 (.i1 4 (.i1 5 (.i2 6 (.i1 7 (.i1 8 (.i1 9 (.i1 10 (.i1 11 (.i2 12 (.i1 13 (.i1 14 (.i2 15 (.i2 16 (.i0 17 [0,1,2,3,4,5,7,8,9,10,11,13,14] (.i2 18 (.i2 19 (.i2 20 (.i2 21 .nil)))))))))))))))))))))
def CX:Hint where
 acts:=fun _=>[]
 draws:=fun
  | 1=>⟨hi144_1,[[],[0],[],[2],[],[4],[],[4,5,6],[4,5,6,7],[4,5,6,7,8],[2,3,4,5,6,7,8,9],[2,3,4,5,6,7,8,9,10],.range 12,[],[13],[],[],[15,16],[13,14,15,16,17],[13,14,15,16,17,18],.range 20,.range 21],.range 22⟩
  | _=>⟨.nil,[],[]⟩
theorem Ml (i:Nat):CX.acts i=[]:=rfl
theorem Mm (i:Nat):CX.views i=none:=rfl
attribute [go_sem] Ml Mm Tryz.ntmps144 Tryz.results144
@[go_sem] theorem Qk:(CX.draws 1).order=hi144_1:=rfl
theorem wi {i:Int}{v1:GState}{s:GShow}{v3:GChoice}{free:List Int}{res:Bool}(h:ii i v1 s v3 free=some res):ao Tryz.prog 144 [.lit (.int .i64 i),.loc [.lit (.int .i64 v1.now),.sl (ae eI v1.times),.sl (ae eI v1.values)],.loc [.sl (ae GNode.encS s.nodes),.sl (ae GTie.enc s.ties),.lit (.int .i64 s.horizon)],.loc [.sl (ae eI v3.lengths),.sl (ae eI v3.values)],.loc [.sl (ae eI free)]] [] (.lit (.bool res)) []:=by
 refine ak (ra:=[]) (md:=mdT) hT (hi:=CX) Tryz.func144 rfl rfl (by decide +kernel) (by simp) ?_
 unfold ii at h
 obtain ⟨x01,g1,h⟩:=ab h
 obtain ⟨h2,h3,h4⟩:=ai g1
 obtain ⟨x02,g5,h⟩:=ab h
 obtain ⟨h6,h7,h8⟩:=ai g5
 obtain ⟨r03,g9,h⟩:=ab h
 simp(config:=cS)only[go_sem,h2,h3,h4,h6,h7,h8]
 refine ag (rt g9) ?_
 obtain ⟨x04,g10,h⟩:=ab h
 obtain ⟨h11,h12,h13⟩:=ai g10
 cases h
 simp(config:=cS)only[go_sem,h2,h3,h4,h6,h7,h8,h11,h12,h13]
attribute [go_sem] Tryz.ntmps63 Tryz.results63
theorem tg {s:GShow}{v1:GState}{v2:GChoice}{res:List Int}(h:ia s v1 v2=some res):ao Tryz.prog 63 [.agg (GShow.encS s),.agg (GState.encS v1),.agg [.sl (ae eI v2.lengths),.sl (ae eI v2.values)]] [] (.ref 20000 1 0 res.length) [(20000,1,.row false (ae eI res))]:=by
 refine ak (ra:=[.home 6,.trim 6]) (md:=mdT) hT (hi:=hi00) Tryz.func63 rfl rfl (by decide +kernel) (by simp) ?_
 unfold ia at h
 obtain ⟨r01,g1,h⟩:=ab h
 simp(config:=cS)only[go_sem]
 refine ag (vc g1) ?_
 obtain ⟨h2,h⟩|⟨h2,h⟩:=af h
 ·obtain ⟨r02,g3,h⟩:=ab h
  simp(config:=cS)only[go_sem,eZt h2]
  refine ag (tZ g3) ?_
  obtain ⟨h4,h⟩|⟨h4,h⟩:=af h
  ·obtain ⟨r03,g5,h⟩:=ab h
   simp(config:=cS)only[go_sem,eZt h2,eZt h4]
   refine ag (tY g5) ?_
   obtain ⟨r04,g6,h⟩:=ab h
   simp(config:=cS)only[go_sem,eZt h2,eZt h4]
   refine ag (vX g6) ?_
   obtain ⟨r05,g7,h⟩:=ab h
   simp(config:=cS)only[go_sem,eZt h2,eZt h4]
   refine ag (lJ (by exact fun _ _ hr=>wi hr) (by refine ⟨fun _=>?_,fun _=>?_⟩ <;> simp only [go_sem]) (fun _=>rfl) rfl g7) ?_
   cases h
   simp(config:=cS)only[go_sem,eZt h2,eZt h4]
  ·cases h
   simp(config:=cS)only[go_sem,eZt h2,eZf h4]
 ·cases h
  simp(config:=cS)only[go_sem,eZf h2]
def oJ (i j:List Int):(Int × Int × Bool × (List GNode) × (List GTie) × (List Int) × (List Int) × (List GEntry))→St
 | (f,g,h,a,b,c,d,e)=>⟨[(3,.ptr 192 1 0 0),(4,.ptr 256 1 0 0),(6,.ptr 384 1 0 0)],[(192,1,.var [.sl (ae eI i),.sl (ae eI j)]),(256,1,.var [.lit (.slice none 0 0),.lit (.slice none 0 0),.lit (.int .i64 0),.lit (.int .i64 0),.lit (.slice none 0 0),.lit (.slice none 0 0),.lit (.bool false),.lit (.slice none 0 0)]),(384,1,.var [.ref 704 1 0 a.length,.ref 705 1 0 b.length,.lit (.int .i64 f),.lit (.int .i64 g),.ref 706 1 0 c.length,.ref 707 1 0 d.length,.lit (.bool h),.ref 708 1 0 e.length]),(704,1,.row true (ae GNode.encO a)),(705,1,.row true (ae GTie.enc b)),(706,1,.row true (ae eI c)),(707,1,.row true (ae eI d)),(708,1,.row true (ae GEntry.encO e))],2⟩
attribute [go_sem] oJ
@[go_sem] def hi14_4:DT:=.i1 0 (.i1 1 (.i1 2 (.i1 3 (.i1 4 (.i1 5 (.i1 7 (.i1 8 (.fork (.i0 6 [0,7,8] (.fork (.i2 9 (.i2 10 (.i2 11 (.i2 12 (.i2 13 (.i0 14 [0,1,2,3,4,5,7,8] (.i2 15 (.i2 16 (.i2 17 .nil))))))))) (.i0 14 [0,1,2,3,4,5,7,8] (.i2 9 (.i2 10 (.i2 11 (.i2 12 (.i2 13 (.i2 15 (.i2 16 (.i2 17 .nil))))))))))) (.i0 14 [0,1,2,3,4,5,7,8] (.i0 6 [0,7,8] (.i2 9 (.i2 10 (.i2 11 (.i2 12 (.i2 13 (.i2 15 (.i2 16 (.i2 17 .nil))))))))))))))))))
def hi14:Hint where
 acts:=fun _=>[]
 draws:=fun
  | 4=>⟨hi14_4,[[],[],[1],[],[3],[],[1,2,3,4,5],[],[7],.range 9,.range 10,.range 11,.range 11,.range 11,[],[0,1,2,3,4,5,6,7,8,9,10,11,14],[0,1,2,3,4,5,6,7,8,9,10,11,12,14,15],.range 17],[0,1,2,3,4,5,6,7,8,9,10,11,14,16,12,13,15,17]⟩
  | _=>⟨.nil,[],[]⟩
theorem Pb (i:Nat):hi14.acts i=[]:=rfl
theorem Pc (i:Nat):hi14.views i=none:=rfl
attribute [go_sem] Pb Pc Tryz.ntmps14 Tryz.results14
@[go_sem] theorem Ry:(hi14.draws 4).order=hi14_4:=rfl
theorem uW {d:GDesk}{v1:GChoice}{res:GDesk × Int}(h:gO d v1=some res):ao Tryz.prog 14 [.agg (GDesk.encS d),.agg [.sl (ae eI v1.lengths),.sl (ae eI v1.values)]] [] (.tup [.agg [.ref 20000 1 0 res.1.show_.nodes.length,.ref 20001 1 0 res.1.show_.ties.length,.lit (.int .i64 res.1.show_.horizon),.lit (.int .i64 res.1.state.now),.ref 20002 1 0 res.1.state.times.length,.ref 20003 1 0 res.1.state.values.length,.lit (.bool res.1.lazy),.ref 20004 1 0 res.1.log.length],.lit (.int .i64 res.2)]) [(20000,1,.row true (ae GNode.encO res.1.show_.nodes)),(20001,1,.row true (ae GTie.enc res.1.show_.ties)),(20002,1,.row true (ae eI res.1.state.times)),(20003,1,.row true (ae eI res.1.state.values)),(20004,1,.row true (ae GEntry.encO res.1.log))]:=by
 refine ak (ra:=[.homeCell 256 0,.homeCell 256 1,.homeCell 256 4,.homeCell 256 5,.homeCell 256 7]) (md:=mdT) hT (hi:=hi14) Tryz.func14 rfl rfl (by decide +kernel) (by simp) ?_
 unfold gO at h
 obtain ⟨r01,g1,h⟩:=ab h
 simp(config:=cS)only[go_sem]
 refine ag (ud g1) ?_
 obtain ⟨r02,g2,h⟩:=ab h
 simp(config:=cS)only[go_sem]
 refine ag (ir g2) ?_
 obtain ⟨h3,h⟩|⟨h3,h⟩:=af h
 ·obtain ⟨r03,g4,h⟩:=ab h
  simp(config:=cS)only[go_sem,eZt h3]
  refine ag (tZ g4) ?_
  obtain ⟨h5,h⟩|⟨h5,h⟩:=af h
  ·obtain ⟨q09,l6,h⟩:=ab h
   simp(config:=cS)only[go_sem,eZt h3,eZt h5]
   refine al (m1:=.mk) (m2:=.mk) [.nfp [3,4,6] [(192,192),(256,256),(384,384),(2112,704),(704,704),(2113,705),(705,705),(2114,706),(706,706),(2115,707),(707,707),(2116,708),(708,708)] []] (oJ v1.lengths v1.values) l6 ?_ ?_
   ·simp(config:=cS)only[go_sem,eZt h3,eZt h5]
   ·intro nb7 sb7 bb7 b7 gb7
    obtain ⟨out_2_1,out_3_1,out_6_1,h704_1,h705_1,h706_1,h707_1,h708_1⟩:=sb7
    unfold ja at b7
    try dsimp only at b7
    try simp(config:=cS)only[go_sem,eZt h3,eZt h5]
    refine aT ?_ ?_
    ·obtain ⟨r04,g8,b7⟩:=ab b7
     simp(config:=cS)only[go_sem,eZt h3,eZt h5]
     refine ag (tg g8) ?_
     try simp(config:=cS)only[go_sem,eZt h3,eZt h5]
     refine aT ?_ ?_
     ·obtain ⟨r05,g9,b7⟩:=ab b7
      simp(config:=cS)only[go_sem,eZt h3,eZt h5]
      refine ag (pm g9) ?_
      obtain ⟨h10,b7⟩|⟨h10,b7⟩:=af b7
      ·cases b7
       simp(config:=cS)only[go_sem,eZt h3,eZt h5,eqT h10]
       refine an gb7 ?_
       simp(config:=cS)only[go_sem,eZt h3,eZt h5,eqT h10]
      ·cases b7
       obtain rfl:=(aj gb7).symm
       try dsimp only at h
       cases h
       simp(config:=cS)only[go_sem,eZt h3,eZt h5,eqF h10]
     ·obtain ⟨r06,g12,b7⟩:=ab b7
      simp(config:=cS)only[go_sem,eZt h3,eZt h5]
      refine ag (pm g12) ?_
      obtain ⟨h13,b7⟩|⟨h13,b7⟩:=af b7
      ·cases b7
       simp(config:=cS)only[go_sem,eZt h3,eZt h5,eqT h13]
       refine an gb7 ?_
       simp(config:=cS)only[go_sem,eZt h3,eZt h5,eqT h13]
      ·cases b7
       obtain rfl:=(aj gb7).symm
       try dsimp only at h
       cases h
       simp(config:=cS)only[go_sem,eZt h3,eZt h5,eqF h13]
    ·obtain ⟨r07,g15,b7⟩:=ab b7
     simp(config:=cS)only[go_sem,eZt h3,eZt h5]
     refine ag (tg g15) ?_
     obtain ⟨r08,g16,b7⟩:=ab b7
     simp(config:=cS)only[go_sem,eZt h3,eZt h5]
     refine ag (pm g16) ?_
     obtain ⟨h17,b7⟩|⟨h17,b7⟩:=af b7
     ·cases b7
      simp(config:=cS)only[go_sem,eZt h3,eZt h5,eqT h17]
      refine an gb7 ?_
      simp(config:=cS)only[go_sem,eZt h3,eZt h5,eqT h17]
     ·cases b7
      obtain rfl:=(aj gb7).symm
      try dsimp only at h
      cases h
      simp(config:=cS)only[go_sem,eZt h3,eZt h5,eqF h17]
  ·cases h
   simp(config:=cS)only[go_sem,eZt h3,eZf h5]
 ·cases h
  simp(config:=cS)only[go_sem,eZf h3]
def nz (b a:List Int)(c d:Int):St:=⟨[(1,.sl (ae eI b)),(12,.sl (ae eI a)),(13,.lit (.int .i64 c)),(14,.lit (.int .i64 d))],[],2⟩
attribute [go_sem] nz
attribute [go_sem] Tryz.ntmps15 Tryz.results15
theorem fQ {a b:List Int}{res:Bool}(h:dU a b=some res):ao Tryz.prog 15 [.sl (ae eI a),.sl (ae eI b)] [] (.lit (.bool res)) []:=by
 refine ak (ra:=[]) (md:=mdT) hT (hi:=hi00) Tryz.func15 rfl rfl (by decide +kernel) (by simp) ?_
 unfold dU at h
 obtain ⟨h1,h⟩|⟨h1,h⟩:=af h
 ·obtain ⟨q03,l2,h⟩:=ab h
  simp(config:=cS)only[go_sem,eqT h1]
  refine al (m1:=.mk) (m2:=.mk) [.nf [1,12,13,14] []] (nz b a ((a.length:Nat):Int)) l2 ?_ ?_
  ·simp(config:=cS)only[go_sem]
  ·intro nb3 v14_1 bb3 b3 gb3
   unfold dI at b3
   try dsimp only at b3
   obtain ⟨h4,b3⟩|⟨h4,b3⟩:=af b3
   ·obtain ⟨x01,g5,b3⟩:=ab b3
    obtain ⟨h6,h7,h8⟩:=ai g5
    obtain ⟨x02,g9,b3⟩:=ab b3
    obtain ⟨h10,h11,h12⟩:=ai g9
    obtain ⟨h13,b3⟩|⟨h13,b3⟩:=af b3
    ·cases b3
     simp(config:=cS)only[go_sem,eqT h4,h6,h7,h8,h10,h11,h12,eqT h13]
     refine an gb3 ?_
     simp(config:=cS)only[go_sem]
    ·cases b3
     obtain rfl:=(aj gb3).symm
     try dsimp only at h
     cases h
     simp(config:=cS)only[go_sem,eqT h4,h6,h7,h8,h10,h11,h12,eqF h13]
   ·cases b3
    obtain rfl:=(aj gb3).symm
    try dsimp only at h
    cases h
    simp(config:=cS)only[go_sem,eqF h4]
 ·cases h
  simp(config:=cS)only[go_sem,eqF h1]
def nD (l m:Bool)(n o:Int)(p:Bool)(q r:Int)(s:Bool)(a:List GNode)(b:List GTie)(c d:List Int)(e:List GEntry)(f:List GNode)(g:List GTie)(h j:List Int)(k:List GEntry)(i:Int):St:=⟨[(4,.ptr 256 1 0 0),(5,.lit (.bool l)),(6,.ptr 384 1 0 0),(7,.lit (.bool m)),(10,.lit (.int .i64 i))],[(256,1,.var [.ref 2368 1 0 a.length,.ref 2369 1 0 b.length,.lit (.int .i64 n),.lit (.int .i64 o),.ref 2370 1 0 c.length,.ref 2371 1 0 d.length,.lit (.bool p),.ref 2372 1 0 e.length]),(2368,1,.row true (ae GNode.encO a)),(2369,1,.row true (ae GTie.enc b)),(2370,1,.row true (ae eI c)),(2371,1,.row true (ae eI d)),(2372,1,.tree (ae GEntry.encS e)),(384,1,.var [.ref 2752 1 0 f.length,.ref 2753 1 0 g.length,.lit (.int .i64 q),.lit (.int .i64 r),.ref 2754 1 0 h.length,.ref 2755 1 0 j.length,.lit (.bool s),.ref 2756 1 0 k.length]),(2752,1,.row true (ae GNode.encO f)),(2753,1,.row true (ae GTie.enc g)),(2754,1,.row true (ae eI h)),(2755,1,.row true (ae eI j)),(2756,1,.tree (ae GEntry.encS k))],2⟩
attribute [go_sem] nD
@[go_sem] def hi3_13:DT:=.i1 0 (.i1 1 (.i2 2 (.i1 3 (.i1 4 (.i1 5 (.i1 6 (.i2 7 (.i1 8 (.i1 9 (.fork (.i0 10 [0,1,3,4,5,6,8,9] (.i0 11 [0,1,3,4,5,6,8,9] (.i0 12 [5,6,8,9] (.i2 13 .nil)))) (.i0 11 [0,1,3,4,5,6,8,9] (.i0 10 [0,1,3,4,5,6,8,9] (.i0 12 [5,6,8,9] (.i2 13 .nil))))))))))))))
def hi3:Hint where
 acts:=fun _=>[]
 draws:=fun
  | 13=>⟨hi3_13,[[],[0],[],[0,1,2],[0,1,2,3],[],[5],[],[5,6,7],[5,6,7,8],[],[],[0,1,2,3,4,10,11],.range 13],[0,1,2,3,4,8,9,10,11,12,5,6,7,13]⟩
  | _=>⟨.nil,[],[]⟩
@[go_sem] theorem hi3a (i:Nat):hi3.acts i=[]:=rfl
theorem hi3v (i:Nat):hi3.views i=none:=rfl
attribute [go_sem] hi3v Tryz.ntmps3 Tryz.results3
@[go_sem] theorem Rz:(hi3.draws 13).order=hi3_13:=rfl
theorem zK {code:List Int}{res:Bool}(h:kF code=some res):ao Tryz.prog 3 [.sl (ae (eK .u8) code)] [] (.lit (.bool res)) []:=by
 refine ak (ra:=[]) (md:=mdT) hT (hi:=hi3) Tryz.func3 rfl rfl (by decide +kernel) (by simp) ?_
 unfold kF at h
 obtain ⟨h1,h⟩|⟨h1,h⟩:=af h
 ·cases h
  simp(config:=cS)only[go_sem,eqT h1]
 ·obtain ⟨r01,g2,h⟩:=ab h
  simp(config:=cS)only[go_sem,eqF h1]
  refine ag (zJ g2) ?_
  obtain ⟨r02,g3,h⟩:=ab h
  simp(config:=cS)only[go_sem,eqF h1]
  refine ag (uT g3) ?_
  obtain ⟨r03,g4,h⟩:=ab h
  simp(config:=cS)only[go_sem,eqF h1]
  refine ag (uT g4) ?_
  obtain ⟨r04,g5,h⟩:=ab h
  simp(config:=cS)only[go_sem,eqF h1]
  refine ag (sf g5) ?_
  obtain ⟨r05,g6,h⟩:=ab h
  simp(config:=cS)only[go_sem,eqF h1]
  refine ag (sf g6) ?_
  obtain ⟨r06,g7,h⟩:=ab h
  simp(config:=cS)only[go_sem,eqF h1]
  refine ag (uW g7) ?_
  obtain ⟨r07,g8,h⟩:=ab h
  simp(config:=cS)only[go_sem,eqF h1]
  refine ag (uW g8) ?_
  obtain ⟨q20,l9,h⟩:=ab h
  simp(config:=cS)only[go_sem,eqF h1]
  refine al (m1:=.mk) (m2:=.mk) [.freeze [2372],.freeze [2756],.nf [4,5,6,7,10] [256,2368,2369,2370,2371,2372,384,2752,2753,2754,2755,2756]] (nD r02.2 r03.2 r06.1.show_.horizon r06.1.state.now r06.1.lazy r07.1.show_.horizon r07.1.state.now r07.1.lazy r06.1.show_.nodes r06.1.show_.ties r06.1.state.times r06.1.state.values r06.1.log r07.1.show_.nodes r07.1.show_.ties r07.1.state.times r07.1.state.values r07.1.log) l9 ?_ ?_
  ·simp(config:=cS)only[go_sem,eqF h1]
  ·intro nb10 i_1 bb10 b10 gb10
   unfold fL at b10
   try dsimp only at b10
   obtain ⟨h11,b10⟩|⟨h11,b10⟩:=af b10
   ·obtain ⟨h12,b10⟩|⟨h12,b10⟩:=af b10
    ·obtain ⟨x08,g13,b10⟩:=ab b10
     obtain ⟨h14,h15,h16⟩:=ai g13
     obtain ⟨x09,g17,b10⟩:=ab b10
     obtain ⟨h18,h19,h20⟩:=ai g17
     try simp(config:=cS)only[go_sem,eqF h1,eqT h11,eqT h12,h14,h15,h16,h18,h19,h20]
     refine aT ?_ ?_
     ·obtain ⟨r10,g21,b10⟩:=ab b10
      simp(config:=cS)only[go_sem,eqF h1,eqT h11,eqT h12,h14,h15,h16,h18,h19,h20]
      refine ag (fQ g21) ?_
      obtain ⟨h22,b10⟩|⟨h22,b10⟩:=af b10
      ·obtain ⟨r11,g23,b10⟩:=ab b10
       simp(config:=cS)only[go_sem,eqF h1,eqT h11,eqT h12,h14,h15,h16,h18,h19,h20,eZt h22]
       refine ag (fQ g23) ?_
       obtain ⟨h24,b10⟩|⟨h24,b10⟩:=af b10
       ·obtain ⟨r12,g25,b10⟩:=ab b10
        simp(config:=cS)only[go_sem,eqF h1,eqT h11,eqT h12,h14,h15,h16,h18,h19,h20,eZt h22,eZt h24]
        refine ag (fQ g25) ?_
        obtain ⟨h26,b10⟩|⟨h26,b10⟩:=af b10
        ·cases b10
         simp(config:=cS)only[go_sem,eqF h1,eqT h11,eqT h12,h14,h15,h16,h18,h19,h20,eZt h22,eZt h24,eZt h26]
         refine an gb10 ?_
         simp(config:=cS)only[go_sem,eqF h1,eqT h11,eqT h12,h14,h15,h16,h18,h19,h20,eZt h22,eZt h24,eZt h26]
        ·obtain ⟨h27,b10⟩|⟨h27,b10⟩:=af b10
         ·cases b10
          obtain rfl:=(aj gb10).symm
          try dsimp only at h
          cases h
          simp(config:=cS)only[go_sem,eqF h1,eqT h11,eqT h12,h14,h15,h16,h18,h19,h20,eZt h22,eZt h24,eZf h26,eZt h27]
         ·cases b10
          obtain rfl:=(aj gb10).symm
          try dsimp only at h
          cases h
          simp(config:=cS)only[go_sem,eqF h1,eqT h11,eqT h12,h14,h15,h16,h18,h19,h20,eZt h22,eZt h24,eZf h26,eZf h27]
       ·cases b10
        obtain rfl:=(aj gb10).symm
        try dsimp only at h
        cases h
        simp(config:=cS)only[go_sem,eqF h1,eqT h11,eqT h12,h14,h15,h16,h18,h19,h20,eZt h22,eZf h24]
      ·obtain ⟨h31,b10⟩|⟨h31,b10⟩:=af b10
       ·cases b10
        obtain rfl:=(aj gb10).symm
        try dsimp only at h
        cases h
        simp(config:=cS)only[go_sem,eqF h1,eqT h11,eqT h12,h14,h15,h16,h18,h19,h20,eZf h22,eZt h31]
       ·cases b10
        obtain rfl:=(aj gb10).symm
        try dsimp only at h
        cases h
        simp(config:=cS)only[go_sem,eqF h1,eqT h11,eqT h12,h14,h15,h16,h18,h19,h20,eZf h22,eZf h31]
     ·obtain ⟨r13,g34,b10⟩:=ab b10
      simp(config:=cS)only[go_sem,eqF h1,eqT h11,eqT h12,h14,h15,h16,h18,h19,h20]
      refine ag (fQ g34) ?_
      obtain ⟨h35,b10⟩|⟨h35,b10⟩:=af b10
      ·obtain ⟨r14,g36,b10⟩:=ab b10
       simp(config:=cS)only[go_sem,eqF h1,eqT h11,eqT h12,h14,h15,h16,h18,h19,h20,eZt h35]
       refine ag (fQ g36) ?_
       obtain ⟨h37,b10⟩|⟨h37,b10⟩:=af b10
       ·obtain ⟨r15,g38,b10⟩:=ab b10
        simp(config:=cS)only[go_sem,eqF h1,eqT h11,eqT h12,h14,h15,h16,h18,h19,h20,eZt h35,eZt h37]
        refine ag (fQ g38) ?_
        obtain ⟨h39,b10⟩|⟨h39,b10⟩:=af b10
        ·cases b10
         simp(config:=cS)only[go_sem,eqF h1,eqT h11,eqT h12,h14,h15,h16,h18,h19,h20,eZt h35,eZt h37,eZt h39]
         refine an gb10 ?_
         simp(config:=cS)only[go_sem,eqF h1,eqT h11,eqT h12,h14,h15,h16,h18,h19,h20,eZt h35,eZt h37,eZt h39]
        ·obtain ⟨h40,b10⟩|⟨h40,b10⟩:=af b10
         ·cases b10
          obtain rfl:=(aj gb10).symm
          try dsimp only at h
          cases h
          simp(config:=cS)only[go_sem,eqF h1,eqT h11,eqT h12,h14,h15,h16,h18,h19,h20,eZt h35,eZt h37,eZf h39,eZt h40]
         ·cases b10
          obtain rfl:=(aj gb10).symm
          try dsimp only at h
          cases h
          simp(config:=cS)only[go_sem,eqF h1,eqT h11,eqT h12,h14,h15,h16,h18,h19,h20,eZt h35,eZt h37,eZf h39,eZf h40]
       ·cases b10
        obtain rfl:=(aj gb10).symm
        try dsimp only at h
        cases h
        simp(config:=cS)only[go_sem,eqF h1,eqT h11,eqT h12,h14,h15,h16,h18,h19,h20,eZt h35,eZf h37]
      ·obtain ⟨h44,b10⟩|⟨h44,b10⟩:=af b10
       ·cases b10
        obtain rfl:=(aj gb10).symm
        try dsimp only at h
        cases h
        simp(config:=cS)only[go_sem,eqF h1,eqT h11,eqT h12,h14,h15,h16,h18,h19,h20,eZf h35,eZt h44]
       ·cases b10
        obtain rfl:=(aj gb10).symm
        try dsimp only at h
        cases h
        simp(config:=cS)only[go_sem,eqF h1,eqT h11,eqT h12,h14,h15,h16,h18,h19,h20,eZf h35,eZf h44]
    ·cases b10
     obtain rfl:=(aj gb10).symm
     try dsimp only at h
     obtain ⟨h48,h⟩|⟨h48,h⟩:=af h
     ·obtain ⟨h49,h⟩|⟨h49,h⟩:=af h
      ·obtain ⟨r16,g50,h⟩:=ab h
       simp(config:=cS)only[go_sem,eqF h1,eqT h11,eqF h12,eZt h48,eZt h49]
       refine ag (ir g50) ?_
       obtain ⟨h51,h⟩|⟨h51,h⟩:=af h
       ·obtain ⟨r17,g52,h⟩:=ab h
        simp(config:=cS)only[go_sem,eqF h1,eqT h11,eqF h12,eZt h48,eZt h49,eZt h51]
        refine ag (ir g52) ?_
        cases h
        simp(config:=cS)only[go_sem,eqF h1,eqT h11,eqF h12,eZt h48,eZt h49,eZt h51]
       ·cases h
        simp(config:=cS)only[go_sem,eqF h1,eqT h11,eqF h12,eZt h48,eZt h49,eZf h51]
      ·cases h
       simp(config:=cS)only[go_sem,eqF h1,eqT h11,eqF h12,eZt h48,eZf h49]
     ·cases h
      simp(config:=cS)only[go_sem,eqF h1,eqT h11,eqF h12,eZf h48]
   ·cases b10
    obtain rfl:=(aj gb10).symm
    try dsimp only at h
    obtain ⟨h54,h⟩|⟨h54,h⟩:=af h
    ·obtain ⟨h55,h⟩|⟨h55,h⟩:=af h
     ·obtain ⟨r18,g56,h⟩:=ab h
      simp(config:=cS)only[go_sem,eqF h1,eqF h11,eZt h54,eZt h55]
      refine ag (ir g56) ?_
      obtain ⟨h57,h⟩|⟨h57,h⟩:=af h
      ·obtain ⟨r19,g58,h⟩:=ab h
       simp(config:=cS)only[go_sem,eqF h1,eqF h11,eZt h54,eZt h55,eZt h57]
       refine ag (ir g58) ?_
       cases h
       simp(config:=cS)only[go_sem,eqF h1,eqF h11,eZt h54,eZt h55,eZt h57]
      ·cases h
       simp(config:=cS)only[go_sem,eqF h1,eqF h11,eZt h54,eZt h55,eZf h57]
     ·cases h
      simp(config:=cS)only[go_sem,eqF h1,eqF h11,eZt h54,eZf h55]
    ·cases h
     simp(config:=cS)only[go_sem,eqF h1,eqF h11,eZf h54]
end Go.Proofs.QA
