/- Functions. -/
import Derived.Test.YtghfphjfkdbpjaaGreatDFK2
set_option linter.all false
set_option maxRecDepth 100000
set_option maxHeartbeats 4000000
namespace Go.Proofs.QD
open Go
def re (a:List Int):(Int × Int)→St
 | (b,i)=>⟨[(0,.sl (ae (eK .u8) a)),(3,.lit (.int .i64 b)),(4,.lit (.int .i64 i))],[],2⟩
attribute [go_sem] re
attribute [go_sem] Tryz.ntmps55 Tryz.results55
theorem wT {code:List Int}{res:GL01Cur}(h:jW code=some res):am Tryz.prog 55 [.sl (ae (eK .u8) code)] [] (.ptr 20000 1 0 0) [(20000,1,.var [.sl (ae (eK .u8) res.b),.lit (.int .i64 res.i),.lit (.int .i64 res.h)])]:=by
 refine ai (ra:=[]) (md:=mdT) hT (hi:=hi00) Tryz.func55 rfl rfl (by decide +kernel) (by simp) ?_
 unfold jW at h
 obtain ⟨q02,l1,h⟩:=ab h
 simp(config:=cS)only[go_sem]
 refine al (m1:=.mk) (m2:=.mk) [.nf [0,3,4] []] (re code) l1 ?_ ?_
 ·simp(config:=cS)only[go_sem]
 ·intro nb2 sb2 bb2 b2 gb2
  obtain ⟨v3_1,i_1⟩:=sb2
  unfold jv at b2
  try dsimp only at b2
  obtain ⟨h3,b2⟩|⟨h3,b2⟩:=af b2
  ·obtain ⟨h4,b2⟩|⟨h4,b2⟩:=af b2
   ·obtain ⟨x01,g5,b2⟩:=ab b2
    obtain ⟨h6,h7,h8⟩:=aj g5
    cases b2
    simp(config:=cS)only[go_sem,eqT h3,eqT h4,h6,h7,h8]
    refine aq gb2 ?_
    simp(config:=cS)only[go_sem]
   ·cases b2
    obtain rfl:=(ak gb2).symm
    try dsimp only at h
    cases h
    simp(config:=cS)only[go_sem,eqT h3,eqF h4]
  ·cases b2
   obtain rfl:=(ak gb2).symm
   try dsimp only at h
   cases h
   simp(config:=cS)only[go_sem,eqF h3]
@[go_sem] def hi77_4:DT:=.i2 0 (.i2 1 (.i2 2 (.i2 3 (.i2 4 (.i2 5 (.i2 6 (.i2 7 (.i2 8 (.i2 9 (.i2 10 (.i2 11 (.i2 12 (.i2 13 (.i2 14 .nil))))))))))))))
@[go_sem] def hi77_3:DT:=.i2 0 (.i2 1 (.i2 2 (.i2 3 (.i2 4 (.i2 5 (.i2 6 (.i2 7 (.i2 8 (.i2 9 .nil)))))))))
@[go_sem] def hi77_2:DT:=.i2 0 (.i2 1 (.i2 2 (.i2 3 (.i2 4 (.i2 5 (.i2 6 (.i2 7 (.i2 8 (.i2 9 (.i2 10 (.i2 11 (.i2 12 .nil))))))))))))
def hi77:Hint where
 acts:=fun _=>[]
 draws:=fun
  | 2=>⟨hi77_2,[[],[0],[0,1],[0,1,2],[0,1,2,3],[],[5],[5,6],[5,6,7],[5,6,7,8],.range 10,.range 11,.range 12],.range 13⟩
  | 3=>⟨hi77_3,[[],[0],[0,1],[0,1,2],[],[4],[4,5],[4,5,6],[4,5,6,7],.range 9],.range 10⟩
  | 4=>⟨hi77_4,[[],[],[1],[1,2],[1,2,3],[],[5],[5,6],[5,6,7],[1,2,3,4,5,6,7,8],[1,2,3,4,5,6,7,8,9],[1,2,3,4,5,6,7,8,9,10],.range 12,.range 13,.range 14],.range 15⟩
  | _=>⟨.nil,[],[]⟩
theorem Qc (i:Nat):hi77.acts i=[]:=rfl
theorem Qd (i:Nat):hi77.views i=none:=rfl
attribute [go_sem] Qc Qd Tryz.ntmps77 Tryz.results77
@[go_sem] theorem SB:(hi77.draws 2).order=hi77_2:=rfl
@[go_sem] theorem SC:(hi77.draws 3).order=hi77_3:=rfl
@[go_sem] theorem SD:(hi77.draws 4).order=hi77_4:=rfl
theorem ep {v0:GL01Cur}{res:Int × GL01Cur}(h:bS v0=some res):am Tryz.prog 77 [.ptr 10000 0 0 0] [(10000,0,.var [.sl (ae (eK .u8) v0.b),.lit (.int .i64 v0.i),.lit (.int .i64 v0.h)])] (.lit (.int .i64 res.1)) [(10000,0,.var [.sl (ae (eK .u8) res.2.b),.lit (.int .i64 res.2.i),.lit (.int .i64 res.2.h)])]:=by
 refine ai (ra:=[]) (md:=mdT) hT (hi:=hi77) Tryz.func77 rfl rfl (by decide +kernel) (by simp) ?_
 unfold bS at h
 obtain ⟨h1,h⟩|⟨h1,h⟩:=af h
 ·obtain ⟨x01,g2,h⟩:=ab h
  obtain ⟨h3,h4,h5⟩:=aj g2
  cases h
  simp(config:=cS)only[go_sem,eqT h1,h3,h4,h5]
 ·cases h
  simp(config:=cS)only[go_sem,eqF h1]
attribute [go_sem] Tryz.ntmps149 Tryz.results149
theorem aH {v0:GL01Cur}{n:Int}{res:Int × GL01Cur}(h:aF v0 n=some res):am Tryz.prog 149 [.ptr 10000 0 0 0,.lit (.int .i64 n)] [(10000,0,.var [.sl (ae (eK .u8) v0.b),.lit (.int .i64 v0.i),.lit (.int .i64 v0.h)])] (.lit (.int .i64 res.1)) [(10000,0,.var [.sl (ae (eK .u8) res.2.b),.lit (.int .i64 res.2.i),.lit (.int .i64 res.2.h)])]:=by
 refine ai (ra:=[]) (md:=mdT) hT (hi:=hi00) Tryz.func149 rfl rfl (by decide +kernel) (by simp) ?_
 unfold aF at h
 obtain ⟨h1,h⟩|⟨h1,h⟩:=af h
 ·cases h
  simp(config:=cS)only[go_sem,eqT h1]
 ·obtain ⟨h2,h⟩|⟨h2,h⟩:=af h
  ·obtain ⟨r01,g3,h⟩:=ab h
   simp(config:=cS)only[go_sem,eqF h1,eqT h2]
   refine ag (ep g3) ?_
   obtain ⟨h4,h⟩:=ah h
   cases h
   simp(config:=cS)only[go_sem,eqF h4]
  ·obtain ⟨r02,g5,h⟩:=ab h
   simp(config:=cS)only[go_sem,eqF h1,eqF h2]
   refine ag (ep g5) ?_
   obtain ⟨r03,g6,h⟩:=ab h
   simp(config:=cS)only[go_sem]
   refine ag (ep g6) ?_
   obtain ⟨r04,g7,h⟩:=ab h
   simp(config:=cS)only[go_sem]
   refine ag (ep g7) ?_
   obtain ⟨r05,g8,h⟩:=ab h
   simp(config:=cS)only[go_sem]
   refine ag (ep g8) ?_
   obtain ⟨h9,h⟩:=ah h
   cases h
   simp(config:=cS)only[go_sem,eqF h9]
attribute [go_sem] Tryz.ntmps124 Tryz.results124
theorem li {v0:GL01Cur}{n:Int}{res:Bool × GL01Cur}(h:du v0 n=some res):am Tryz.prog 124 [.ptr 10000 0 0 0,.lit (.int .i64 n)] [(10000,0,.var [.sl (ae (eK .u8) v0.b),.lit (.int .i64 v0.i),.lit (.int .i64 v0.h)])] (.lit (.bool res.1)) [(10000,0,.var [.sl (ae (eK .u8) res.2.b),.lit (.int .i64 res.2.i),.lit (.int .i64 res.2.h)])]:=by
 refine ai (ra:=[]) (md:=mdT) hT (hi:=hi00) Tryz.func124 rfl rfl (by decide +kernel) (by simp) ?_
 unfold du at h
 obtain ⟨r01,g1,h⟩:=ab h
 simp(config:=cS)only[go_sem]
 refine ag (aH g1) ?_
 cases h
 simp(config:=cS)only[go_sem]
def nV (f:Int)(a:List GNode):(Int × (List GTie) × (List Int) × Int × Int)→St
 | (i,b,c,d,e)=>⟨[(0,.ptr 10000 0 0 0),(2,.ptr 128 1 0 0),(3,.ptr 192 1 0 0),(5,.lit (.int .i64 i))],[(10000,0,.var [.sl (ae (eK .u8) c),.lit (.int .i64 d),.lit (.int .i64 e)]),(128,1,.var [.lit (.slice none 0 0),.lit (.slice none 0 0),.lit (.int .i64 0)]),(192,1,.var [.ref 1024 1 0 a.length,.ref 1664 1 0 b.length,.lit (.int .i64 f)]),(1024,1,.row true (ae GNode.encO a)),(1664,1,.row true (ae GTie.enc b))],2⟩
attribute [go_sem] nV
@[go_sem] def hi125_13:DT:=.i1 0 (.i1 1 (.i2 2 (.i2 3 (.i2 4 (.i0 5 [0,1] (.i2 6 (.i2 7 (.i0 8 [0,1] (.i2 9 (.i2 10 (.i2 11 .nil)))))))))))
@[go_sem] def hi125_9:DT:=.i1 0 (.i1 1 (.i2 2 (.i2 4 (.i2 5 (.i2 6 (.i2 7 (.i2 8 (.i0 3 [0,1] (.i0 9 [0,1] (.i2 10 (.i2 11 (.i0 12 [0,1] (.i2 13 (.i2 14 (.i2 15 .nil)))))))))))))))
def AF:Hint where
 acts:=fun _=>[]
 draws:=fun
  | 9=>⟨hi125_9,[[],[0],[],[2],[],[],[],[6],[],[2,3,8],[2,3,6,7,8,9],[2,3,4,5,6,7,8,9,10],[2,3,4,5,6,7,8,9,10,11],.range 13,.range 14,.range 15],.range 16⟩
  | 13=>⟨hi125_13,[[],[0],[],[],[],[4],[3,4,5],[2,3,4,5,6],[2,3,4,5,6,7],.range 9,.range 10,.range 11],.range 12⟩
  | _=>⟨.nil,[],[]⟩
theorem Np (i:Nat):AF.acts i=[]:=rfl
theorem Nq (i:Nat):AF.views i=none:=rfl
attribute [go_sem] Np Nq Tryz.ntmps125 Tryz.results125
@[go_sem] theorem Rq:(AF.draws 9).order=hi125_9:=rfl
@[go_sem] theorem Rb:(AF.draws 13).order=hi125_13:=rfl
theorem zr {v0:GL01Cur}{res:GShow × GL01Cur}(h:jw v0=some res):am Tryz.prog 125 [.ptr 10000 0 0 0] [(10000,0,.var [.sl (ae (eK .u8) v0.b),.lit (.int .i64 v0.i),.lit (.int .i64 v0.h)])] (.agg [.ref 20000 1 0 res.1.nodes.length,.ref 20001 1 0 res.1.ties.length,.lit (.int .i64 res.1.horizon)]) [(10000,0,.var [.sl (ae (eK .u8) res.2.b),.lit (.int .i64 res.2.i),.lit (.int .i64 res.2.h)]),(20000,1,.row true (ae GNode.encO res.1.nodes)),(20001,1,.row true (ae GTie.enc res.1.ties))]:=by
 refine ai (ra:=[.homeCell 128 0,.homeCell 128 1]) (md:=mdT) hT (hi:=AF) Tryz.func125 rfl rfl (by decide +kernel) (by simp) ?_
 unfold jw at h
 obtain ⟨r01,g1,h⟩:=ab h
 simp(config:=cS)only[go_sem]
 refine ag (aH g1) ?_
 obtain ⟨r02,g2,h⟩:=ab h
 simp(config:=cS)only[go_sem]
 refine ag (aH g2) ?_
 obtain ⟨r03,g3,h⟩:=ab h
 simp(config:=cS)only[go_sem]
 refine ag (aH g3) ?_
 obtain ⟨q10,l4,h⟩:=ab h
 simp(config:=cS)only[go_sem]
 refine al (m1:=.mk) (m2:=.mk) [.nf [0,2,3,5] [10000,128,192,1024,1664]] (nV (IntKind.wrap .i64 (4+r01.1)) ([(GNode.mk (ByteArray.mk #[103,111]) ([]) 0),(GNode.mk (ByteArray.mk #[97]) ([]) 1),(GNode.mk (ByteArray.mk #[98]) ([1]) 0),(GNode.mk (ByteArray.mk #[99]) ([(-1)]) 0)])) l4 ?_ ?_
 ·simp(config:=cS)only[go_sem]
 ·intro nb5 sb5 bb5 b5 gb5
  obtain ⟨i_1,h1664_1,v0_0_1,v0_1_1,v0_2_1⟩:=sb5
  unfold fX at b5
  try dsimp only at b5
  obtain ⟨h6,b5⟩|⟨h6,b5⟩:=af b5
  ·obtain ⟨r04,g7,b5⟩:=ab b5
   simp(config:=cS)only[go_sem,eqT h6]
   refine ag (aH g7) ?_
   obtain ⟨r05,g8,b5⟩:=ab b5
   simp(config:=cS)only[go_sem]
   refine ag (aH g8) ?_
   obtain ⟨r06,g9,b5⟩:=ab b5
   simp(config:=cS)only[go_sem]
   refine ag (aH g9) ?_
   obtain ⟨h10,b5⟩:=ah b5
   obtain ⟨h11,b5⟩:=ah b5
   cases b5
   simp(config:=cS)only[go_sem,eqT h10,eqT h11]
   refine aq gb5 ?_
   simp(config:=cS)only[go_sem]
  ·cases b5
   obtain rfl:=(ak gb5).symm
   try dsimp only at h
   obtain ⟨r07,g13,h⟩:=ab h
   simp(config:=cS)only[go_sem,eqF h6]
   refine ag (li g13) ?_
   obtain ⟨h14,h⟩|⟨h14,h⟩:=af h
   ·obtain ⟨r08,g15,h⟩:=ab h
    simp(config:=cS)only[go_sem,eZt h14]
    refine ag (aH g15) ?_
    obtain ⟨r09,g16,h⟩:=ab h
    simp(config:=cS)only[go_sem]
    refine ag (aH g16) ?_
    obtain ⟨h17,h⟩:=ah h
    obtain ⟨h18,h⟩:=ah h
    cases h
    simp(config:=cS)only[go_sem,eqT h17,eqT h18]
   ·cases h
    simp(config:=cS)only[go_sem,eZf h14]
attribute [go_sem] Tryz.ntmps203 Tryz.results203
theorem vP {i:Int}{res:ByteArray}(h:jk i=some res):am Tryz.prog 203 [.lit (.int .i64 i)] [] (.lit (.string res)) []:=by
 refine ai (ra:=[]) (md:=mdT) hT (hi:=hi00) Tryz.func203 rfl rfl (by decide +kernel) (by simp) ?_
 unfold jk at h
 obtain ⟨x01,g1,h⟩:=ab h
 obtain ⟨h2,h3,h4⟩:=aj g1
 simp only [List.length_cons,List.length_nil,Nat.zero_add,Nat.reduceAdd] at h4
 cases h
 simp(config:=cS)only[go_sem,h2,h3,h4]
def qi (m f:Int)(a:List GNode):(Int × (List Int) × Int × Int × (List GTie))→St
 | (k,c,d,e,b)=>⟨[(0,.ptr 10000 0 0 0),(3,.ptr 192 1 0 0),(4,.ptr 256 1 0 0),(5,.lit (.int .i64 m)),(6,.lit (.int .i64 k))],[(10000,0,.var [.sl (ae (eK .u8) c),.lit (.int .i64 d),.lit (.int .i64 e)]),(192,1,.var [.ref 10001 0 0 a.length,.ref 10002 1 0 b.length,.lit (.int .i64 f)]),(10001,0,.row true (ae GNode.encO a)),(10002,1,.row true (ae GTie.enc b)),(256,1,.var [.lit (.slice none 0 0),.lit (.slice none 0 0),.lit (.int .i64 0)])],2⟩
attribute [go_sem] qi
@[go_sem] def hi204_7:DT:=.i1 0 (.i1 1 (.i2 2 (.i2 3 (.i2 4 (.i2 5 (.i2 6 (.i2 7 (.i2 10 (.i2 12 (.i2 13 (.i2 14 (.i2 15 (.i0 8 [0,1] (.i2 9 (.i2 11 (.i0 16 [0,1] (.i2 17 (.i2 18 (.i0 19 [0,1] (.i2 20 (.i2 21 (.i2 22 .nil))))))))))))))))))))))
def Eg:Hint where
 acts:=fun _=>[]
 draws:=fun
  | 7=>⟨hi204_7,[[],[0],[],[],[3],[],[],[6],[5,6,7],[3,4,5,6,7,8],[],[3,4,5,6,7,8,9,10],[],[],[13],[],[5,6,7,8,15],[5,6,7,8,13,14,15,16],[2,3,4,5,6,7,8,9,10,11,12,13,14,15,16,17],[2,3,4,5,6,7,8,9,10,11,12,13,14,15,16,17,18],.range 20,.range 21,.range 22],.range 23⟩
  | _=>⟨.nil,[],[]⟩
theorem Nr (i:Nat):Eg.acts i=[]:=rfl
theorem Ns (i:Nat):Eg.views i=none:=rfl
attribute [go_sem] Nr Ns Tryz.ntmps204 Tryz.results204
@[go_sem] theorem Rr:(Eg.draws 7).order=hi204_7:=rfl
theorem BX {v0:GL01Cur}{s:GShow}{res:GShow × GL01Cur × (List GNode)}(h:lq v0 s=some res):am Tryz.prog 204 [.ptr 10000 0 0 0,.agg [.ref 10001 0 0 s.nodes.length,.ref 10002 0 0 s.ties.length,.lit (.int .i64 s.horizon)]] [(10000,0,.var [.sl (ae (eK .u8) v0.b),.lit (.int .i64 v0.i),.lit (.int .i64 v0.h)]),(10001,0,.row true (ae GNode.encO s.nodes)),(10002,0,.row true (ae GTie.enc s.ties))] (.agg [.ref 10001 0 0 res.2.2.length,.ref 20000 1 0 res.1.ties.length,.lit (.int .i64 res.1.horizon)]) [(10000,0,.var [.sl (ae (eK .u8) res.2.1.b),.lit (.int .i64 res.2.1.i),.lit (.int .i64 res.2.1.h)]),(10001,0,.row true (ae GNode.encO res.2.2)),(20000,1,.row true (ae GTie.enc res.1.ties))]:=by
 refine ai (ra:=[.homeCell 256 0,.homeCell 256 1]) (md:=mdT) hT (hi:=Eg) Tryz.func204 rfl rfl (by decide +kernel) (by simp) ?_
 unfold lq at h
 obtain ⟨r01,g1,h⟩:=ab h
 simp(config:=cS)only[go_sem]
 refine ag (aH g1) ?_
 obtain ⟨q06,l2,h⟩:=ab h
 simp(config:=cS)only[go_sem]
 refine al (m1:=.mk) (m2:=.mk) [.nfo [0,3,4,5,6] [10000,192,10001,10002,256] [10002]] (qi ((s.nodes.length:Nat):Int) s.horizon s.nodes) l2 ?_ ?_
 ·simp(config:=cS)only[go_sem]
 ·intro nb3 sb3 bb3 b3 gb3
  obtain ⟨k_1,v0_0_1,v0_1_1,v0_2_1,h10002_1⟩:=sb3
  unfold iD at b3
  try dsimp only at b3
  obtain ⟨h4,b3⟩|⟨h4,b3⟩:=af b3
  ·obtain ⟨r02,g5,b3⟩:=ab b3
   simp(config:=cS)only[go_sem,eqT h4]
   refine ag (aH g5) ?_
   obtain ⟨r03,g6,b3⟩:=ab b3
   simp(config:=cS)only[go_sem]
   refine ag (aH g6) ?_
   obtain ⟨r04,g7,b3⟩:=ab b3
   simp(config:=cS)only[go_sem]
   refine ag (aH g7) ?_
   obtain ⟨h8,b3⟩:=ah b3
   obtain ⟨r05,g9,b3⟩:=ab b3
   simp(config:=cS)only[go_sem,eqF h8]
   refine ag (aH g9) ?_
   obtain ⟨h10,b3⟩:=ah b3
   obtain ⟨h11,b3⟩:=ah b3
   cases b3
   simp(config:=cS)only[go_sem,eqT h10,eqT h11]
   refine aq gb3 ?_
   simp(config:=cS)only[go_sem]
  ·cases b3
   obtain rfl:=(ak gb3).symm
   try dsimp only at h
   cases h
   simp(config:=cS)only[go_sem,eqF h4]
def pt (f:Int):(Int × (List GNode) × (List Int) × Int × Int × (List GTie))→St
 | (n,b,c,d,e,a)=>⟨[(0,.ptr 10000 0 0 0),(2,.ptr 128 1 0 0),(3,.ptr 192 1 0 0),(4,.lit (.int .i64 n))],[(10000,0,.var [.sl (ae (eK .u8) c),.lit (.int .i64 d),.lit (.int .i64 e)]),(128,1,.var [.lit (.slice none 0 0),.lit (.slice none 0 0),.lit (.int .i64 0)]),(192,1,.var [.ref 512 1 0 b.length,.ref 100012289 1 0 a.length,.lit (.int .i64 f)]),(512,1,.row true (ae GNode.encO b)),(100012289,1,.row true (ae GTie.enc a))],2⟩
attribute [go_sem] pt
@[go_sem] def hi126_12:DT:=.i1 0 (.i1 1 (.i2 2 (.i2 3 (.i2 4 (.i2 5 (.i2 6 (.i2 7 (.i0 8 [0,1] (.i2 9 (.i2 10 (.i0 11 [0,1] (.i2 12 (.i2 13 (.i2 14 .nil))))))))))))))
@[go_sem] def hi126_11:DT:=.i1 0 (.i1 1 (.i2 2 (.i2 3 (.i0 4 [0,1] (.i2 5 (.i0 6 [0,1] (.i2 7 (.i2 8 (.i2 9 .nil)))))))))
@[go_sem] def hi126_8:DT:=.i1 0 (.i1 1 (.i2 2 (.i2 3 (.i2 5 (.i2 6 (.i2 7 (.i2 8 (.i0 4 [0,1] (.i0 9 [0,1] (.i2 10 (.i2 11 (.i0 12 [0,1] (.i2 13 (.i2 14 (.i2 15 .nil)))))))))))))))
@[go_sem] def hi126_7:DT:=.i1 0 (.i1 1 (.i2 2 (.i0 3 [0,1] (.i2 4 (.i0 5 [0,1] (.i2 6 (.i2 7 (.i2 8 .nil))))))))
def wA:Hint where
 acts:=fun _=>[]
 draws:=fun
  | 7=>⟨hi126_7,[[],[0],[],[2],[2,3],[2,3,4],.range 6,.range 7,.range 8],.range 9⟩
  | 8=>⟨hi126_8,[[],[0],[],[],[2,3],[],[],[],[],[2,3,4,8],[2,3,4,7,8,9],[2,3,4,5,6,7,8,9,10],[2,3,4,5,6,7,8,9,10,11],.range 13,.range 14,.range 15],.range 16⟩
  | 11=>⟨hi126_11,[[],[0],[],[2],[2,3],[2,3,4],[2,3,4,5],.range 7,.range 8,.range 9],.range 10⟩
  | 12=>⟨hi126_12,[[],[0],[],[],[3],[],[],[],[7],[6,7,8],[2,3,4,5,6,7,8,9],[2,3,4,5,6,7,8,9,10],.range 12,.range 13,.range 14],.range 15⟩
  | _=>⟨.nil,[],[]⟩
theorem Nt (i:Nat):wA.acts i=[]:=rfl
theorem Nu (i:Nat):wA.views i=none:=rfl
attribute [go_sem] Nt Nu Tryz.ntmps126 Tryz.results126
@[go_sem] theorem Rs:(wA.draws 7).order=hi126_7:=rfl
@[go_sem] theorem Rt:(wA.draws 8).order=hi126_8:=rfl
@[go_sem] theorem Rc:(wA.draws 11).order=hi126_11:=rfl
@[go_sem] theorem Rd:(wA.draws 12).order=hi126_12:=rfl
theorem AG {v0:GL01Cur}{res:GShow × GL01Cur}(h:kg v0=some res):am Tryz.prog 126 [.ptr 10000 0 0 0] [(10000,0,.var [.sl (ae (eK .u8) v0.b),.lit (.int .i64 v0.i),.lit (.int .i64 v0.h)])] (.agg [.ref 20000 1 0 res.1.nodes.length,.ref 20001 1 0 res.1.ties.length,.lit (.int .i64 res.1.horizon)]) [(10000,0,.var [.sl (ae (eK .u8) res.2.b),.lit (.int .i64 res.2.i),.lit (.int .i64 res.2.h)]),(20000,1,.row true (ae GNode.encO res.1.nodes)),(20001,1,.row true (ae GTie.enc res.1.ties))]:=by
 refine ai (ra:=[.homeCell 128 0,.homeCell 128 1]) (md:=mdT) hT (hi:=wA) Tryz.func126 rfl rfl (by decide +kernel) (by simp) ?_
 unfold kg at h
 obtain ⟨r01,g1,h⟩:=ab h
 simp(config:=cS)only[go_sem]
 refine ag (aH g1) ?_
 obtain ⟨r02,g2,h⟩:=ab h
 simp(config:=cS)only[go_sem]
 refine ag (aH g2) ?_
 obtain ⟨q12,l3,h⟩:=ab h
 simp(config:=cS)only[go_sem]
 refine al (m1:=.mk) (m2:=.mk) [.homeCell 192 1,.nf [0,2,3,4] [10000,128,192,512,100012289]] (pt (IntKind.wrap .i64 (4+r01.1))) l3 ?_ ?_
 ·simp(config:=cS)only[go_sem]
 ·intro nb4 sb4 bb4 b4 gb4
  obtain ⟨n_1,h512_1,v0_0_1,v0_1_1,v0_2_1,h100012289_1⟩:=sb4
  unfold hS at b4
  try dsimp only at b4
  obtain ⟨h5,b4⟩|⟨h5,b4⟩:=af b4
  ·obtain ⟨r03,g6,b4⟩:=ab b4
   simp(config:=cS)only[go_sem,eqT h5]
   refine ag (aH g6) ?_
   obtain ⟨r04,g7,b4⟩:=ab b4
   simp(config:=cS)only[go_sem]
   refine ag (vP g7) ?_
   obtain ⟨h8,b4⟩:=ah b4
   obtain ⟨h9,b4⟩:=ah b4
   obtain ⟨r05,g10,b4⟩:=ab b4
   simp(config:=cS)only[go_sem,eqT h8,eqT h9]
   refine ag (aH g10) ?_
   obtain ⟨r06,g11,b4⟩:=ab b4
   simp(config:=cS)only[go_sem]
   refine ag (aH g11) ?_
   obtain ⟨h12,b4⟩:=ah b4
   obtain ⟨h13,b4⟩:=ah b4
   obtain ⟨r07,g14,b4⟩:=ab b4
   simp(config:=cS)only[go_sem,eqT h12,eqT h13]
   refine ag (li g14) ?_
   obtain ⟨h15,b4⟩|⟨h15,b4⟩:=af b4
   ·obtain ⟨h16,b4⟩|⟨h16,b4⟩:=af b4
    ·obtain ⟨r08,g17,b4⟩:=ab b4
     simp(config:=cS)only[go_sem,eZt h15,eqT h16]
     refine ag (aH g17) ?_
     obtain ⟨r09,g18,b4⟩:=ab b4
     simp(config:=cS)only[go_sem]
     refine ag (vP g18) ?_
     obtain ⟨h19,b4⟩:=ah b4
     try simp(config:=cS)only[go_sem] at h19
     obtain ⟨h20,b4⟩:=ah b4
     try simp(config:=cS)only[go_sem] at h20
     obtain ⟨r10,g21,b4⟩:=ab b4
     simp(config:=cS)only[go_sem,eqT h5,eqT h8,eqT h9,eqT h12,eqT h13,eZt h15,eqT h16,eqT h19,eqT h20]
     refine ag (aH g21) ?_
     obtain ⟨h22,b4⟩:=ah b4
     try simp(config:=cS)only[go_sem] at h22
     obtain ⟨h23,b4⟩:=ah b4
     try simp(config:=cS)only[go_sem] at h23
     cases b4
     simp(config:=cS)only[go_sem,eqT h5,eqT h8,eqT h9,eqT h12,eqT h13,eZt h15,eqT h16,eqT h19,eqT h20,eqT h22,eqT h23]
     refine aq gb4 ?_
     simp(config:=cS)only[go_sem]
    ·cases b4
     simp(config:=cS)only[go_sem,eZt h15,eqF h16]
     refine aq gb4 ?_
     simp(config:=cS)only[go_sem]
   ·cases b4
    simp(config:=cS)only[go_sem,eZf h15]
    refine aq gb4 ?_
    simp(config:=cS)only[go_sem]
  ·cases b4
   obtain rfl:=(ak gb4).symm
   try dsimp only at h
   obtain ⟨r11,g25,h⟩:=ab h
   simp(config:=cS)only[go_sem,eqF h5]
   refine ag (BX g25) ?_
   cases h
   simp(config:=cS)only[go_sem]
attribute [go_sem] Tryz.ntmps54 Tryz.results54
theorem BY {v0:GL01Cur}{res:GShow × GL01Cur}(h:lr v0=some res):am Tryz.prog 54 [.ptr 10000 0 0 0] [(10000,0,.var [.sl (ae (eK .u8) v0.b),.lit (.int .i64 v0.i),.lit (.int .i64 v0.h)])] (.agg [.ref 20000 1 0 res.1.nodes.length,.ref 20001 1 0 res.1.ties.length,.lit (.int .i64 res.1.horizon)]) [(10000,0,.var [.sl (ae (eK .u8) res.2.b),.lit (.int .i64 res.2.i),.lit (.int .i64 res.2.h)]),(20000,1,.row true (ae GNode.encO res.1.nodes)),(20001,1,.row true (ae GTie.enc res.1.ties))]:=by
 refine ai (ra:=[.homeCell 128 0,.homeCell 128 1]) (md:=mdT) hT (hi:=hi00) Tryz.func54 rfl rfl (by decide +kernel) (by simp) ?_
 unfold lr at h
 obtain ⟨r01,g1,h⟩:=ab h
 simp(config:=cS)only[go_sem]
 refine ag (li g1) ?_
 obtain ⟨h2,h⟩|⟨h2,h⟩:=af h
 ·obtain ⟨r02,g3,h⟩:=ab h
  simp(config:=cS)only[go_sem,eZt h2]
  refine ag (zr g3) ?_
  cases h
  simp(config:=cS)only[go_sem]
 ·obtain ⟨r03,g4,h⟩:=ab h
  simp(config:=cS)only[go_sem,eZf h2]
  refine ag (AG g4) ?_
  cases h
  simp(config:=cS)only[go_sem]
@[go_sem] def hi96_3:DT:=.i2 0 (.i1 2 (.i2 4 (.i0 1 [2] (.i2 3 (.i2 5 (.i2 6 (.i2 7 .nil)))))))
def hi96:Hint where
 acts:=fun _=>[]
 draws:=fun
  | 3=>⟨hi96_3,[[],[0],[],[0,1,2],[],.range 5,.range 6,.range 7],.range 8⟩
  | _=>⟨.nil,[],[]⟩
theorem Qe (i:Nat):hi96.acts i=[]:=rfl
theorem Qf (i:Nat):hi96.views i=none:=rfl
attribute [go_sem] Qe Qf Tryz.ntmps96 Tryz.results96
@[go_sem] theorem SE:(hi96.draws 3).order=hi96_3:=rfl
theorem BZ {s:GShow}{lazy:Bool}{res:GDesk × Bool}(h:lB s lazy=some res):am Tryz.prog 96 [.agg (GShow.encS s),.lit (.bool lazy)] [] (.tup [.agg [.ref 20000 1 0 res.1.show_.nodes.length,.ref 20001 1 0 res.1.show_.ties.length,.lit (.int .i64 res.1.show_.horizon),.lit (.int .i64 res.1.state.now),.ref 20002 1 0 res.1.state.times.length,.ref 20003 1 0 res.1.state.values.length,.lit (.bool res.1.lazy),.ref 20004 1 0 res.1.log.length],.lit (.bool res.2)]) [(20000,1,.row true (ae GNode.encO res.1.show_.nodes)),(20001,1,.row true (ae GTie.enc res.1.show_.ties)),(20002,1,.row true (ae eI res.1.state.times)),(20003,1,.row true (ae eI res.1.state.values)),(20004,1,.row true (ae GEntry.encO res.1.log))]:=by
 refine ai (ra:=[.homeCell 256 0,.homeCell 256 1,.homeCell 256 4,.homeCell 256 5,.homeCell 256 7]) (md:=mdT) hT (hi:=hi96) Tryz.func96 rfl rfl (by decide +kernel) (by simp) ?_
 unfold lB at h
 obtain ⟨r01,g1,h⟩:=ab h
 simp(config:=cS)only[go_sem]
 refine ag (lY g1) ?_
 obtain ⟨h2,h⟩|⟨h2,h⟩:=af h
 ·obtain ⟨r02,g3,h⟩:=ab h
  simp(config:=cS)only[go_sem,eZt h2]
  refine ag (rM g3) ?_
  obtain ⟨r03,g4,h⟩:=ab h
  simp(config:=cS)only[go_sem]
  refine ag (th g4) ?_
  cases h
  simp(config:=cS)only[go_sem]
 ·cases h
  simp(config:=cS)only[go_sem,eZf h2]
def nW  : (Int × (List Int) × (List Int) × Int × Int)→St
 | (p,v,a,b,c)=>⟨[(0,.ptr 10000 0 0 0),(3,.ref 320 1 0 v.length),(4,.lit (.int .i64 p))],[(10000,0,.var [.sl (ae (eK .u8) a),.lit (.int .i64 b),.lit (.int .i64 c)]),(320,1,.row true (ae eI v))],2⟩
attribute [go_sem] nW
attribute [go_sem] Tryz.ntmps151 Tryz.results151
theorem zs {v0:GL01Cur}{res:(List Int) × GL01Cur}(h:jF v0=some res):am Tryz.prog 151 [.ptr 10000 0 0 0] [(10000,0,.var [.sl (ae (eK .u8) v0.b),.lit (.int .i64 v0.i),.lit (.int .i64 v0.h)])] (.ref 20000 1 0 res.1.length) [(10000,0,.var [.sl (ae (eK .u8) res.2.b),.lit (.int .i64 res.2.i),.lit (.int .i64 res.2.h)]),(20000,1,.row true (ae eI res.1))]:=by
 refine ai (ra:=[.home 2]) (md:=mdT) hT (hi:=hi00) Tryz.func151 rfl rfl (by decide +kernel) (by simp) ?_
 unfold jF at h
 obtain ⟨q04,l1,h⟩:=ab h
 simp(config:=cS)only[go_sem]
 refine al (m1:=.mk) (m2:=.mk) [.nf [0,3,4] [10000,320]] (nW) l1 ?_ ?_
 ·simp(config:=cS)only[go_sem]
 ·intro nb2 sb2 bb2 b2 gb2
  obtain ⟨p_1,v_1,v0_0_1,v0_1_1,v0_2_1⟩:=sb2
  unfold gi at b2
  try dsimp only at b2
  obtain ⟨h3,b2⟩|⟨h3,b2⟩:=af b2
  ·obtain ⟨r01,g4,b2⟩:=ab b2
   simp(config:=cS)only[go_sem,eqT h3]
   refine ag (aH g4) ?_
   obtain ⟨h5,b2⟩:=ah b2
   obtain ⟨h6,b2⟩:=ah b2
   cases b2
   simp(config:=cS)only[go_sem,eqT h5,eqT h6]
   refine aq gb2 ?_
   simp(config:=cS)only[go_sem]
  ·cases b2
   obtain rfl:=(ak gb2).symm
   try dsimp only at h
   obtain ⟨r02,g8,h⟩:=ab h
   simp(config:=cS)only[go_sem,eqF h3]
   refine ag (li g8) ?_
   obtain ⟨h9,h⟩|⟨h9,h⟩:=af h
   ·obtain ⟨x03,g10,h⟩:=ab h
    obtain ⟨h12,h13⟩:=cK (k:=0) g10
    cases h
    simp(config:=cS)only[go_sem,eZt h9,h12,h13]
   ·cases h
    simp(config:=cS)only[go_sem,eZf h9]
def qj  : (Int × Int × Int × Bool × (List GNode) × (List GTie) × (List Int) × (List Int) × (List GEntry) × (List Int) × Int × Int)→St
 | (n,i,j,k,a,b,c,d,e,f,g,h)=>⟨[(0,.ptr 10000 0 0 0),(2,.ptr 128 1 0 0),(3,.ptr 192 1 0 0),(5,.lit (.int .i64 n))],[(10000,0,.var [.sl (ae (eK .u8) f),.lit (.int .i64 g),.lit (.int .i64 h)]),(128,1,.var [.lit (.slice none 0 0),.lit (.slice none 0 0),.lit (.int .i64 0),.lit (.int .i64 0),.lit (.slice none 0 0),.lit (.slice none 0 0),.lit (.bool false),.lit (.slice none 0 0)]),(192,1,.var [.ref 768 1 0 a.length,.ref 769 1 0 b.length,.lit (.int .i64 i),.lit (.int .i64 j),.ref 770 1 0 c.length,.ref 771 1 0 d.length,.lit (.bool k),.ref 772 1 0 e.length]),(768,1,.row true (ae GNode.encO a)),(769,1,.row true (ae GTie.enc b)),(770,1,.row true (ae eI c)),(771,1,.row true (ae eI d)),(772,1,.row true (ae GEntry.encO e))],2⟩
attribute [go_sem] qj
@[go_sem] def hi67_8:DT:=.i1 0 (.i2 1 (.i2 2 (.i2 3 (.i2 4 (.i2 8 (.i0 5 [0] (.i1 6 (.i1 7 (.i0 9 [0,6,7] (.i2 10 (.i2 11 (.i2 12 (.i2 13 (.i2 14 (.i2 15 .nil)))))))))))))))
def hi67:Hint where
 acts:=fun i=>match i with | 8=>[.freeze [1600]] | _=>[]
 draws:=fun
  | 8=>⟨hi67_8,[[],[],[],[],[3],[2,3,4],[1,2,3,4,5],[1,2,3,4,5,6],[],[2,3,4,5,8],.range 10,.range 11,.range 12,.range 12,.range 12,.range 13],[0,1,2,3,4,5,6,7,8,9,10,11,12,14,15,13]⟩
  | _=>⟨.nil,[],[]⟩
@[go_sem] theorem SF:hi67.acts 0=[]:=rfl
@[go_sem] theorem SG:hi67.acts 1=[]:=rfl
@[go_sem] theorem SH:hi67.acts 2=[]:=rfl
@[go_sem] theorem SI:hi67.acts 3=[]:=rfl
@[go_sem] theorem SJ:hi67.acts 5=[]:=rfl
@[go_sem] theorem SK:hi67.acts 6=[]:=rfl
@[go_sem] theorem SL:hi67.acts 7=[]:=rfl
@[go_sem] theorem SM:hi67.acts 8=[.freeze [1600]]:=rfl
@[go_sem] theorem SN:hi67.acts 4=[]:=rfl
@[go_sem] theorem SO:hi67.acts 9=[]:=rfl
theorem Qg (i:Nat):hi67.views i=none:=rfl
attribute [go_sem] Qg Tryz.ntmps67 Tryz.results67
@[go_sem] theorem SP:(hi67.draws 8).order=hi67_8:=rfl
theorem Ca {v0:GL01Cur}{res:GDesk × GL01Cur}(h:nu v0=some res):am Tryz.prog 67 [.ptr 10000 0 0 0] [(10000,0,.var [.sl (ae (eK .u8) v0.b),.lit (.int .i64 v0.i),.lit (.int .i64 v0.h)])] (.agg [.ref 20000 1 0 res.1.show_.nodes.length,.ref 20001 1 0 res.1.show_.ties.length,.lit (.int .i64 res.1.show_.horizon),.lit (.int .i64 res.1.state.now),.ref 20002 1 0 res.1.state.times.length,.ref 20003 1 0 res.1.state.values.length,.lit (.bool res.1.lazy),.ref 20004 1 0 res.1.log.length]) [(10000,0,.var [.sl (ae (eK .u8) res.2.b),.lit (.int .i64 res.2.i),.lit (.int .i64 res.2.h)]),(20000,1,.row true (ae GNode.encO res.1.show_.nodes)),(20001,1,.row true (ae GTie.enc res.1.show_.ties)),(20002,1,.row true (ae eI res.1.state.times)),(20003,1,.row true (ae eI res.1.state.values)),(20004,1,.row true (ae GEntry.encO res.1.log))]:=by
 refine ai (ra:=[.homeCell 128 0,.homeCell 128 1,.homeCell 128 4,.homeCell 128 5,.homeCell 128 7]) (md:=mdT) hT (hi:=hi67) Tryz.func67 rfl rfl (by decide +kernel) (by simp) ?_
 unfold nu at h
 obtain ⟨r01,g1,h⟩:=ab h
 simp(config:=cS)only[go_sem]
 refine ag (BY g1) ?_
 obtain ⟨r02,g2,h⟩:=ab h
 simp(config:=cS)only[go_sem]
 refine ag (li g2) ?_
 obtain ⟨r03,g3,h⟩:=ab h
 simp(config:=cS)only[go_sem]
 refine ag (BZ g3) ?_
 obtain ⟨r04,g4,h⟩:=ab h
 simp(config:=cS)only[go_sem]
 refine ag (aH g4) ?_
 obtain ⟨q10,l5,h⟩:=ab h
 simp(config:=cS)only[go_sem]
 refine al (m1:=.mk) (m2:=.mk) [.nfp [0,2,3,5] [(10000,10000),(128,128),(192,192),(2624,768),(768,768),(2625,769),(769,769),(2626,770),(770,770),(2627,771),(771,771),(2628,772),(772,772)] []] (qj) l5 ?_ ?_
 ·simp(config:=cS)only[go_sem]
 ·intro nb6 sb6 bb6 b6 gb6
  obtain ⟨n_1,d_2_1,d_3_1,d_6_1,h768_1,h769_1,h770_1,h771_1,h772_1,v0_0_1,v0_1_1,v0_2_1⟩:=sb6
  unfold iP at b6
  try dsimp only at b6
  obtain ⟨h7,b6⟩|⟨h7,b6⟩:=af b6
  ·obtain ⟨r05,g8,b6⟩:=ab b6
   simp(config:=cS)only[go_sem,eqT h7]
   refine ag (uk g8) ?_
   obtain ⟨h9,b6⟩|⟨h9,b6⟩:=af b6
   ·cases b6
    obtain rfl:=(ak gb6).symm
    try dsimp only at h
    cases h
    simp(config:=cS)only[go_sem,eqT h7,eqT h9]
   ·obtain ⟨r06,g11,b6⟩:=ab b6
    simp(config:=cS)only[go_sem,eqT h7,eqF h9]
    refine ag (aH g11) ?_
    obtain ⟨x07,g12,b6⟩:=ab b6
    obtain ⟨h13,h14,h15⟩:=aj g12
    obtain ⟨r08,g16,b6⟩:=ab b6
    simp(config:=cS)only[go_sem,eqT h7,eqF h9,h13,h14,h15]
    refine ag (zs g16) ?_
    obtain ⟨r09,g17,b6⟩:=ab b6
    simp(config:=cS)only[go_sem,eqT h7,eqF h9,h13,h14,h15]
    refine ag (AZ g17) ?_
    cases b6
    simp(config:=cS)only[go_sem,eqT h7,eqF h9,h13,h14,h15]
    refine aq gb6 ?_
    simp(config:=cS)only[go_sem,eqT h7,eqF h9,h13,h14,h15]
  ·cases b6
   obtain rfl:=(ak gb6).symm
   try dsimp only at h
   cases h
   simp(config:=cS)only[go_sem,eqF h7]
attribute [go_sem] Tryz.ntmps17 Tryz.results17
theorem AH {code:List Int}{res:GDesk}(h:kE code=some res):am Tryz.prog 17 [.sl (ae (eK .u8) code)] [] (.agg [.ref 20000 1 0 res.show_.nodes.length,.ref 20001 1 0 res.show_.ties.length,.lit (.int .i64 res.show_.horizon),.lit (.int .i64 res.state.now),.ref 20002 1 0 res.state.times.length,.ref 20003 1 0 res.state.values.length,.lit (.bool res.lazy),.ref 20004 1 0 res.log.length]) [(20000,1,.row true (ae GNode.encO res.show_.nodes)),(20001,1,.row true (ae GTie.enc res.show_.ties)),(20002,1,.row true (ae eI res.state.times)),(20003,1,.row true (ae eI res.state.values)),(20004,1,.row true (ae GEntry.encO res.log))]:=by
 refine ai (ra:=[.homeCell 128 0,.homeCell 128 1,.homeCell 128 4,.homeCell 128 5,.homeCell 128 7]) (md:=mdT) hT (hi:=hi00) Tryz.func17 rfl rfl (by decide +kernel) (by simp) ?_
 unfold kE at h
 obtain ⟨r01,g1,h⟩:=ab h
 simp(config:=cS)only[go_sem]
 refine ag (wT g1) ?_
 obtain ⟨r02,g2,h⟩:=ab h
 simp(config:=cS)only[go_sem]
 refine ag (Ca g2) ?_
 cases h
 simp(config:=cS)only[go_sem]
attribute [go_sem] Tryz.ntmps18 Tryz.results18
theorem zt {s:GShow}{v1:GState}{res:List (List Int)}(h:jL s v1=some res):am Tryz.prog 18 [.agg (GShow.encS s),.agg (GState.encS v1)] [] (.ref 20000 1 0 res.length) [(20000,1,.row true (ae (eLO eI) res))]:=by
 refine ai (ra:=[.home 4]) (md:=mdT) hT (hi:=hi00) Tryz.func18 rfl rfl (by decide +kernel) (by simp) ?_
 unfold jL at h
 obtain ⟨r01,g1,h⟩:=ab h
 simp(config:=cS)only[go_sem]
 refine ag (rO g1) ?_
 obtain ⟨h2,h⟩|⟨h2,h⟩:=af h
 ·obtain ⟨r02,g3,h⟩:=ab h
  simp(config:=cS)only[go_sem,eZt h2]
  refine ag (gz g3) ?_
  cases h
  simp(config:=cS)only[go_sem]
 ·cases h
  simp(config:=cS)only[go_sem,eZf h2]
def rf (n:Int):(Int × (List Int) × Int × Int)→St
 | (i,a,b,c)=>⟨[(1,.lit (.int .i64 n)),(5,.ptr 512 1 0 0),(6,.lit (.int .i64 i))],[(512,1,.var [.sl (ae (eK .u8) a),.lit (.int .i64 b),.lit (.int .i64 c)])],2⟩
attribute [go_sem] rf
attribute [go_sem] Tryz.ntmps76 Tryz.results76
theorem Dp {code:List Int}{n:Int}{res:GL01Cur}(h:mb code n=some res):am Tryz.prog 76 [.sl (ae (eK .u8) code),.lit (.int .i64 n)] [] (.ptr 20000 1 0 0) [(20000,1,.var [.sl (ae (eK .u8) res.b),.lit (.int .i64 res.i),.lit (.int .i64 res.h)])]:=by
 refine ai (ra:=[]) (md:=mdT) hT (hi:=hi00) Tryz.func76 rfl rfl (by decide +kernel) (by simp) ?_
 unfold mb at h
 obtain ⟨r01,g1,h⟩:=ab h
 simp(config:=cS)only[go_sem]
 refine ag (wT g1) ?_
 obtain ⟨q03,l2,h⟩:=ab h
 simp(config:=cS)only[go_sem]
 refine al (m1:=.mk) (m2:=.mk) [.nf [1,5,6] [512]] (rf n) l2 ?_ ?_
 ·simp(config:=cS)only[go_sem]
 ·intro nb3 sb3 bb3 b3 gb3
  obtain ⟨i_1,v5_0_1,v5_1_1,v5_2_1⟩:=sb3
  unfold jz at b3
  try dsimp only at b3
  obtain ⟨h4,b3⟩|⟨h4,b3⟩:=af b3
  ·obtain ⟨r02,g5,b3⟩:=ab b3
   simp(config:=cS)only[go_sem,eqT h4]
   refine ag (ep g5) ?_
   cases b3
   simp(config:=cS)only[go_sem]
   refine aq gb3 ?_
   simp(config:=cS)only[go_sem]
  ·cases b3
   obtain rfl:=(ak gb3).symm
   try dsimp only at h
   cases h
   simp(config:=cS)only[go_sem,eqF h4]
attribute [go_sem] Tryz.ntmps22 Tryz.results22
theorem Cc {code:List Int}{n res:Int}(h:lu code n=some res):am Tryz.prog 22 [.sl (ae (eK .u8) code),.lit (.int .i64 n)] [] (.lit (.int .i64 res)) []:=by
 refine ai (ra:=[]) (md:=mdT) hT (hi:=hi00) Tryz.func22 rfl rfl (by decide +kernel) (by simp) ?_
 unfold lu at h
 obtain ⟨r01,g1,h⟩:=ab h
 simp(config:=cS)only[go_sem]
 refine ag (Dp g1) ?_
 obtain ⟨r02,g2,h⟩:=ab h
 simp(config:=cS)only[go_sem]
 refine ag (ep g2) ?_
 obtain ⟨r03,g3,h⟩:=ab h
 simp(config:=cS)only[go_sem]
 refine ag (ep g3) ?_
 cases h
 simp(config:=cS)only[go_sem]
def kd (c:Bool)(a:Nat)(b:List AV):(Int × Int × (List (List Int)))→St
 | (e,f,d)=>⟨[(0,.ref 10000 0 0 d.length),(1,.fn a b),(5,.lit (.int .i64 e)),(6,.lit (.int .i64 f))],[(10000,0,.row c (ae (eLS eI) d))],2⟩
attribute [go_sem] kd
attribute [go_sem] Tryz.ntmps87 Tryz.results87
theorem uh {v0:List (List Int)}{v1:(List Int)→Option Bool}{zb0:Bool}{f_v1:Nat}{k_v1:List AV}(hp_v1:∀ y0 r,v1 y0=some r→am Tryz.prog f_v1 ([.sl (ae eI y0)]++k_v1) [] (.lit (.bool r)) [])(hc_v1:KC k_v1)(hm_v1:∀ a,mdT f_v1 a=⟨[],false⟩)(hk_v1:spf f_v1=false){res:List (List Int)}(h:dj v0 v1=some res):am Tryz.prog 87 [.ref 10000 0 0 v0.length,.fn f_v1 k_v1] [(10000,0,.row zb0 (ae (eLS eI) v0))] (.ref 10000 0 0 res.length) [(10000,0,.row false (ae (eLS eI) res))]:=by
 refine ai (ra:=[.home 4,.trim 4]) (md:=mdT) hT (hi:=hi00) Tryz.func87 rfl rfl (by decide +kernel) (by simp) ?_
 unfold dj at h
 obtain ⟨r01,g1,h⟩:=ab h
 simp(config:=cS)only[go_sem,hc_v1.1,hc_v1.2,hm_v1,hk_v1]
 refine ag (nH hp_v1 hc_v1 hm_v1 hk_v1 g1) ?_
 obtain ⟨h2,h⟩|⟨h2,h⟩:=af h
 ·cases h
  simp(config:=cS)only[go_sem,hc_v1.1,hc_v1.2,hm_v1,hk_v1,eqT h2]
 ·obtain ⟨q05,l3,h⟩:=ab h
  simp(config:=cS)only[go_sem,hc_v1.1,hc_v1.2,hm_v1,hk_v1,eqF h2]
  refine al (m1:=.mk) (m2:=.mk) [.nf [0,1,5,6] [10000]] (kd zb0 f_v1 k_v1) l3 ?_ ?_
  ·simp(config:=cS)only[go_sem,hc_v1.1,hc_v1.2,hm_v1,hk_v1,eqF h2]
  ·intro nb4 sb4 bb4 b4 gb4
   obtain ⟨v5_1,v6_1,v0_1⟩:=sb4
   unfold cz at b4
   try dsimp only at b4
   obtain ⟨h5,b4⟩|⟨h5,b4⟩:=af b4
   ·obtain ⟨x02,g6,b4⟩:=ab b4
    obtain ⟨h7,h8,h9⟩:=aj g6
    obtain ⟨r03,g10,b4⟩:=ab b4
    simp(config:=cS)only[go_sem,hc_v1.1,hc_v1.2,hm_v1,hk_v1,eqF h2,eqT h5,h7,h8,h9]
    refine ag (hp_v1 _ _ g10) ?_
    obtain ⟨h11,b4⟩|⟨h11,b4⟩:=af b4
    ·cases b4
     simp(config:=cS)only[go_sem,hc_v1.1,hc_v1.2,hm_v1,hk_v1,eqF h2,eqT h5,h7,h8,h9,eZt h11]
     refine aq gb4 ?_
     simp(config:=cS)only[go_sem,hc_v1.1,hc_v1.2,hm_v1,hk_v1,eqF h2,eqT h5,h7,h8,h9,eZt h11]
    ·obtain ⟨x04,g12,b4⟩:=ab b4
     obtain ⟨h13,h14,h15⟩:=aj g12
     cases b4
     simp(config:=cS)only[go_sem,hc_v1.1,hc_v1.2,hm_v1,hk_v1,eqF h2,eqT h5,h7,h8,h9,eZf h11,h13,h14,h15]
     refine aq gb4 ?_
     simp(config:=cS)only[go_sem,hc_v1.1,hc_v1.2,hm_v1,hk_v1,eqF h2,eqT h5,h7,h8,h9,eZf h11,h13,h14,h15]
   ·cases b4
    obtain rfl:=(ak gb4).symm
    try dsimp only at h
    obtain ⟨h17,h⟩:=ah h
    obtain ⟨h18,h⟩:=ah h
    obtain ⟨h19,h⟩:=ah h
    cases h
    simp(config:=cS)only[go_sem,hc_v1.1,hc_v1.2,hm_v1,hk_v1,eqF h2,eqF h5,eqT h17,eqT h18,eqT h19]
attribute [go_sem] Tryz.ntmps89 Tryz.results89
theorem vQ {nodes:List Int}{node:Int}{res:Bool}(h:iz nodes node=some res):am Tryz.prog 89 [.sl (ae eI nodes),.loc [.lit (.int .i64 node)]] [] (.lit (.bool res)) []:=by
 refine ai (ra:=[]) (md:=mdT) hT (hi:=hi00) Tryz.func89 rfl rfl (by decide +kernel) (by simp) ?_
 unfold iz at h
 obtain ⟨r01,g1,h⟩:=ab h
 simp(config:=cS)only[go_sem]
 refine ag (ip g1) ?_
 cases h
 simp(config:=cS)only[go_sem]
@[go_sem] def hi85_1:DT:=.i2 0 (.i2 1 (.i2 3 (.i1 5 (.i1 6 (.i0 2 [5,6] (.i0 4 [5,6] (.i2 7 (.i2 8 (.i2 9 (.i2 10 (.i2 11 .nil)))))))))))
def hi85:Hint where
 acts:=fun _=>[]
 draws:=fun
  | 1=>⟨hi85_1,[[],[],[0,1],[],[0,1,2,3],[],[5],.range 7,.range 8,.range 8,.range 10,.range 11],.range 12⟩
  | _=>⟨.nil,[],[]⟩
theorem Qh (i:Nat):hi85.acts i=[]:=rfl
theorem Qi (i:Nat):hi85.views i=none:=rfl
attribute [go_sem] Qh Qi Tryz.ntmps85 Tryz.results85
@[go_sem] theorem SQ:(hi85.draws 1).order=hi85_1:=rfl
theorem sx {g_s:GShow}{g_known:List (ByteArray × Bool)}{v1:GState}{node:Int}{d:GDesk}{res:(List Int) × Bool × (List (ByteArray × Bool))}(h:im g_s g_known v1 node d=some res):am Tryz.prog 85 [.ptr 10000 0 0 0,.agg (GState.encS v1),.loc [.lit (.int .i64 node)],.loc [.sl (ae GNode.encS d.show_.nodes),.sl (ae GTie.enc d.show_.ties),.lit (.int .i64 d.show_.horizon),.lit (.int .i64 d.state.now),.sl (ae eI d.state.times),.sl (ae eI d.state.values),.lit (.bool d.lazy),.sl (ae GEntry.encS d.log)]] [(10000,0,.var [.sl (ae GNode.encS g_s.nodes),.sl (ae GTie.enc g_s.ties),.lit (.int .i64 g_s.horizon),.mp 10001 0]),(10001,0,.map (eM g_known))] (.tup [.sl (ae eI res.1),.lit (.bool res.2.1)]) [(10000,0,.var [.sl (ae GNode.encS g_s.nodes),.sl (ae GTie.enc g_s.ties),.lit (.int .i64 g_s.horizon),.mp 10001 0]),(10001,0,.map (eM res.2.2))]:=by
 refine ai (ra:=[.home 6]) (md:=mdT) hT (hi:=hi85) Tryz.func85 rfl rfl (by decide +kernel) (by simp) ?_
 unfold im at h
 obtain ⟨r01,g1,h⟩:=ab h
 simp(config:=cS)only[go_sem]
 refine ag (uq g1) ?_
 obtain ⟨r02,g2,h⟩:=ab h
 simp(config:=cS)only[go_sem]
 refine ag (uh (by exact fun _ _ hr=>vQ hr) (by refine ⟨fun _=>?_,fun _=>?_⟩ <;> simp only [go_sem]) (fun _=>rfl) rfl g2) ?_
 obtain ⟨r03,g3,h⟩:=ab h
 simp(config:=cS)only[go_sem]
 refine ag (xN g3) ?_
 cases h
 simp(config:=cS)only[go_sem]
def cu (s h l:List Int)(t m n:Int)(o:Bool)(p:Int)(q r:List Int)(i:Int)(a:List GNode)(b:List GTie)(c d:List Int)(e:List GEntry)(f g j:List Int):(Int × (List Int))→St
 | (u,k)=>⟨[(1,.sl (ae eI s)),(2,.sl (ae eI h)),(10,.ptr 640 1 0 0),(13,.ptr 832 1 0 0),(15,.ptr 960 1 0 0),(17,.sl (ae eI l)),(19,.ptr 1216 1 0 0),(20,.ref 5506 1 0 j.length),(21,.ref 1407 1 0 k.length),(89,.ref 5506 1 0 j.length),(90,.lit (.int .i64 t)),(91,.lit (.int .i64 u))],[(640,1,.var [.lit (.slice none 0 0),.lit (.slice none 0 0),.lit (.int .i64 0),.lit (.int .i64 0),.lit (.slice none 0 0),.lit (.slice none 0 0),.lit (.bool false),.lit (.slice none 0 0)]),(832,1,.var [.ref 1600 1 0 a.length,.ref 1601 1 0 b.length,.lit (.int .i64 m),.lit (.int .i64 n),.ref 1602 1 0 c.length,.ref 1603 1 0 d.length,.lit (.bool o),.ref 1604 1 0 e.length]),(1600,1,.row true (ae GNode.encO a)),(1601,1,.row true (ae GTie.enc b)),(1602,1,.row true (ae eI c)),(1603,1,.row true (ae eI d)),(1604,1,.row true (ae GEntry.encO e)),(960,1,.var [.lit (.int .i64 p),.sl (ae eI q),.sl (ae eI r)]),(1216,1,.var [.lit (.int .i64 i),.ref 5504 1 0 f.length,.ref 5505 1 0 g.length]),(5504,1,.row true (ae eI f)),(5505,1,.row true (ae eI g)),(5506,1,.row true (ae eI j)),(1407,1,.row true (ae eI k))],2⟩
attribute [go_sem] cu
@[go_sem] def hi71_s85_22:DT:=.i1 0 (.i2 1 (.i0 2 [0] (.i2 3 (.i2 4 (.i2 5 .nil)))))
@[go_sem] def hi71_s85_21:DT:=.i1 0 (.i1 1 (.i1 2 (.i1 3 (.i2 4 (.i2 6 (.i2 8 (.i2 9 (.i0 5 [0,1,2,3] (.i0 7 [0,1,2,3] (.i0 10 [0,1,2,3] (.i2 11 (.i0 12 [0,1] (.i2 13 (.i2 14 (.i2 15 .nil)))))))))))))))
@[go_sem] def hi71_s85_10:DT:=.i2 0 (.i2 1 (.i1 3 (.i0 2 [3] (.i2 4 (.i2 5 (.i2 6 (.i2 7 (.i2 8 (.i2 9 .nil)))))))))
@[go_sem] def hi71_s85_4:DT:=.i1 0 (.i1 1 (.i1 2 (.i1 3 (.fork (.i0 4 [0,1,2,3] (.i0 5 [0,1,2,3] (.i0 6 [2,3] (.i2 7 .nil)))) (.i0 5 [0,1,2,3] (.i0 4 [0,1,2,3] (.i0 6 [2,3] (.i2 7 .nil))))))))
def oT:Hint where
 acts:=fun _=>[]
 draws:=fun
  | 4=>⟨hi71_s85_4,[[],[0],[],[2],[],[],[0,1,4,5],.range 7],[0,1,5,6,2,3,4,7]⟩
  | 10=>⟨hi71_s85_10,[[],[],[1],[],[0,1,2,3],.range 5,.range 6,.range 6,.range 7,.range 9],[0,1,2,3,4,5,6,8,7,9]⟩
  | 21=>⟨hi71_s85_21,[[],[0],[],[2],[],[4],[],[4,5,6],[],[],[4,5,6,7,8,9],[2,3,4,5,6,7,8,9,10],[2,3,4,5,6,7,8,9,10,11],.range 13,.range 14,.range 15],.range 16⟩
  | 22=>⟨hi71_s85_22,[[],[],[1],[0,1,2],[0,1,2,3],.range 5],.range 6⟩
  | _=>⟨.nil,[],[]⟩
theorem Jq (i:Nat):oT.acts i=[]:=rfl
theorem Jr (i:Nat):oT.views i=none:=rfl
attribute [go_sem] Jq Jr Tryz.ntmps71 Tryz.results71
@[go_sem] theorem Qj:(oT.draws 4).order=hi71_s85_4:=rfl
@[go_sem] theorem PB:(oT.draws 10).order=hi71_s85_10:=rfl
@[go_sem] theorem PC:(oT.draws 21).order=hi71_s85_21:=rfl
@[go_sem] theorem PD:(oT.draws 22).order=hi71_s85_22:=rfl
theorem ni {d:GDesk}{ties values:List Int}{refused node:Int}{d':GDesk}{res:GDesk × (List Int) × Int}(h:bz d ties values refused node d'=some res):am Tryz.prog 71 [.agg (GDesk.encS d),.sl (ae eI ties),.sl (ae eI values),.lit (.int .i64 refused),.fn 85 [.loc [.lit (.int .i64 node)],.loc [.sl (ae GNode.encS d'.show_.nodes),.sl (ae GTie.enc d'.show_.ties),.lit (.int .i64 d'.show_.horizon),.lit (.int .i64 d'.state.now),.sl (ae eI d'.state.times),.sl (ae eI d'.state.values),.lit (.bool d'.lazy),.sl (ae GEntry.encS d'.log)]]] [] (.tup [.agg [.ref 20000 1 0 res.1.show_.nodes.length,.ref 20001 1 0 res.1.show_.ties.length,.lit (.int .i64 res.1.show_.horizon),.lit (.int .i64 res.1.state.now),.ref 20002 1 0 res.1.state.times.length,.ref 20003 1 0 res.1.state.values.length,.lit (.bool res.1.lazy),.ref 20004 1 0 res.1.log.length],.ref 20005 1 0 res.2.1.length,.lit (.int .i64 res.2.2)]) [(20000,1,.row true (ae GNode.encO res.1.show_.nodes)),(20001,1,.row true (ae GTie.enc res.1.show_.ties)),(20002,1,.row true (ae eI res.1.state.times)),(20003,1,.row true (ae eI res.1.state.values)),(20004,1,.row true (ae GEntry.encO res.1.log)),(20005,1,.row true (ae eI res.2.1))]:=by
 refine ai (ra:=[.homeCell 640 0,.homeCell 640 1,.homeCell 640 4,.homeCell 640 5,.homeCell 640 7,.home 11]) (md:=mdT) hT (hi:=oT) Tryz.func71 rfl rfl (by decide +kernel) (by simp) ?_
 unfold bz at h
 obtain ⟨r01,g1,h⟩:=ab h
 simp(config:=cS)only[go_sem]
 refine ag (vb g1) ?_
 obtain ⟨r02,g2,h⟩:=ab h
 simp(config:=cS)only[go_sem]
 refine ag (sX g2) ?_
 obtain ⟨h3,h⟩|⟨h3,h⟩:=af h
 ·obtain ⟨h4,h⟩|⟨h4,h⟩:=af h
  ·obtain ⟨r03,g5,h⟩:=ab h
   simp(config:=cS)only[go_sem,eZt h3,eqT h4]
   refine ag (cO (by exact fun _ _ hr=>rv hr) (by refine ⟨fun _=>?_,fun _=>?_⟩ <;> simp only [go_sem]) (fun _=>rfl) rfl g5) ?_
   obtain ⟨h6,h⟩|⟨h6,h⟩:=af h
   ·cases h
    simp(config:=cS)only[go_sem,eZt h3,eqT h4,eZt h6]
   ·try simp(config:=cS)only[go_sem,eZt h3,eqT h4,eZf h6]
    refine bp ?_ ?_
    ·obtain ⟨r04,g7,h⟩:=ab h
     simp(config:=cS)only[go_sem,eZt h3,eqT h4,eZf h6]
     refine ag (kf g7) ?_
     obtain ⟨h8,h⟩|⟨h8,h⟩:=af h
     ·cases h
      simp(config:=cS)only[go_sem,eZt h3,eqT h4,eZf h6,eZt h8]
     ·obtain ⟨r05,g9,h⟩:=ab h
      simp(config:=cS)only[go_sem,eZt h3,eqT h4,eZf h6,eZf h8]
      refine ag (jj g9) ?_
      obtain ⟨h10,h⟩|⟨h10,h⟩:=af h
      ·cases h
       simp(config:=cS)only[go_sem,eZt h3,eqT h4,eZf h6,eZf h8,eZt h10]
      ·obtain ⟨h11,h⟩|⟨h11,h⟩:=af h
       ·cases h
        simp(config:=cS)only[go_sem,eZt h3,eqT h4,eZf h6,eZf h8,eZf h10,eqT h11]
       ·obtain ⟨r06,g12,h⟩:=ab h
        simp(config:=cS)only[go_sem,eZt h3,eqT h4,eZf h6,eZf h8,eZf h10,eqF h11]
        refine ag (gz g12) ?_
        obtain ⟨r07,g13,h⟩:=ab h
        simp(config:=cS)only[go_sem,eZt h3,eqT h4,eZf h6,eZf h8,eZf h10,eqF h11]
        refine ag (np g13) ?_
        obtain ⟨h14,h⟩|⟨h14,h⟩:=af h
        ·obtain ⟨r08,g15,h⟩:=ab h
         simp(config:=cS)only[go_sem,eZt h3,eqT h4,eZf h6,eZf h8,eZf h10,eqF h11,eZt h14]
         refine ag (ln g15) ?_
         obtain ⟨r09,g16,h⟩:=ab h
         simp(config:=cS)only[go_sem,eZt h3,eqT h4,eZf h6,eZf h8,eZf h10,eqF h11,eZt h14]
         refine ag (lp g16) ?_
         obtain ⟨r10,g17,h⟩:=ab h
         simp(config:=cS)only[go_sem,eZt h3,eqT h4,eZf h6,eZf h8,eZf h10,eqF h11,eZt h14]
         refine ag (sx g17) ?_
         obtain ⟨h18,h⟩|⟨h18,h⟩:=af h
         ·obtain ⟨r11,g19,h⟩:=ab h
          simp(config:=cS)only[go_sem,eZt h3,eqT h4,eZf h6,eZf h8,eZf h10,eqF h11,eZt h14,eZt h18]
          refine ag (gA g19) ?_
          obtain ⟨q19,l20,h⟩:=ab h
          simp(config:=cS)only[go_sem,eZt h3,eqT h4,eZf h6,eZf h8,eZf h10,eqF h11,eZt h14,eZt h18]
          refine al (m1:=.mk) (m2:=.mk) [.home 21,.nf [1,2,10,13,15,17,19,20,21,89,90,91] [640,832,1600,1601,1602,1603,1604,960,1216,5504,5505,5506,1407]] (cu ties values r10.1 ((r11.2.length:Nat):Int) r01.show_.horizon r01.state.now r01.lazy d.state.now d.state.times d.state.values r11.1.now r01.show_.nodes r01.show_.ties r01.state.times r01.state.values r01.log r11.1.times r11.1.values r11.2) l20 ?_ ?_
          ·simp(config:=cS)only[go_sem,eZt h3,eqT h4,eZf h6,eZf h8,eZf h10,eqF h11,eZt h14,eZt h18]
          ·intro nb21 sb21 bb21 b21 gb21
           obtain ⟨v91_1,seen_1⟩:=sb21
           unfold bb at b21
           try dsimp only at b21
           obtain ⟨h22,b21⟩|⟨h22,b21⟩:=af b21
           ·obtain ⟨x12,g23,b21⟩:=ab b21
            obtain ⟨h24,h25,h26⟩:=aj g23
            obtain ⟨x13,g27,b21⟩:=ab b21
            obtain ⟨h28,h29,h30⟩:=aj g27
            obtain ⟨h31,b21⟩:=ah b21
            obtain ⟨h32,b21⟩:=ah b21
            cases b21
            simp(config:=cS)only[go_sem,eZt h3,eqT h4,eZf h6,eZf h8,eZf h10,eqF h11,eZt h14,eZt h18,eqT h22,h24,h25,h26,h28,h29,h30,eqT h31,eqT h32]
            refine aq gb21 ?_
            simp(config:=cS)only[go_sem,eZt h3,eqT h4,eZf h6,eZf h8,eZf h10,eqF h11,eZt h14,eZt h18,eqT h22,h24,h25,h26,h28,h29,h30,eqT h31,eqT h32]
           ·cases b21
            obtain rfl:=(ak gb21).symm
            try dsimp only at h
            obtain ⟨r14,g34,h⟩:=ab h
            simp(config:=cS)only[go_sem,eZt h3,eqT h4,eZf h6,eZf h8,eZf h10,eqF h11,eZt h14,eZt h18,eqF h22]
            refine ag (fe g34) ?_
            obtain ⟨r15,g35,h⟩:=ab h
            simp(config:=cS)only[go_sem,eZt h3,eqT h4,eZf h6,eZf h8,eZf h10,eqF h11,eZt h14,eZt h18,eqF h22]
            refine ag (aJ g35) ?_
            obtain ⟨r16,g36,h⟩:=ab h
            simp(config:=cS)only[go_sem,eZt h3,eqT h4,eZf h6,eZf h8,eZf h10,eqF h11,eZt h14,eZt h18,eqF h22]
            refine ag (aJ g36) ?_
            obtain ⟨r17,g37,h⟩:=ab h
            simp(config:=cS)only[go_sem,eZt h3,eqT h4,eZf h6,eZf h8,eZf h10,eqF h11,eZt h14,eZt h18,eqF h22]
            refine ag (mC g37) ?_
            obtain ⟨h38,h⟩:=ah h
            obtain ⟨h39,h⟩:=ah h
            obtain ⟨r18,g40,h⟩:=ab h
            simp(config:=cS)only[go_sem,eZt h3,eqT h4,eZf h6,eZf h8,eZf h10,eqF h11,eZt h14,eZt h18,eqF h22,eqT h38,eqT h39]
            refine ag (aJ g40) ?_
            cases h
            simp(config:=cS)only[go_sem,eZt h3,eqT h4,eZf h6,eZf h8,eZf h10,eqF h11,eZt h14,eZt h18,eqF h22,eqT h38,eqT h39]
         ·cases h
          simp(config:=cS)only[go_sem,eZt h3,eqT h4,eZf h6,eZf h8,eZf h10,eqF h11,eZt h14,eZf h18]
        ·cases h
         simp(config:=cS)only[go_sem,eZt h3,eqT h4,eZf h6,eZf h8,eZf h10,eqF h11,eZf h14]
    ·obtain ⟨r20,g41,h⟩:=ab h
     simp(config:=cS)only[go_sem,eZt h3,eqT h4,eZf h6]
     refine ag (kf g41) ?_
     obtain ⟨h42,h⟩|⟨h42,h⟩:=af h
     ·cases h
      simp(config:=cS)only[go_sem,eZt h3,eqT h4,eZf h6,eZt h42]
     ·obtain ⟨r21,g43,h⟩:=ab h
      simp(config:=cS)only[go_sem,eZt h3,eqT h4,eZf h6,eZf h42]
      refine ag (jj g43) ?_
      obtain ⟨h44,h⟩|⟨h44,h⟩:=af h
      ·cases h
       simp(config:=cS)only[go_sem,eZt h3,eqT h4,eZf h6,eZf h42,eZt h44]
      ·obtain ⟨h45,h⟩|⟨h45,h⟩:=af h
       ·cases h
        simp(config:=cS)only[go_sem,eZt h3,eqT h4,eZf h6,eZf h42,eZf h44,eqT h45]
       ·obtain ⟨r22,g46,h⟩:=ab h
        simp(config:=cS)only[go_sem,eZt h3,eqT h4,eZf h6,eZf h42,eZf h44,eqF h45]
        refine ag (gz g46) ?_
        obtain ⟨r23,g47,h⟩:=ab h
        simp(config:=cS)only[go_sem,eZt h3,eqT h4,eZf h6,eZf h42,eZf h44,eqF h45]
        refine ag (np g47) ?_
        obtain ⟨h48,h⟩|⟨h48,h⟩:=af h
        ·obtain ⟨r24,g49,h⟩:=ab h
         simp(config:=cS)only[go_sem,eZt h3,eqT h4,eZf h6,eZf h42,eZf h44,eqF h45,eZt h48]
         refine ag (ln g49) ?_
         obtain ⟨r25,g50,h⟩:=ab h
         simp(config:=cS)only[go_sem,eZt h3,eqT h4,eZf h6,eZf h42,eZf h44,eqF h45,eZt h48]
         refine ag (lp g50) ?_
         obtain ⟨r26,g51,h⟩:=ab h
         simp(config:=cS)only[go_sem,eZt h3,eqT h4,eZf h6,eZf h42,eZf h44,eqF h45,eZt h48]
         refine ag (sx g51) ?_
         obtain ⟨h52,h⟩|⟨h52,h⟩:=af h
         ·obtain ⟨r27,g53,h⟩:=ab h
          simp(config:=cS)only[go_sem,eZt h3,eqT h4,eZf h6,eZf h42,eZf h44,eqF h45,eZt h48,eZt h52]
          refine ag (gA g53) ?_
          obtain ⟨q35,l54,h⟩:=ab h
          simp(config:=cS)only[go_sem,eZt h3,eqT h4,eZf h6,eZf h42,eZf h44,eqF h45,eZt h48,eZt h52]
          refine al (m1:=.mk) (m2:=.mk) [.home 21,.nf [1,2,10,13,15,17,19,20,21,89,90,91] [640,832,1600,1601,1602,1603,1604,960,1216,5504,5505,5506,1407]] (cu ties values r26.1 ((r27.2.length:Nat):Int) r01.show_.horizon r01.state.now r01.lazy d.state.now d.state.times d.state.values r27.1.now r01.show_.nodes r01.show_.ties r01.state.times r01.state.values r01.log r27.1.times r27.1.values r27.2) l54 ?_ ?_
          ·simp(config:=cS)only[go_sem,eZt h3,eqT h4,eZf h6,eZf h42,eZf h44,eqF h45,eZt h48,eZt h52]
          ·intro nb55 sb55 bb55 b55 gb55
           obtain ⟨v91_2,seen_2⟩:=sb55
           unfold bb at b55
           try dsimp only at b55
           obtain ⟨h56,b55⟩|⟨h56,b55⟩:=af b55
           ·obtain ⟨x28,g57,b55⟩:=ab b55
            obtain ⟨h58,h59,h60⟩:=aj g57
            obtain ⟨x29,g61,b55⟩:=ab b55
            obtain ⟨h62,h63,h64⟩:=aj g61
            obtain ⟨h65,b55⟩:=ah b55
            obtain ⟨h66,b55⟩:=ah b55
            cases b55
            simp(config:=cS)only[go_sem,eZt h3,eqT h4,eZf h6,eZf h42,eZf h44,eqF h45,eZt h48,eZt h52,eqT h56,h58,h59,h60,h62,h63,h64,eqT h65,eqT h66]
            refine aq gb55 ?_
            simp(config:=cS)only[go_sem,eZt h3,eqT h4,eZf h6,eZf h42,eZf h44,eqF h45,eZt h48,eZt h52,eqT h56,h58,h59,h60,h62,h63,h64,eqT h65,eqT h66]
           ·cases b55
            obtain rfl:=(ak gb55).symm
            try dsimp only at h
            obtain ⟨r30,g68,h⟩:=ab h
            simp(config:=cS)only[go_sem,eZt h3,eqT h4,eZf h6,eZf h42,eZf h44,eqF h45,eZt h48,eZt h52,eqF h56]
            refine ag (fe g68) ?_
            obtain ⟨r31,g69,h⟩:=ab h
            simp(config:=cS)only[go_sem,eZt h3,eqT h4,eZf h6,eZf h42,eZf h44,eqF h45,eZt h48,eZt h52,eqF h56]
            refine ag (aJ g69) ?_
            obtain ⟨r32,g70,h⟩:=ab h
            simp(config:=cS)only[go_sem,eZt h3,eqT h4,eZf h6,eZf h42,eZf h44,eqF h45,eZt h48,eZt h52,eqF h56]
            refine ag (aJ g70) ?_
            obtain ⟨r33,g71,h⟩:=ab h
            simp(config:=cS)only[go_sem,eZt h3,eqT h4,eZf h6,eZf h42,eZf h44,eqF h45,eZt h48,eZt h52,eqF h56]
            refine ag (mC g71) ?_
            obtain ⟨h72,h⟩:=ah h
            obtain ⟨h73,h⟩:=ah h
            obtain ⟨r34,g74,h⟩:=ab h
            simp(config:=cS)only[go_sem,eZt h3,eqT h4,eZf h6,eZf h42,eZf h44,eqF h45,eZt h48,eZt h52,eqF h56,eqT h72,eqT h73]
            refine ag (aJ g74) ?_
            cases h
            simp(config:=cS)only[go_sem,eZt h3,eqT h4,eZf h6,eZf h42,eZf h44,eqF h45,eZt h48,eZt h52,eqF h56,eqT h72,eqT h73]
         ·cases h
          simp(config:=cS)only[go_sem,eZt h3,eqT h4,eZf h6,eZf h42,eZf h44,eqF h45,eZt h48,eZf h52]
        ·cases h
         simp(config:=cS)only[go_sem,eZt h3,eqT h4,eZf h6,eZf h42,eZf h44,eqF h45,eZf h48]
  ·cases h
   simp(config:=cS)only[go_sem,eZt h3,eqF h4]
 ·cases h
  simp(config:=cS)only[go_sem,eZf h3]
attribute [go_sem] Tryz.ntmps28 Tryz.results28
theorem AI {d:GDesk}{ties:List Int}{node:Int}{values:List Int}{res:GDesk × (List Int) × Int}(h:kF d ties node values=some res):am Tryz.prog 28 [.agg (GDesk.encS d),.sl (ae eI ties),.lit (.int .i64 node),.sl (ae eI values)] [] (.tup [.agg [.ref 20000 1 0 res.1.show_.nodes.length,.ref 20001 1 0 res.1.show_.ties.length,.lit (.int .i64 res.1.show_.horizon),.lit (.int .i64 res.1.state.now),.ref 20002 1 0 res.1.state.times.length,.ref 20003 1 0 res.1.state.values.length,.lit (.bool res.1.lazy),.ref 20004 1 0 res.1.log.length],.ref 20005 1 0 res.2.1.length,.lit (.int .i64 res.2.2)]) [(20000,1,.row true (ae GNode.encO res.1.show_.nodes)),(20001,1,.row true (ae GTie.enc res.1.show_.ties)),(20002,1,.row true (ae eI res.1.state.times)),(20003,1,.row true (ae eI res.1.state.values)),(20004,1,.row true (ae GEntry.encO res.1.log)),(20005,1,.row true (ae eI res.2.1))]:=by
 refine ai (ra:=[.homeCell 512 0,.homeCell 512 1,.homeCell 512 4,.homeCell 512 5,.homeCell 512 7,.home 9]) (md:=mdT) hT (hi:=hi00) Tryz.func28 rfl rfl (by decide +kernel) (by simp) ?_
 unfold kF at h
 obtain ⟨r01,g1,h⟩:=ab h
 simp(config:=cS)only[go_sem]
 refine ag (ni g1) ?_
 cases h
 simp(config:=cS)only[go_sem]
def ui (n:Int)(a:List Int)(b c:Int):St:=⟨[(1,.lit (.int .i64 n)),(7,.sl (ae eI a)),(8,.lit (.int .i64 b)),(9,.lit (.int .i64 c))],[],2⟩
attribute [go_sem] ui
attribute [go_sem] Tryz.ntmps30 Tryz.results30
theorem AJ {l:List Int}{n:Int}{res:Bool}(h:nw l n=some res):am Tryz.prog 30 [.sl (ae eI l),.lit (.int .i64 n)] [] (.lit (.bool res)) []:=by
 refine ai (ra:=[]) (md:=mdT) hT (hi:=hi00) Tryz.func30 rfl rfl (by decide +kernel) (by simp) ?_
 unfold nw at h
 obtain ⟨q02,l1,h⟩:=ab h
 simp(config:=cS)only[go_sem]
 refine al (m1:=.mk) (m2:=.mk) [.nf [1,7,8,9] []] (ui n l ((l.length:Nat):Int)) l1 ?_ ?_
 ·simp(config:=cS)only[go_sem]
 ·intro nb2 v9_1 bb2 b2 gb2
  unfold ka at b2
  try dsimp only at b2
  obtain ⟨h3,b2⟩|⟨h3,b2⟩:=af b2
  ·obtain ⟨x01,g4,b2⟩:=ab b2
   obtain ⟨h5,h6,h7⟩:=aj g4
   obtain ⟨h8,b2⟩|⟨h8,b2⟩:=af b2
   ·cases b2
    obtain rfl:=(ak gb2).symm
    try dsimp only at h
    cases h
    simp(config:=cS)only[go_sem,eqT h3,h5,h6,h7,eqT h8]
   ·cases b2
    simp(config:=cS)only[go_sem,eqT h3,h5,h6,h7,eqF h8]
    refine aq gb2 ?_
    simp(config:=cS)only[go_sem]
  ·cases b2
   obtain rfl:=(ak gb2).symm
   try dsimp only at h
   cases h
   simp(config:=cS)only[go_sem,eqF h3]
@[go_sem] def hi27_1:DT:=.i2 0 (.i2 1 (.i2 2 (.i2 3 (.i2 4 (.i1 6 (.i0 5 [6] (.i2 7 (.i2 8 (.i2 9 .nil)))))))))
def hi27:Hint where
 acts:=fun _=>[]
 draws:=fun
  | 1=>⟨hi27_1,[[],[],[0,1],[0,1,2],[0,1,2,3],.range 5,[0,1,2,3],.range 7,.range 8,.range 9],.range 10⟩
  | _=>⟨.nil,[],[]⟩
theorem Qk (i:Nat):hi27.acts i=[]:=rfl
theorem Ql (i:Nat):hi27.views i=none:=rfl
attribute [go_sem] Qk Ql Tryz.ntmps27 Tryz.results27
@[go_sem] theorem SR:(hi27.draws 1).order=hi27_1:=rfl
theorem wU {s:GShow}{v1:GState}{res:Bool}(h:dr s v1=some res):am Tryz.prog 27 [.agg (GShow.encS s),.agg (GState.encS v1)] [] (.lit (.bool res)) []:=by
 refine ai (ra:=[]) (md:=mdT) hT (hi:=hi27) Tryz.func27 rfl rfl (by decide +kernel) (by simp) ?_
 unfold dr at h
 obtain ⟨r01,g1,h⟩:=ab h
 simp(config:=cS)only[go_sem]
 refine ag (rO g1) ?_
 obtain ⟨h2,h⟩|⟨h2,h⟩:=af h
 ·obtain ⟨r02,g3,h⟩:=ab h
  simp(config:=cS)only[go_sem,eZt h2]
  refine ag (lp g3) ?_
  obtain ⟨r03,g4,h⟩:=ab h
  simp(config:=cS)only[go_sem,eZt h2]
  refine ag (oW g4) ?_
  cases h
  simp(config:=cS)only[go_sem,eZt h2]
 ·cases h
  simp(config:=cS)only[go_sem,eZf h2]
def pu (b a:List Int)(c d:Int):St:=⟨[(1,.sl (ae eI b)),(12,.sl (ae eI a)),(13,.lit (.int .i64 c)),(14,.lit (.int .i64 d))],[],2⟩
attribute [go_sem] pu
attribute [go_sem] Tryz.ntmps15 Tryz.results15
theorem AK {a b:List Int}{res:Bool}(h:kv a b=some res):am Tryz.prog 15 [.sl (ae eI a),.sl (ae eI b)] [] (.lit (.bool res)) []:=by
 refine ai (ra:=[]) (md:=mdT) hT (hi:=hi00) Tryz.func15 rfl rfl (by decide +kernel) (by simp) ?_
 unfold kv at h
 obtain ⟨h1,h⟩|⟨h1,h⟩:=af h
 ·obtain ⟨q03,l2,h⟩:=ab h
  simp(config:=cS)only[go_sem,eqT h1]
  refine al (m1:=.mk) (m2:=.mk) [.nf [1,12,13,14] []] (pu b a ((a.length:Nat):Int)) l2 ?_ ?_
  ·simp(config:=cS)only[go_sem]
  ·intro nb3 v14_1 bb3 b3 gb3
   unfold eJ at b3
   try dsimp only at b3
   obtain ⟨h4,b3⟩|⟨h4,b3⟩:=af b3
   ·obtain ⟨x01,g5,b3⟩:=ab b3
    obtain ⟨h6,h7,h8⟩:=aj g5
    obtain ⟨x02,g9,b3⟩:=ab b3
    obtain ⟨h10,h11,h12⟩:=aj g9
    obtain ⟨h13,b3⟩|⟨h13,b3⟩:=af b3
    ·cases b3
     simp(config:=cS)only[go_sem,eqT h4,h6,h7,h8,h10,h11,h12,eqT h13]
     refine aq gb3 ?_
     simp(config:=cS)only[go_sem]
    ·cases b3
     obtain rfl:=(ak gb3).symm
     try dsimp only at h
     cases h
     simp(config:=cS)only[go_sem,eqT h4,h6,h7,h8,h10,h11,h12,eqF h13]
   ·cases b3
    obtain rfl:=(ak gb3).symm
    try dsimp only at h
    cases h
    simp(config:=cS)only[go_sem,eqF h4]
 ·cases h
  simp(config:=cS)only[go_sem,eqF h1]
def kQ (f:List GNode)(a:Nat)(b:List AV)(c:List GNode)(d e:Int):St:=⟨[(1,.sl (ae GNode.encS f)),(2,.fn a b),(15,.sl (ae GNode.encS c)),(16,.lit (.int .i64 d)),(17,.lit (.int .i64 e))],[],2⟩
attribute [go_sem] kQ
attribute [go_sem] Tryz.ntmps168 Tryz.results168
theorem uM {v0 v1:List GNode}{v2:GNode→GNode→Option Bool}{f_v2:Nat}{k_v2:List AV}(hp_v2:∀ y0 y1 r,v2 y0 y1=some r→am Tryz.prog f_v2 ([.agg (GNode.encS y0),.agg (GNode.encS y1)]++k_v2) [] (.lit (.bool r)) [])(hc_v2:KC k_v2)(hm_v2:∀ a,mdT f_v2 a=⟨[],false⟩)(hk_v2:spf f_v2=false){res:Bool}(h:dF v0 v1 v2=some res):am Tryz.prog 168 [.sl (ae GNode.encS v0),.sl (ae GNode.encS v1),.fn f_v2 k_v2] [] (.lit (.bool res)) []:=by
 refine ai (ra:=[]) (md:=mdT) hT (hi:=hi00) Tryz.func168 rfl rfl (by decide +kernel) (by simp) ?_
 unfold dF at h
 obtain ⟨h1,h⟩|⟨h1,h⟩:=af h
 ·obtain ⟨q04,l2,h⟩:=ab h
  simp(config:=cS)only[go_sem,hc_v2.1,hc_v2.2,hm_v2,hk_v2,eqT h1]
  refine al (m1:=.mk) (m2:=.mk) [.nf [1,2,15,16,17] []] (kQ v1 f_v2 k_v2 v0 ((v0.length:Nat):Int)) l2 ?_ ?_
  ·simp(config:=cS)only[go_sem,hc_v2.1,hc_v2.2,hm_v2,hk_v2,eqT h1]
  ·intro nb3 v17_1 bb3 b3 gb3
   unfold bV at b3
   try dsimp only at b3
   obtain ⟨h4,b3⟩|⟨h4,b3⟩:=af b3
   ·obtain ⟨x01,g5,b3⟩:=ab b3
    obtain ⟨h6,h7,h8⟩:=aj g5
    obtain ⟨x02,g9,b3⟩:=ab b3
    obtain ⟨h10,h11,h12⟩:=aj g9
    obtain ⟨r03,g13,b3⟩:=ab b3
    simp(config:=cS)only[go_sem,hc_v2.1,hc_v2.2,hm_v2,hk_v2,eqT h1,eqT h4,h6,h7,h8,h10,h11,h12]
    refine ag (hp_v2 _ _ _ g13) ?_
    obtain ⟨h14,b3⟩|⟨h14,b3⟩:=af b3
    ·cases b3
     simp(config:=cS)only[go_sem,hc_v2.1,hc_v2.2,hm_v2,hk_v2,eqT h1,eqT h4,h6,h7,h8,h10,h11,h12,eZt h14]
     refine aq gb3 ?_
     simp(config:=cS)only[go_sem,hc_v2.1,hc_v2.2,hm_v2,hk_v2,eqT h1,eqT h4,h6,h7,h8,h10,h11,h12,eZt h14]
    ·cases b3
     obtain rfl:=(ak gb3).symm
     try dsimp only at h
     cases h
     simp(config:=cS)only[go_sem,hc_v2.1,hc_v2.2,hm_v2,hk_v2,eqT h1,eqT h4,h6,h7,h8,h10,h11,h12,eZf h14]
   ·cases b3
    obtain rfl:=(ak gb3).symm
    try dsimp only at h
    cases h
    simp(config:=cS)only[go_sem,hc_v2.1,hc_v2.2,hm_v2,hk_v2,eqT h1,eqF h4]
 ·cases h
  simp(config:=cS)only[go_sem,hc_v2.1,hc_v2.2,hm_v2,hk_v2,eqF h1]
attribute [go_sem] Tryz.ntmps169 Tryz.results169
theorem zu {a b:GNode}{res:Bool}(h:em a b=some res):am Tryz.prog 169 [.agg (GNode.encS a),.agg (GNode.encS b)] [] (.lit (.bool res)) []:=by
 refine ai (ra:=[]) (md:=mdT) hT (hi:=hi00) Tryz.func169 rfl rfl (by decide +kernel) (by simp) ?_
 unfold em at h
 obtain ⟨h1,h⟩|⟨h1,h⟩:=af h
 ·obtain ⟨r01,g2,h⟩:=ab h
  simp(config:=cS)only[go_sem,eqT h1]
  refine ag (bX g2) ?_
  obtain ⟨h3,h⟩|⟨h3,h⟩:=af h
  ·cases h
   simp(config:=cS)only[go_sem,eZt h3]
  ·cases h
   simp(config:=cS)only[go_sem,eZf h3]
 ·cases h
  simp(config:=cS)only[go_sem,eqF h1]
def mM (c d:List GTie)(a b:Int):St:=⟨[(0,.sl (ae GTie.enc c)),(1,.sl (ae GTie.enc d)),(12,.lit (.int .i64 a)),(13,.lit (.int .i64 b))],[],2⟩
attribute [go_sem] mM
@[go_sem] def hi170_6:DT:=.i2 0 (.i2 1 (.i2 2 (.i2 3 (.i2 4 (.i2 5 (.i2 6 (.i2 7 (.i2 8 .nil))))))))
def Eh:Hint where
 acts:=fun _=>[]
 draws:=fun
  | 6=>⟨hi170_6,[[],[],[0,1],[0,1,2],[],[],[4,5],[4,5,6],.range 8],.range 9⟩
  | _=>⟨.nil,[],[]⟩
theorem Nv (i:Nat):Eh.acts i=[]:=rfl
theorem Nw (i:Nat):Eh.views i=none:=rfl
attribute [go_sem] Nv Nw Tryz.ntmps170 Tryz.results170
@[go_sem] theorem Ru:(Eh.draws 6).order=hi170_6:=rfl
theorem xC {v0 v1:List GTie}{res:Bool}(h:il v0 v1=some res):am Tryz.prog 170 [.sl (ae GTie.enc v0),.sl (ae GTie.enc v1)] [] (.lit (.bool res)) []:=by
 refine ai (ra:=[]) (md:=mdT) hT (hi:=Eh) Tryz.func170 rfl rfl (by decide +kernel) (by simp) ?_
 unfold il at h
 obtain ⟨h1,h⟩|⟨h1,h⟩:=af h
 ·obtain ⟨q03,l2,h⟩:=ab h
  simp(config:=cS)only[go_sem,eqT h1]
  refine al (m1:=.mk) (m2:=.mk) [.nf [0,1,12,13] []] (mM v0 v1 ((v0.length:Nat):Int)) l2 ?_ ?_
  ·simp(config:=cS)only[go_sem]
  ·intro nb3 v13_1 bb3 b3 gb3
   unfold cW at b3
   try dsimp only at b3
   obtain ⟨h4,b3⟩|⟨h4,b3⟩:=af b3
   ·obtain ⟨x01,g5,b3⟩:=ab b3
    obtain ⟨h6,h7,h8⟩:=aj g5
    obtain ⟨x02,g9,b3⟩:=ab b3
    obtain ⟨h10,h11,h12⟩:=aj g9
    obtain ⟨h13,b3⟩|⟨h13,b3⟩:=af b3
    ·cases b3
     simp(config:=cS)only[go_sem,eqT h4,h6,h7,h8,h10,h11,h12,eZt h13]
     refine aq gb3 ?_
     simp(config:=cS)only[go_sem]
    ·cases b3
     obtain rfl:=(ak gb3).symm
     try dsimp only at h
     cases h
     simp(config:=cS)only[go_sem,eqT h4,h6,h7,h8,h10,h11,h12,eZf h13]
   ·cases b3
    obtain rfl:=(ak gb3).symm
    try dsimp only at h
    cases h
    simp(config:=cS)only[go_sem,eqF h4]
 ·cases h
  simp(config:=cS)only[go_sem,eqF h1]
attribute [go_sem] Tryz.ntmps81 Tryz.results81
theorem zw {a b:GShow}{res:Bool}(h:jM a b=some res):am Tryz.prog 81 [.agg (GShow.encS a),.agg (GShow.encS b)] [] (.lit (.bool res)) []:=by
 refine ai (ra:=[]) (md:=mdT) hT (hi:=hi00) Tryz.func81 rfl rfl (by decide +kernel) (by simp) ?_
 unfold jM at h
 obtain ⟨r01,g1,h⟩:=ab h
 simp(config:=cS)only[go_sem]
 refine ag (uM (by exact fun _ _ _ hr=>zu hr) (by refine ⟨fun _=>?_,fun _=>?_⟩ <;> simp only [go_sem]) (fun _=>rfl) rfl g1) ?_
 obtain ⟨h2,h⟩|⟨h2,h⟩:=af h
 ·obtain ⟨r02,g3,h⟩:=ab h
  simp(config:=cS)only[go_sem,eZt h2]
  refine ag (xC g3) ?_
  obtain ⟨h4,h⟩|⟨h4,h⟩:=af h
  ·cases h
   simp(config:=cS)only[go_sem,eZt h2,eZt h4]
  ·cases h
   simp(config:=cS)only[go_sem,eZt h2,eZf h4]
 ·cases h
  simp(config:=cS)only[go_sem,eZf h2]
def ke (f:List GEntry)(a:Nat)(b:List AV)(c:List GEntry)(d e:Int):St:=⟨[(1,.sl (ae GEntry.encS f)),(2,.fn a b),(15,.sl (ae GEntry.encS c)),(16,.lit (.int .i64 d)),(17,.lit (.int .i64 e))],[],2⟩
attribute [go_sem] ke
attribute [go_sem] Tryz.ntmps82 Tryz.results82
theorem uj {v0 v1:List GEntry}{v2:GEntry→GEntry→Option Bool}{f_v2:Nat}{k_v2:List AV}(hp_v2:∀ y0 y1 r,v2 y0 y1=some r→am Tryz.prog f_v2 ([.agg (GEntry.encS y0),.agg (GEntry.encS y1)]++k_v2) [] (.lit (.bool r)) [])(hc_v2:KC k_v2)(hm_v2:∀ a,mdT f_v2 a=⟨[],false⟩)(hk_v2:spf f_v2=false){res:Bool}(h:dh v0 v1 v2=some res):am Tryz.prog 82 [.sl (ae GEntry.encS v0),.sl (ae GEntry.encS v1),.fn f_v2 k_v2] [] (.lit (.bool res)) []:=by
 refine ai (ra:=[]) (md:=mdT) hT (hi:=hi00) Tryz.func82 rfl rfl (by decide +kernel) (by simp) ?_
 unfold dh at h
 obtain ⟨h1,h⟩|⟨h1,h⟩:=af h
 ·obtain ⟨q04,l2,h⟩:=ab h
  simp(config:=cS)only[go_sem,hc_v2.1,hc_v2.2,hm_v2,hk_v2,eqT h1]
  refine al (m1:=.mk) (m2:=.mk) [.nf [1,2,15,16,17] []] (ke v1 f_v2 k_v2 v0 ((v0.length:Nat):Int)) l2 ?_ ?_
  ·simp(config:=cS)only[go_sem,hc_v2.1,hc_v2.2,hm_v2,hk_v2,eqT h1]
  ·intro nb3 v17_1 bb3 b3 gb3
   unfold bP at b3
   try dsimp only at b3
   obtain ⟨h4,b3⟩|⟨h4,b3⟩:=af b3
   ·obtain ⟨x01,g5,b3⟩:=ab b3
    obtain ⟨h6,h7,h8⟩:=aj g5
    obtain ⟨x02,g9,b3⟩:=ab b3
    obtain ⟨h10,h11,h12⟩:=aj g9
    obtain ⟨r03,g13,b3⟩:=ab b3
    simp(config:=cS)only[go_sem,hc_v2.1,hc_v2.2,hm_v2,hk_v2,eqT h1,eqT h4,h6,h7,h8,h10,h11,h12]
    refine ag (hp_v2 _ _ _ g13) ?_
    obtain ⟨h14,b3⟩|⟨h14,b3⟩:=af b3
    ·cases b3
     simp(config:=cS)only[go_sem,hc_v2.1,hc_v2.2,hm_v2,hk_v2,eqT h1,eqT h4,h6,h7,h8,h10,h11,h12,eZt h14]
     refine aq gb3 ?_
     simp(config:=cS)only[go_sem,hc_v2.1,hc_v2.2,hm_v2,hk_v2,eqT h1,eqT h4,h6,h7,h8,h10,h11,h12,eZt h14]
    ·cases b3
     obtain rfl:=(ak gb3).symm
     try dsimp only at h
     cases h
     simp(config:=cS)only[go_sem,hc_v2.1,hc_v2.2,hm_v2,hk_v2,eqT h1,eqT h4,h6,h7,h8,h10,h11,h12,eZf h14]
   ·cases b3
    obtain rfl:=(ak gb3).symm
    try dsimp only at h
    cases h
    simp(config:=cS)only[go_sem,hc_v2.1,hc_v2.2,hm_v2,hk_v2,eqT h1,eqF h4]
 ·cases h
  simp(config:=cS)only[go_sem,hc_v2.1,hc_v2.2,hm_v2,hk_v2,eqF h1]
attribute [go_sem] Tryz.ntmps83 Tryz.results83
theorem xD {a b:GEntry}{res:Bool}(h:di a b=some res):am Tryz.prog 83 [.agg (GEntry.encS a),.agg (GEntry.encS b)] [] (.lit (.bool res)) []:=by
 refine ai (ra:=[]) (md:=mdT) hT (hi:=hi00) Tryz.func83 rfl rfl (by decide +kernel) (by simp) ?_
 unfold di at h
 obtain ⟨h1,h⟩|⟨h1,h⟩:=af h
 ·obtain ⟨r01,g2,h⟩:=ab h
  simp(config:=cS)only[go_sem,eqT h1]
  refine ag (bX g2) ?_
  obtain ⟨h3,h⟩|⟨h3,h⟩:=af h
  ·obtain ⟨r02,g4,h⟩:=ab h
   simp(config:=cS)only[go_sem,eqT h1,eZt h3]
   refine ag (bX g4) ?_
   obtain ⟨h5,h⟩|⟨h5,h⟩:=af h
   ·obtain ⟨r03,g6,h⟩:=ab h
    simp(config:=cS)only[go_sem,eqT h1,eZt h3,eZt h5]
    refine ag (bX g6) ?_
    cases h
    simp(config:=cS)only[go_sem,eqT h1,eZt h3,eZt h5]
   ·cases h
    simp(config:=cS)only[go_sem,eqT h1,eZt h3,eZf h5]
  ·cases h
   simp(config:=cS)only[go_sem,eqT h1,eZf h3]
 ·cases h
  simp(config:=cS)only[go_sem,eqF h1]
attribute [go_sem] Tryz.ntmps26 Tryz.results26
theorem zx {a b:GDesk}{res:Bool}(h:gO a b=some res):am Tryz.prog 26 [.agg (GDesk.encS a),.agg (GDesk.encS b)] [] (.lit (.bool res)) []:=by
 refine ai (ra:=[]) (md:=mdT) hT (hi:=hi00) Tryz.func26 rfl rfl (by decide +kernel) (by simp) ?_
 unfold gO at h
 obtain ⟨r01,g1,h⟩:=ab h
 simp(config:=cS)only[go_sem]
 refine ag (zw g1) ?_
 obtain ⟨h2,h⟩|⟨h2,h⟩:=af h
 ·obtain ⟨r02,g3,h⟩:=ab h
  simp(config:=cS)only[go_sem,eZt h2]
  refine ag (tn g3) ?_
  obtain ⟨h4,h⟩|⟨h4,h⟩:=af h
  ·obtain ⟨h5,h⟩|⟨h5,h⟩:=af h
   ·obtain ⟨r03,g6,h⟩:=ab h
    simp(config:=cS)only[go_sem,eZt h2,eZt h4,eqT h5]
    refine ag (uj (by exact fun _ _ _ hr=>xD hr) (by refine ⟨fun _=>?_,fun _=>?_⟩ <;> simp only [go_sem]) (fun _=>rfl) rfl g6) ?_
    cases h
    simp(config:=cS)only[go_sem,eZt h2,eZt h4,eqT h5]
   ·cases h
    simp(config:=cS)only[go_sem,eZt h2,eZt h4,eqF h5]
  ·cases h
   simp(config:=cS)only[go_sem,eZt h2,eZf h4]
 ·cases h
  simp(config:=cS)only[go_sem,eZf h2]
@[go_sem] def hi5_8:DT:=.i2 0 (.i1 2 (.i1 3 (.i1 4 (.i1 5 (.i0 1 [2,3,4,5] (.i2 6 (.i2 7 .nil)))))))
def hi5:Hint where
 acts:=fun i=>match i with | 7=>[.freeze [1408]] | 8=>[.freeze [1408]] | 9=>[.freeze [1408]] | _=>[]
 draws:=fun
  | 8=>⟨hi5_8,[[],[0],[],[2],[2,3],[2,3,4],.range 6,.range 7],.range 8⟩
  | _=>⟨.nil,[],[]⟩
@[go_sem] theorem Tm:hi5.acts 0=[]:=rfl
@[go_sem] theorem Tn:hi5.acts 1=[]:=rfl
@[go_sem] theorem To:hi5.acts 2=[]:=rfl
@[go_sem] theorem Tp:hi5.acts 3=[]:=rfl
@[go_sem] theorem Tq:hi5.acts 4=[]:=rfl
@[go_sem] theorem Tr:hi5.acts 5=[]:=rfl
@[go_sem] theorem Ts:hi5.acts 6=[]:=rfl
@[go_sem] theorem Tt:hi5.acts 7=[.freeze [1408]]:=rfl
@[go_sem] theorem Tu:hi5.acts 8=[.freeze [1408]]:=rfl
@[go_sem] theorem Tv:hi5.acts 9=[.freeze [1408]]:=rfl
@[go_sem] theorem SS:hi5.acts 10=[]:=rfl
@[go_sem] theorem ST:hi5.acts 11=[]:=rfl
@[go_sem] theorem SU:hi5.acts 12=[]:=rfl
@[go_sem] theorem SV:hi5.acts 13=[]:=rfl
theorem hi5v (i:Nat):hi5.views i=none:=rfl
attribute [go_sem] hi5v Tryz.ntmps5 Tryz.results5
@[go_sem] theorem Tw:(hi5.draws 8).order=hi5_8:=rfl
theorem Dq {code:List Int}{res:Bool}(h:oP code=some res):am Tryz.prog 5 [.sl (ae (eK .u8) code)] [] (.lit (.bool res)) []:=by
 refine ai (ra:=[]) (md:=mdT) hT (hi:=hi5) Tryz.func5 rfl rfl (by decide +kernel) (by simp) ?_
 unfold oP at h
 obtain ⟨h1,h⟩|⟨h1,h⟩:=af h
 ·cases h
  simp(config:=cS)only[go_sem,eqT h1]
 ·obtain ⟨r01,g2,h⟩:=ab h
  simp(config:=cS)only[go_sem,eqF h1]
  refine ag (AH g2) ?_
  obtain ⟨r02,g3,h⟩:=ab h
  simp(config:=cS)only[go_sem,eqF h1]
  refine ag (zt g3) ?_
  obtain ⟨h4,h⟩|⟨h4,h⟩:=af h
  ·obtain ⟨h5,h⟩|⟨h5,h⟩:=af h
   ·obtain ⟨r03,g6,h⟩:=ab h
    simp(config:=cS)only[go_sem,eqF h1,eqT h4,eqT h5]
    refine ag (sX g6) ?_
    cases h
    simp(config:=cS)only[go_sem,eqF h1,eqT h4,eqT h5]
   ·cases h
    simp(config:=cS)only[go_sem,eqF h1,eqT h4,eqF h5]
  ·obtain ⟨x04,g7,h⟩:=ab h
   obtain ⟨h9,h10⟩:=cK (k:=0) g7
   obtain ⟨r05,g11,h⟩:=ab h
   simp(config:=cS)only[go_sem,eqF h1,eqF h4,h9,h10]
   refine ag (Cc g11) ?_
   obtain ⟨h12,h⟩:=ah h
   obtain ⟨r06,g13,h⟩:=ab h
   simp(config:=cS)only[go_sem,eqF h1,eqF h4,h9,h10,eqF h12]
   refine ag (AI g13) ?_
   obtain ⟨r07,g14,h⟩:=ab h
   simp(config:=cS)only[go_sem,eqF h1,eqF h4,h9,h10,eqF h12]
   refine ag (Be g14) ?_
   obtain ⟨h15,h⟩|⟨h15,h⟩:=af h
   ·obtain ⟨h16,h⟩|⟨h16,h⟩:=af h
    ·obtain ⟨r08,g17,h⟩:=ab h
     simp(config:=cS)only[go_sem,eqF h1,eqF h4,h9,h10,eqF h12,eqT h15,eqT h16]
     refine ag (AJ g17) ?_
     obtain ⟨h18,h⟩|⟨h18,h⟩:=af h
     ·cases h
      simp(config:=cS)only[go_sem,eqF h1,eqF h4,h9,h10,eqF h12,eqT h15,eqT h16,eZt h18]
     ·obtain ⟨r09,g19,h⟩:=ab h
      simp(config:=cS)only[go_sem,eqF h1,eqF h4,h9,h10,eqF h12,eqT h15,eqT h16,eZf h18]
      refine ag (wU g19) ?_
      obtain ⟨h20,h⟩|⟨h20,h⟩:=af h
      ·obtain ⟨r10,g21,h⟩:=ab h
       simp(config:=cS)only[go_sem,eqF h1,eqF h4,h9,h10,eqF h12,eqT h15,eqT h16,eZf h18,eZt h20]
       refine ag (wU g21) ?_
       obtain ⟨h22,h⟩|⟨h22,h⟩:=af h
       ·obtain ⟨r11,g23,h⟩:=ab h
        simp(config:=cS)only[go_sem,eqF h1,eqF h4,h9,h10,eqF h12,eqT h15,eqT h16,eZf h18,eZt h20,eZt h22]
        refine ag (AJ g23) ?_
        obtain ⟨h24,h⟩|⟨h24,h⟩:=af h
        ·cases h
         simp(config:=cS)only[go_sem,eqF h1,eqF h4,h9,h10,eqF h12,eqT h15,eqT h16,eZf h18,eZt h20,eZt h22,eZt h24]
        ·obtain ⟨r12,g25,h⟩:=ab h
         simp(config:=cS)only[go_sem,eqF h1,eqF h4,h9,h10,eqF h12,eqT h15,eqT h16,eZf h18,eZt h20,eZt h22,eZf h24]
         refine ag (AK g25) ?_
         cases h
         simp(config:=cS)only[go_sem,eqF h1,eqF h4,h9,h10,eqF h12,eqT h15,eqT h16,eZf h18,eZt h20,eZt h22,eZf h24]
       ·cases h
        simp(config:=cS)only[go_sem,eqF h1,eqF h4,h9,h10,eqF h12,eqT h15,eqT h16,eZf h18,eZt h20,eZf h22]
      ·cases h
       simp(config:=cS)only[go_sem,eqF h1,eqF h4,h9,h10,eqF h12,eqT h15,eqT h16,eZf h18,eZf h20]
    ·cases h
     simp(config:=cS)only[go_sem,eqF h1,eqF h4,h9,h10,eqF h12,eqT h15,eqF h16]
   ·obtain ⟨r13,g26,h⟩:=ab h
    simp(config:=cS)only[go_sem,eqF h1,eqF h4,h9,h10,eqF h12,eqF h15]
    refine ag (zx g26) ?_
    obtain ⟨h27,h⟩|⟨h27,h⟩:=af h
    ·obtain ⟨h28,h⟩|⟨h28,h⟩:=af h
     ·cases h
      simp(config:=cS)only[go_sem,eqF h1,eqF h4,h9,h10,eqF h12,eqF h15,eZt h27,eqT h28]
     ·obtain ⟨h29,h⟩|⟨h29,h⟩:=af h
      ·cases h
       simp(config:=cS)only[go_sem,eqF h1,eqF h4,h9,h10,eqF h12,eqF h15,eZt h27,eqF h28,eqT h29]
      ·cases h
       simp(config:=cS)only[go_sem,eqF h1,eqF h4,h9,h10,eqF h12,eqF h15,eZt h27,eqF h28,eqF h29]
    ·cases h
     simp(config:=cS)only[go_sem,eqF h1,eqF h4,h9,h10,eqF h12,eqF h15,eZf h27]
end Go.Proofs.QD
