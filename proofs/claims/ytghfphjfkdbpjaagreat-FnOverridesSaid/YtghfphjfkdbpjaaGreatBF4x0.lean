/- Functions. -/
import Derived.Test.YtghfphjfkdbpjaaGreatBFK2
set_option linter.all false
set_option maxRecDepth 100000
set_option maxHeartbeats 4000000
namespace Go.Proofs.QB
open Go
def qZ (a:List Int):(Int × Int)→St
 | (b,i)=>⟨[(0,.sl (ae (eK .u8) a)),(3,.lit (.int .i64 b)),(4,.lit (.int .i64 i))],[],2⟩
attribute [go_sem] qZ
attribute [go_sem] Tryz.ntmps55 Tryz.results55
theorem wV {code:List Int}{res:GL01Cur}(h:jW code=some res):al Tryz.prog 55 [.sl (ae (eK .u8) code)] [] (.ptr 20000 1 0 0) [(20000,1,.var [.sl (ae (eK .u8) res.b),.lit (.int .i64 res.i),.lit (.int .i64 res.h)])]:=by
 refine ai (ra:=[]) (md:=mdT) hT (hi:=hi00) Tryz.func55 rfl rfl (by decide +kernel) (by simp) ?_
 unfold jW at h
 obtain ⟨q02,l1,h⟩:=ab h
 simp(config:=cS)only[go_sem]
 refine an (m1:=.mk) (m2:=.mk) [.nf [0,3,4] []] (qZ code) l1 ?_ ?_
 ·simp(config:=cS)only[go_sem]
 ·intro nb2 sb2 bb2 b2 gb2
  obtain ⟨v3_1,i_1⟩:=sb2
  unfold ju at b2
  try dsimp only at b2
  obtain ⟨h3,b2⟩|⟨h3,b2⟩:=af b2
  ·obtain ⟨h4,b2⟩|⟨h4,b2⟩:=af b2
   ·obtain ⟨x01,g5,b2⟩:=ab b2
    obtain ⟨h6,h7,h8⟩:=aj g5
    cases b2
    simp(config:=cS)only[go_sem,eqT h3,eqT h4,h6,h7,h8]
    refine ao gb2 ?_
    simp(config:=cS)only[go_sem]
   ·cases b2
    obtain rfl:=(ak gb2).symm
    try dsimp only at h
    cases h
    simp(config:=cS)only[go_sem,eqT h3,eqF h4]
  ·cases b2
   obtain rfl:=(ak gb2).symm
   try dsimp only at h
   cases h
   simp(config:=cS)only[go_sem,eqF h3]
@[go_sem] def hi77_4:DT:=.i2 0 (.i2 1 (.i2 2 (.i2 3 (.i2 4 (.i2 5 (.i2 6 (.i2 7 (.i2 8 (.i2 9 (.i2 10 (.i2 11 (.i2 12 (.i2 13 (.i2 14 .nil))))))))))))))
@[go_sem] def hi77_3:DT:=.i2 0 (.i2 1 (.i2 2 (.i2 3 (.i2 4 (.i2 5 (.i2 6 (.i2 7 (.i2 8 (.i2 9 .nil)))))))))
@[go_sem] def hi77_2:DT:=.i2 0 (.i2 1 (.i2 2 (.i2 3 (.i2 4 (.i2 5 (.i2 6 (.i2 7 (.i2 8 (.i2 9 (.i2 10 (.i2 11 (.i2 12 .nil))))))))))))
def hi77:Hint where
 acts:=fun _=>[]
 draws:=fun
  | 2=>⟨hi77_2,[[],[0],[0,1],[0,1,2],[0,1,2,3],[],[5],[5,6],[5,6,7],[5,6,7,8],.range 10,.range 11,.range 12],.range 13⟩
  | 3=>⟨hi77_3,[[],[0],[0,1],[0,1,2],[],[4],[4,5],[4,5,6],[4,5,6,7],.range 9],.range 10⟩
  | 4=>⟨hi77_4,[[],[],[1],[1,2],[1,2,3],[],[5],[5,6],[5,6,7],[1,2,3,4,5,6,7,8],[1,2,3,4,5,6,7,8,9],[1,2,3,4,5,6,7,8,9,10],.range 12,.range 13,.range 14],.range 15⟩
  | _=>⟨.nil,[],[]⟩
theorem PQ (i:Nat):hi77.acts i=[]:=rfl
theorem PS (i:Nat):hi77.views i=none:=rfl
attribute [go_sem] PQ PS Tryz.ntmps77 Tryz.results77
@[go_sem] theorem Sr:(hi77.draws 2).order=hi77_2:=rfl
@[go_sem] theorem Ss:(hi77.draws 3).order=hi77_3:=rfl
@[go_sem] theorem Su:(hi77.draws 4).order=hi77_4:=rfl
theorem eo {v0:GL01Cur}{res:Int × GL01Cur}(h:bG v0=some res):al Tryz.prog 77 [.ptr 10000 0 0 0] [(10000,0,.var [.sl (ae (eK .u8) v0.b),.lit (.int .i64 v0.i),.lit (.int .i64 v0.h)])] (.lit (.int .i64 res.1)) [(10000,0,.var [.sl (ae (eK .u8) res.2.b),.lit (.int .i64 res.2.i),.lit (.int .i64 res.2.h)])]:=by
 refine ai (ra:=[]) (md:=mdT) hT (hi:=hi77) Tryz.func77 rfl rfl (by decide +kernel) (by simp) ?_
 unfold bG at h
 obtain ⟨h1,h⟩|⟨h1,h⟩:=af h
 ·obtain ⟨x01,g2,h⟩:=ab h
  obtain ⟨h3,h4,h5⟩:=aj g2
  cases h
  simp(config:=cS)only[go_sem,eqT h1,h3,h4,h5]
 ·cases h
  simp(config:=cS)only[go_sem,eqF h1]
attribute [go_sem] Tryz.ntmps149 Tryz.results149
theorem aH {v0:GL01Cur}{n:Int}{res:Int × GL01Cur}(h:aF v0 n=some res):al Tryz.prog 149 [.ptr 10000 0 0 0,.lit (.int .i64 n)] [(10000,0,.var [.sl (ae (eK .u8) v0.b),.lit (.int .i64 v0.i),.lit (.int .i64 v0.h)])] (.lit (.int .i64 res.1)) [(10000,0,.var [.sl (ae (eK .u8) res.2.b),.lit (.int .i64 res.2.i),.lit (.int .i64 res.2.h)])]:=by
 refine ai (ra:=[]) (md:=mdT) hT (hi:=hi00) Tryz.func149 rfl rfl (by decide +kernel) (by simp) ?_
 unfold aF at h
 obtain ⟨h1,h⟩|⟨h1,h⟩:=af h
 ·cases h
  simp(config:=cS)only[go_sem,eqT h1]
 ·obtain ⟨h2,h⟩|⟨h2,h⟩:=af h
  ·obtain ⟨r01,g3,h⟩:=ab h
   simp(config:=cS)only[go_sem,eqF h1,eqT h2]
   refine ag (eo g3) ?_
   obtain ⟨h4,h⟩:=ah h
   cases h
   simp(config:=cS)only[go_sem,eqF h4]
  ·obtain ⟨r02,g5,h⟩:=ab h
   simp(config:=cS)only[go_sem,eqF h1,eqF h2]
   refine ag (eo g5) ?_
   obtain ⟨r03,g6,h⟩:=ab h
   simp(config:=cS)only[go_sem]
   refine ag (eo g6) ?_
   obtain ⟨r04,g7,h⟩:=ab h
   simp(config:=cS)only[go_sem]
   refine ag (eo g7) ?_
   obtain ⟨r05,g8,h⟩:=ab h
   simp(config:=cS)only[go_sem]
   refine ag (eo g8) ?_
   obtain ⟨h9,h⟩:=ah h
   cases h
   simp(config:=cS)only[go_sem,eqF h9]
attribute [go_sem] Tryz.ntmps124 Tryz.results124
theorem lb {v0:GL01Cur}{n:Int}{res:Bool × GL01Cur}(h:dq v0 n=some res):al Tryz.prog 124 [.ptr 10000 0 0 0,.lit (.int .i64 n)] [(10000,0,.var [.sl (ae (eK .u8) v0.b),.lit (.int .i64 v0.i),.lit (.int .i64 v0.h)])] (.lit (.bool res.1)) [(10000,0,.var [.sl (ae (eK .u8) res.2.b),.lit (.int .i64 res.2.i),.lit (.int .i64 res.2.h)])]:=by
 refine ai (ra:=[]) (md:=mdT) hT (hi:=hi00) Tryz.func124 rfl rfl (by decide +kernel) (by simp) ?_
 unfold dq at h
 obtain ⟨r01,g1,h⟩:=ab h
 simp(config:=cS)only[go_sem]
 refine ag (aH g1) ?_
 cases h
 simp(config:=cS)only[go_sem]
def nS (f:Int)(a:List GNode):(Int × (List GTie) × (List Int) × Int × Int)→St
 | (i,b,c,d,e)=>⟨[(0,.ptr 10000 0 0 0),(2,.ptr 128 1 0 0),(3,.ptr 192 1 0 0),(5,.lit (.int .i64 i))],[(10000,0,.var [.sl (ae (eK .u8) c),.lit (.int .i64 d),.lit (.int .i64 e)]),(128,1,.var [.lit (.slice none 0 0),.lit (.slice none 0 0),.lit (.int .i64 0)]),(192,1,.var [.ref 1024 1 0 a.length,.ref 1664 1 0 b.length,.lit (.int .i64 f)]),(1024,1,.row true (ae GNode.encO a)),(1664,1,.row true (ae GTie.enc b))],2⟩
attribute [go_sem] nS
@[go_sem] def hi125_13:DT:=.i1 0 (.i1 1 (.i2 2 (.i2 3 (.i2 4 (.i0 5 [0,1] (.i2 6 (.i2 7 (.i0 8 [0,1] (.i2 9 (.i2 10 (.i2 11 .nil)))))))))))
@[go_sem] def hi125_9:DT:=.i1 0 (.i1 1 (.i2 2 (.i2 4 (.i2 5 (.i2 6 (.i2 7 (.i2 8 (.i0 3 [0,1] (.i0 9 [0,1] (.i2 10 (.i2 11 (.i0 12 [0,1] (.i2 13 (.i2 14 (.i2 15 .nil)))))))))))))))
def AC:Hint where
 acts:=fun _=>[]
 draws:=fun
  | 9=>⟨hi125_9,[[],[0],[],[2],[],[],[],[6],[],[2,3,8],[2,3,6,7,8,9],[2,3,4,5,6,7,8,9,10],[2,3,4,5,6,7,8,9,10,11],.range 13,.range 14,.range 15],.range 16⟩
  | 13=>⟨hi125_13,[[],[0],[],[],[],[4],[3,4,5],[2,3,4,5,6],[2,3,4,5,6,7],.range 9,.range 10,.range 11],.range 12⟩
  | _=>⟨.nil,[],[]⟩
theorem Nc (i:Nat):AC.acts i=[]:=rfl
theorem Nd (i:Nat):AC.views i=none:=rfl
attribute [go_sem] Nc Nd Tryz.ntmps125 Tryz.results125
@[go_sem] theorem Rh:(AC.draws 9).order=hi125_9:=rfl
@[go_sem] theorem QS:(AC.draws 13).order=hi125_13:=rfl
theorem zp {v0:GL01Cur}{res:GShow × GL01Cur}(h:jv v0=some res):al Tryz.prog 125 [.ptr 10000 0 0 0] [(10000,0,.var [.sl (ae (eK .u8) v0.b),.lit (.int .i64 v0.i),.lit (.int .i64 v0.h)])] (.agg [.ref 20000 1 0 res.1.nodes.length,.ref 20001 1 0 res.1.ties.length,.lit (.int .i64 res.1.horizon)]) [(10000,0,.var [.sl (ae (eK .u8) res.2.b),.lit (.int .i64 res.2.i),.lit (.int .i64 res.2.h)]),(20000,1,.row true (ae GNode.encO res.1.nodes)),(20001,1,.row true (ae GTie.enc res.1.ties))]:=by
 refine ai (ra:=[.homeCell 128 0,.homeCell 128 1]) (md:=mdT) hT (hi:=AC) Tryz.func125 rfl rfl (by decide +kernel) (by simp) ?_
 unfold jv at h
 obtain ⟨r01,g1,h⟩:=ab h
 simp(config:=cS)only[go_sem]
 refine ag (aH g1) ?_
 obtain ⟨r02,g2,h⟩:=ab h
 simp(config:=cS)only[go_sem]
 refine ag (aH g2) ?_
 obtain ⟨r03,g3,h⟩:=ab h
 simp(config:=cS)only[go_sem]
 refine ag (aH g3) ?_
 obtain ⟨q10,l4,h⟩:=ab h
 simp(config:=cS)only[go_sem]
 refine an (m1:=.mk) (m2:=.mk) [.nf [0,2,3,5] [10000,128,192,1024,1664]] (nS (IntKind.wrap .i64 (4+r01.1)) ([(GNode.mk (ByteArray.mk #[103,111]) ([]) 0),(GNode.mk (ByteArray.mk #[97]) ([]) 1),(GNode.mk (ByteArray.mk #[98]) ([1]) 0),(GNode.mk (ByteArray.mk #[99]) ([(-1)]) 0)])) l4 ?_ ?_
 ·simp(config:=cS)only[go_sem]
 ·intro nb5 sb5 bb5 b5 gb5
  obtain ⟨i_1,h1664_1,v0_0_1,v0_1_1,v0_2_1⟩:=sb5
  unfold fZ at b5
  try dsimp only at b5
  obtain ⟨h6,b5⟩|⟨h6,b5⟩:=af b5
  ·obtain ⟨r04,g7,b5⟩:=ab b5
   simp(config:=cS)only[go_sem,eqT h6]
   refine ag (aH g7) ?_
   obtain ⟨r05,g8,b5⟩:=ab b5
   simp(config:=cS)only[go_sem]
   refine ag (aH g8) ?_
   obtain ⟨r06,g9,b5⟩:=ab b5
   simp(config:=cS)only[go_sem]
   refine ag (aH g9) ?_
   obtain ⟨h10,b5⟩:=ah b5
   obtain ⟨h11,b5⟩:=ah b5
   cases b5
   simp(config:=cS)only[go_sem,eqT h10,eqT h11]
   refine ao gb5 ?_
   simp(config:=cS)only[go_sem]
  ·cases b5
   obtain rfl:=(ak gb5).symm
   try dsimp only at h
   obtain ⟨r07,g13,h⟩:=ab h
   simp(config:=cS)only[go_sem,eqF h6]
   refine ag (lb g13) ?_
   obtain ⟨h14,h⟩|⟨h14,h⟩:=af h
   ·obtain ⟨r08,g15,h⟩:=ab h
    simp(config:=cS)only[go_sem,eZt h14]
    refine ag (aH g15) ?_
    obtain ⟨r09,g16,h⟩:=ab h
    simp(config:=cS)only[go_sem]
    refine ag (aH g16) ?_
    obtain ⟨h17,h⟩:=ah h
    obtain ⟨h18,h⟩:=ah h
    cases h
    simp(config:=cS)only[go_sem,eqT h17,eqT h18]
   ·cases h
    simp(config:=cS)only[go_sem,eZf h14]
attribute [go_sem] Tryz.ntmps203 Tryz.results203
theorem vP {i:Int}{res:ByteArray}(h:jg i=some res):al Tryz.prog 203 [.lit (.int .i64 i)] [] (.lit (.string res)) []:=by
 refine ai (ra:=[]) (md:=mdT) hT (hi:=hi00) Tryz.func203 rfl rfl (by decide +kernel) (by simp) ?_
 unfold jg at h
 obtain ⟨x01,g1,h⟩:=ab h
 obtain ⟨h2,h3,h4⟩:=aj g1
 simp only [List.length_cons,List.length_nil,Nat.zero_add,Nat.reduceAdd] at h4
 cases h
 simp(config:=cS)only[go_sem,h2,h3,h4]
def qf (m f:Int)(a:List GNode):(Int × (List Int) × Int × Int × (List GTie))→St
 | (k,c,d,e,b)=>⟨[(0,.ptr 10000 0 0 0),(3,.ptr 192 1 0 0),(4,.ptr 256 1 0 0),(5,.lit (.int .i64 m)),(6,.lit (.int .i64 k))],[(10000,0,.var [.sl (ae (eK .u8) c),.lit (.int .i64 d),.lit (.int .i64 e)]),(192,1,.var [.ref 10001 0 0 a.length,.ref 10002 1 0 b.length,.lit (.int .i64 f)]),(10001,0,.row true (ae GNode.encO a)),(10002,1,.row true (ae GTie.enc b)),(256,1,.var [.lit (.slice none 0 0),.lit (.slice none 0 0),.lit (.int .i64 0)])],2⟩
attribute [go_sem] qf
@[go_sem] def hi204_7:DT:=.i1 0 (.i1 1 (.i2 2 (.i2 3 (.i2 4 (.i2 5 (.i2 6 (.i2 7 (.i2 10 (.i2 12 (.i2 13 (.i2 14 (.i2 15 (.i0 8 [0,1] (.i2 9 (.i2 11 (.i0 16 [0,1] (.i2 17 (.i2 18 (.i0 19 [0,1] (.i2 20 (.i2 21 (.i2 22 .nil))))))))))))))))))))))
def DW:Hint where
 acts:=fun _=>[]
 draws:=fun
  | 7=>⟨hi204_7,[[],[0],[],[],[3],[],[],[6],[5,6,7],[3,4,5,6,7,8],[],[3,4,5,6,7,8,9,10],[],[],[13],[],[5,6,7,8,15],[5,6,7,8,13,14,15,16],[2,3,4,5,6,7,8,9,10,11,12,13,14,15,16,17],[2,3,4,5,6,7,8,9,10,11,12,13,14,15,16,17,18],.range 20,.range 21,.range 22],.range 23⟩
  | _=>⟨.nil,[],[]⟩
theorem Nf (i:Nat):DW.acts i=[]:=rfl
theorem Ng (i:Nat):DW.views i=none:=rfl
attribute [go_sem] Nf Ng Tryz.ntmps204 Tryz.results204
@[go_sem] theorem Ri:(DW.draws 7).order=hi204_7:=rfl
theorem BO {v0:GL01Cur}{s:GShow}{res:GShow × GL01Cur × (List GNode)}(h:ll v0 s=some res):al Tryz.prog 204 [.ptr 10000 0 0 0,.agg [.ref 10001 0 0 s.nodes.length,.ref 10002 0 0 s.ties.length,.lit (.int .i64 s.horizon)]] [(10000,0,.var [.sl (ae (eK .u8) v0.b),.lit (.int .i64 v0.i),.lit (.int .i64 v0.h)]),(10001,0,.row true (ae GNode.encO s.nodes)),(10002,0,.row true (ae GTie.enc s.ties))] (.agg [.ref 10001 0 0 res.2.2.length,.ref 20000 1 0 res.1.ties.length,.lit (.int .i64 res.1.horizon)]) [(10000,0,.var [.sl (ae (eK .u8) res.2.1.b),.lit (.int .i64 res.2.1.i),.lit (.int .i64 res.2.1.h)]),(10001,0,.row true (ae GNode.encO res.2.2)),(20000,1,.row true (ae GTie.enc res.1.ties))]:=by
 refine ai (ra:=[.homeCell 256 0,.homeCell 256 1]) (md:=mdT) hT (hi:=DW) Tryz.func204 rfl rfl (by decide +kernel) (by simp) ?_
 unfold ll at h
 obtain ⟨r01,g1,h⟩:=ab h
 simp(config:=cS)only[go_sem]
 refine ag (aH g1) ?_
 obtain ⟨q06,l2,h⟩:=ab h
 simp(config:=cS)only[go_sem]
 refine an (m1:=.mk) (m2:=.mk) [.nfo [0,3,4,5,6] [10000,192,10001,10002,256] [10002]] (qf ((s.nodes.length:Nat):Int) s.horizon s.nodes) l2 ?_ ?_
 ·simp(config:=cS)only[go_sem]
 ·intro nb3 sb3 bb3 b3 gb3
  obtain ⟨k_1,v0_0_1,v0_1_1,v0_2_1,h10002_1⟩:=sb3
  unfold ix at b3
  try dsimp only at b3
  obtain ⟨h4,b3⟩|⟨h4,b3⟩:=af b3
  ·obtain ⟨r02,g5,b3⟩:=ab b3
   simp(config:=cS)only[go_sem,eqT h4]
   refine ag (aH g5) ?_
   obtain ⟨r03,g6,b3⟩:=ab b3
   simp(config:=cS)only[go_sem]
   refine ag (aH g6) ?_
   obtain ⟨r04,g7,b3⟩:=ab b3
   simp(config:=cS)only[go_sem]
   refine ag (aH g7) ?_
   obtain ⟨h8,b3⟩:=ah b3
   obtain ⟨r05,g9,b3⟩:=ab b3
   simp(config:=cS)only[go_sem,eqF h8]
   refine ag (aH g9) ?_
   obtain ⟨h10,b3⟩:=ah b3
   obtain ⟨h11,b3⟩:=ah b3
   cases b3
   simp(config:=cS)only[go_sem,eqT h10,eqT h11]
   refine ao gb3 ?_
   simp(config:=cS)only[go_sem]
  ·cases b3
   obtain rfl:=(ak gb3).symm
   try dsimp only at h
   cases h
   simp(config:=cS)only[go_sem,eqF h4]
def pn (f:Int):(Int × (List GNode) × (List Int) × Int × Int × (List GTie))→St
 | (n,b,c,d,e,a)=>⟨[(0,.ptr 10000 0 0 0),(2,.ptr 128 1 0 0),(3,.ptr 192 1 0 0),(4,.lit (.int .i64 n))],[(10000,0,.var [.sl (ae (eK .u8) c),.lit (.int .i64 d),.lit (.int .i64 e)]),(128,1,.var [.lit (.slice none 0 0),.lit (.slice none 0 0),.lit (.int .i64 0)]),(192,1,.var [.ref 512 1 0 b.length,.ref 100012289 1 0 a.length,.lit (.int .i64 f)]),(512,1,.row true (ae GNode.encO b)),(100012289,1,.row true (ae GTie.enc a))],2⟩
attribute [go_sem] pn
@[go_sem] def hi126_12:DT:=.i1 0 (.i1 1 (.i2 2 (.i2 3 (.i2 4 (.i2 5 (.i2 6 (.i2 7 (.i0 8 [0,1] (.i2 9 (.i2 10 (.i0 11 [0,1] (.i2 12 (.i2 13 (.i2 14 .nil))))))))))))))
@[go_sem] def hi126_11:DT:=.i1 0 (.i1 1 (.i2 2 (.i2 3 (.i0 4 [0,1] (.i2 5 (.i0 6 [0,1] (.i2 7 (.i2 8 (.i2 9 .nil)))))))))
@[go_sem] def hi126_8:DT:=.i1 0 (.i1 1 (.i2 2 (.i2 3 (.i2 5 (.i2 6 (.i2 7 (.i2 8 (.i0 4 [0,1] (.i0 9 [0,1] (.i2 10 (.i2 11 (.i0 12 [0,1] (.i2 13 (.i2 14 (.i2 15 .nil)))))))))))))))
@[go_sem] def hi126_7:DT:=.i1 0 (.i1 1 (.i2 2 (.i0 3 [0,1] (.i2 4 (.i0 5 [0,1] (.i2 6 (.i2 7 (.i2 8 .nil))))))))
def wB:Hint where
 acts:=fun _=>[]
 draws:=fun
  | 7=>⟨hi126_7,[[],[0],[],[2],[2,3],[2,3,4],.range 6,.range 7,.range 8],.range 9⟩
  | 8=>⟨hi126_8,[[],[0],[],[],[2,3],[],[],[],[],[2,3,4,8],[2,3,4,7,8,9],[2,3,4,5,6,7,8,9,10],[2,3,4,5,6,7,8,9,10,11],.range 13,.range 14,.range 15],.range 16⟩
  | 11=>⟨hi126_11,[[],[0],[],[2],[2,3],[2,3,4],[2,3,4,5],.range 7,.range 8,.range 9],.range 10⟩
  | 12=>⟨hi126_12,[[],[0],[],[],[3],[],[],[],[7],[6,7,8],[2,3,4,5,6,7,8,9],[2,3,4,5,6,7,8,9,10],.range 12,.range 13,.range 14],.range 15⟩
  | _=>⟨.nil,[],[]⟩
theorem Nh (i:Nat):wB.acts i=[]:=rfl
theorem Ni (i:Nat):wB.views i=none:=rfl
attribute [go_sem] Nh Ni Tryz.ntmps126 Tryz.results126
@[go_sem] theorem Rj:(wB.draws 7).order=hi126_7:=rfl
@[go_sem] theorem Rk:(wB.draws 8).order=hi126_8:=rfl
@[go_sem] theorem QT:(wB.draws 11).order=hi126_11:=rfl
@[go_sem] theorem QU:(wB.draws 12).order=hi126_12:=rfl
theorem AD {v0:GL01Cur}{res:GShow × GL01Cur}(h:kf v0=some res):al Tryz.prog 126 [.ptr 10000 0 0 0] [(10000,0,.var [.sl (ae (eK .u8) v0.b),.lit (.int .i64 v0.i),.lit (.int .i64 v0.h)])] (.agg [.ref 20000 1 0 res.1.nodes.length,.ref 20001 1 0 res.1.ties.length,.lit (.int .i64 res.1.horizon)]) [(10000,0,.var [.sl (ae (eK .u8) res.2.b),.lit (.int .i64 res.2.i),.lit (.int .i64 res.2.h)]),(20000,1,.row true (ae GNode.encO res.1.nodes)),(20001,1,.row true (ae GTie.enc res.1.ties))]:=by
 refine ai (ra:=[.homeCell 128 0,.homeCell 128 1]) (md:=mdT) hT (hi:=wB) Tryz.func126 rfl rfl (by decide +kernel) (by simp) ?_
 unfold kf at h
 obtain ⟨r01,g1,h⟩:=ab h
 simp(config:=cS)only[go_sem]
 refine ag (aH g1) ?_
 obtain ⟨r02,g2,h⟩:=ab h
 simp(config:=cS)only[go_sem]
 refine ag (aH g2) ?_
 obtain ⟨q12,l3,h⟩:=ab h
 simp(config:=cS)only[go_sem]
 refine an (m1:=.mk) (m2:=.mk) [.homeCell 192 1,.nf [0,2,3,4] [10000,128,192,512,100012289]] (pn (IntKind.wrap .i64 (4+r01.1))) l3 ?_ ?_
 ·simp(config:=cS)only[go_sem]
 ·intro nb4 sb4 bb4 b4 gb4
  obtain ⟨n_1,h512_1,v0_0_1,v0_1_1,v0_2_1,h100012289_1⟩:=sb4
  unfold hS at b4
  try dsimp only at b4
  obtain ⟨h5,b4⟩|⟨h5,b4⟩:=af b4
  ·obtain ⟨r03,g6,b4⟩:=ab b4
   simp(config:=cS)only[go_sem,eqT h5]
   refine ag (aH g6) ?_
   obtain ⟨r04,g7,b4⟩:=ab b4
   simp(config:=cS)only[go_sem]
   refine ag (vP g7) ?_
   obtain ⟨h8,b4⟩:=ah b4
   obtain ⟨h9,b4⟩:=ah b4
   obtain ⟨r05,g10,b4⟩:=ab b4
   simp(config:=cS)only[go_sem,eqT h8,eqT h9]
   refine ag (aH g10) ?_
   obtain ⟨r06,g11,b4⟩:=ab b4
   simp(config:=cS)only[go_sem]
   refine ag (aH g11) ?_
   obtain ⟨h12,b4⟩:=ah b4
   obtain ⟨h13,b4⟩:=ah b4
   obtain ⟨r07,g14,b4⟩:=ab b4
   simp(config:=cS)only[go_sem,eqT h12,eqT h13]
   refine ag (lb g14) ?_
   obtain ⟨h15,b4⟩|⟨h15,b4⟩:=af b4
   ·obtain ⟨h16,b4⟩|⟨h16,b4⟩:=af b4
    ·obtain ⟨r08,g17,b4⟩:=ab b4
     simp(config:=cS)only[go_sem,eZt h15,eqT h16]
     refine ag (aH g17) ?_
     obtain ⟨r09,g18,b4⟩:=ab b4
     simp(config:=cS)only[go_sem]
     refine ag (vP g18) ?_
     obtain ⟨h19,b4⟩:=ah b4
     try simp(config:=cS)only[go_sem] at h19
     obtain ⟨h20,b4⟩:=ah b4
     try simp(config:=cS)only[go_sem] at h20
     obtain ⟨r10,g21,b4⟩:=ab b4
     simp(config:=cS)only[go_sem,eqT h5,eqT h8,eqT h9,eqT h12,eqT h13,eZt h15,eqT h16,eqT h19,eqT h20]
     refine ag (aH g21) ?_
     obtain ⟨h22,b4⟩:=ah b4
     try simp(config:=cS)only[go_sem] at h22
     obtain ⟨h23,b4⟩:=ah b4
     try simp(config:=cS)only[go_sem] at h23
     cases b4
     simp(config:=cS)only[go_sem,eqT h5,eqT h8,eqT h9,eqT h12,eqT h13,eZt h15,eqT h16,eqT h19,eqT h20,eqT h22,eqT h23]
     refine ao gb4 ?_
     simp(config:=cS)only[go_sem]
    ·cases b4
     simp(config:=cS)only[go_sem,eZt h15,eqF h16]
     refine ao gb4 ?_
     simp(config:=cS)only[go_sem]
   ·cases b4
    simp(config:=cS)only[go_sem,eZf h15]
    refine ao gb4 ?_
    simp(config:=cS)only[go_sem]
  ·cases b4
   obtain rfl:=(ak gb4).symm
   try dsimp only at h
   obtain ⟨r11,g25,h⟩:=ab h
   simp(config:=cS)only[go_sem,eqF h5]
   refine ag (BO g25) ?_
   cases h
   simp(config:=cS)only[go_sem]
attribute [go_sem] Tryz.ntmps54 Tryz.results54
theorem BP {v0:GL01Cur}{res:GShow × GL01Cur}(h:lm v0=some res):al Tryz.prog 54 [.ptr 10000 0 0 0] [(10000,0,.var [.sl (ae (eK .u8) v0.b),.lit (.int .i64 v0.i),.lit (.int .i64 v0.h)])] (.agg [.ref 20000 1 0 res.1.nodes.length,.ref 20001 1 0 res.1.ties.length,.lit (.int .i64 res.1.horizon)]) [(10000,0,.var [.sl (ae (eK .u8) res.2.b),.lit (.int .i64 res.2.i),.lit (.int .i64 res.2.h)]),(20000,1,.row true (ae GNode.encO res.1.nodes)),(20001,1,.row true (ae GTie.enc res.1.ties))]:=by
 refine ai (ra:=[.homeCell 128 0,.homeCell 128 1]) (md:=mdT) hT (hi:=hi00) Tryz.func54 rfl rfl (by decide +kernel) (by simp) ?_
 unfold lm at h
 obtain ⟨r01,g1,h⟩:=ab h
 simp(config:=cS)only[go_sem]
 refine ag (lb g1) ?_
 obtain ⟨h2,h⟩|⟨h2,h⟩:=af h
 ·obtain ⟨r02,g3,h⟩:=ab h
  simp(config:=cS)only[go_sem,eZt h2]
  refine ag (zp g3) ?_
  cases h
  simp(config:=cS)only[go_sem]
 ·obtain ⟨r03,g4,h⟩:=ab h
  simp(config:=cS)only[go_sem,eZf h2]
  refine ag (AD g4) ?_
  cases h
  simp(config:=cS)only[go_sem]
@[go_sem] def hi96_3:DT:=.i2 0 (.i1 2 (.i2 4 (.i0 1 [2] (.i2 3 (.i2 5 (.i2 6 (.i2 7 .nil)))))))
def hi96:Hint where
 acts:=fun _=>[]
 draws:=fun
  | 3=>⟨hi96_3,[[],[0],[],[0,1,2],[],.range 5,.range 6,.range 7],.range 8⟩
  | _=>⟨.nil,[],[]⟩
theorem PT (i:Nat):hi96.acts i=[]:=rfl
theorem PU (i:Nat):hi96.views i=none:=rfl
attribute [go_sem] PT PU Tryz.ntmps96 Tryz.results96
@[go_sem] theorem Sv:(hi96.draws 3).order=hi96_3:=rfl
theorem BQ {s:GShow}{lazy:Bool}{res:GDesk × Bool}(h:lu s lazy=some res):al Tryz.prog 96 [.agg (GShow.encS s),.lit (.bool lazy)] [] (.tup [.agg [.ref 20000 1 0 res.1.show_.nodes.length,.ref 20001 1 0 res.1.show_.ties.length,.lit (.int .i64 res.1.show_.horizon),.lit (.int .i64 res.1.state.now),.ref 20002 1 0 res.1.state.times.length,.ref 20003 1 0 res.1.state.values.length,.lit (.bool res.1.lazy),.ref 20004 1 0 res.1.log.length],.lit (.bool res.2)]) [(20000,1,.row true (ae GNode.encO res.1.show_.nodes)),(20001,1,.row true (ae GTie.enc res.1.show_.ties)),(20002,1,.row true (ae eI res.1.state.times)),(20003,1,.row true (ae eI res.1.state.values)),(20004,1,.row true (ae GEntry.encO res.1.log))]:=by
 refine ai (ra:=[.homeCell 256 0,.homeCell 256 1,.homeCell 256 4,.homeCell 256 5,.homeCell 256 7]) (md:=mdT) hT (hi:=hi96) Tryz.func96 rfl rfl (by decide +kernel) (by simp) ?_
 unfold lu at h
 obtain ⟨r01,g1,h⟩:=ab h
 simp(config:=cS)only[go_sem]
 refine ag (lX g1) ?_
 obtain ⟨h2,h⟩|⟨h2,h⟩:=af h
 ·obtain ⟨r02,g3,h⟩:=ab h
  simp(config:=cS)only[go_sem,eZt h2]
  refine ag (rJ g3) ?_
  obtain ⟨r03,g4,h⟩:=ab h
  simp(config:=cS)only[go_sem]
  refine ag (te g4) ?_
  cases h
  simp(config:=cS)only[go_sem]
 ·cases h
  simp(config:=cS)only[go_sem,eZf h2]
def nT  : (Int × (List Int) × (List Int) × Int × Int)→St
 | (p,v,a,b,c)=>⟨[(0,.ptr 10000 0 0 0),(3,.ref 320 1 0 v.length),(4,.lit (.int .i64 p))],[(10000,0,.var [.sl (ae (eK .u8) a),.lit (.int .i64 b),.lit (.int .i64 c)]),(320,1,.row true (ae eI v))],2⟩
attribute [go_sem] nT
attribute [go_sem] Tryz.ntmps151 Tryz.results151
theorem zq {v0:GL01Cur}{res:(List Int) × GL01Cur}(h:jE v0=some res):al Tryz.prog 151 [.ptr 10000 0 0 0] [(10000,0,.var [.sl (ae (eK .u8) v0.b),.lit (.int .i64 v0.i),.lit (.int .i64 v0.h)])] (.ref 20000 1 0 res.1.length) [(10000,0,.var [.sl (ae (eK .u8) res.2.b),.lit (.int .i64 res.2.i),.lit (.int .i64 res.2.h)]),(20000,1,.row true (ae eI res.1))]:=by
 refine ai (ra:=[.home 2]) (md:=mdT) hT (hi:=hi00) Tryz.func151 rfl rfl (by decide +kernel) (by simp) ?_
 unfold jE at h
 obtain ⟨q04,l1,h⟩:=ab h
 simp(config:=cS)only[go_sem]
 refine an (m1:=.mk) (m2:=.mk) [.nf [0,3,4] [10000,320]] (nT) l1 ?_ ?_
 ·simp(config:=cS)only[go_sem]
 ·intro nb2 sb2 bb2 b2 gb2
  obtain ⟨p_1,v_1,v0_0_1,v0_1_1,v0_2_1⟩:=sb2
  unfold gk at b2
  try dsimp only at b2
  obtain ⟨h3,b2⟩|⟨h3,b2⟩:=af b2
  ·obtain ⟨r01,g4,b2⟩:=ab b2
   simp(config:=cS)only[go_sem,eqT h3]
   refine ag (aH g4) ?_
   obtain ⟨h5,b2⟩:=ah b2
   obtain ⟨h6,b2⟩:=ah b2
   cases b2
   simp(config:=cS)only[go_sem,eqT h5,eqT h6]
   refine ao gb2 ?_
   simp(config:=cS)only[go_sem]
  ·cases b2
   obtain rfl:=(ak gb2).symm
   try dsimp only at h
   obtain ⟨r02,g8,h⟩:=ab h
   simp(config:=cS)only[go_sem,eqF h3]
   refine ag (lb g8) ?_
   obtain ⟨h9,h⟩|⟨h9,h⟩:=af h
   ·obtain ⟨x03,g10,h⟩:=ab h
    obtain ⟨h12,h13⟩:=cV (k:=0) g10
    cases h
    simp(config:=cS)only[go_sem,eZt h9,h12,h13]
   ·cases h
    simp(config:=cS)only[go_sem,eZf h9]
def qg  : (Int × Int × Int × Bool × (List GNode) × (List GTie) × (List Int) × (List Int) × (List GEntry) × (List Int) × Int × Int)→St
 | (n,i,j,k,a,b,c,d,e,f,g,h)=>⟨[(0,.ptr 10000 0 0 0),(2,.ptr 128 1 0 0),(3,.ptr 192 1 0 0),(5,.lit (.int .i64 n))],[(10000,0,.var [.sl (ae (eK .u8) f),.lit (.int .i64 g),.lit (.int .i64 h)]),(128,1,.var [.lit (.slice none 0 0),.lit (.slice none 0 0),.lit (.int .i64 0),.lit (.int .i64 0),.lit (.slice none 0 0),.lit (.slice none 0 0),.lit (.bool false),.lit (.slice none 0 0)]),(192,1,.var [.ref 768 1 0 a.length,.ref 769 1 0 b.length,.lit (.int .i64 i),.lit (.int .i64 j),.ref 770 1 0 c.length,.ref 771 1 0 d.length,.lit (.bool k),.ref 772 1 0 e.length]),(768,1,.row true (ae GNode.encO a)),(769,1,.row true (ae GTie.enc b)),(770,1,.row true (ae eI c)),(771,1,.row true (ae eI d)),(772,1,.row true (ae GEntry.encO e))],2⟩
attribute [go_sem] qg
@[go_sem] def hi67_8:DT:=.i1 0 (.i2 1 (.i2 2 (.i2 3 (.i2 4 (.i2 8 (.i0 5 [0] (.i1 6 (.i1 7 (.i0 9 [0,6,7] (.i2 10 (.i2 11 (.i2 12 (.i2 13 (.i2 14 (.i2 15 .nil)))))))))))))))
def hi67:Hint where
 acts:=fun i=>match i with | 8=>[.freeze [1600]] | _=>[]
 draws:=fun
  | 8=>⟨hi67_8,[[],[],[],[],[3],[2,3,4],[1,2,3,4,5],[1,2,3,4,5,6],[],[2,3,4,5,8],.range 10,.range 11,.range 12,.range 12,.range 12,.range 13],[0,1,2,3,4,5,6,7,8,9,10,11,12,14,15,13]⟩
  | _=>⟨.nil,[],[]⟩
@[go_sem] theorem Sw:hi67.acts 0=[]:=rfl
@[go_sem] theorem Sx:hi67.acts 1=[]:=rfl
@[go_sem] theorem Sy:hi67.acts 2=[]:=rfl
@[go_sem] theorem Sz:hi67.acts 3=[]:=rfl
@[go_sem] theorem SA:hi67.acts 5=[]:=rfl
@[go_sem] theorem SB:hi67.acts 6=[]:=rfl
@[go_sem] theorem SC:hi67.acts 7=[]:=rfl
@[go_sem] theorem SD:hi67.acts 8=[.freeze [1600]]:=rfl
@[go_sem] theorem SE:hi67.acts 4=[]:=rfl
@[go_sem] theorem SF:hi67.acts 9=[]:=rfl
theorem PV (i:Nat):hi67.views i=none:=rfl
attribute [go_sem] PV Tryz.ntmps67 Tryz.results67
@[go_sem] theorem SG:(hi67.draws 8).order=hi67_8:=rfl
theorem BR {v0:GL01Cur}{res:GDesk × GL01Cur}(h:nu v0=some res):al Tryz.prog 67 [.ptr 10000 0 0 0] [(10000,0,.var [.sl (ae (eK .u8) v0.b),.lit (.int .i64 v0.i),.lit (.int .i64 v0.h)])] (.agg [.ref 20000 1 0 res.1.show_.nodes.length,.ref 20001 1 0 res.1.show_.ties.length,.lit (.int .i64 res.1.show_.horizon),.lit (.int .i64 res.1.state.now),.ref 20002 1 0 res.1.state.times.length,.ref 20003 1 0 res.1.state.values.length,.lit (.bool res.1.lazy),.ref 20004 1 0 res.1.log.length]) [(10000,0,.var [.sl (ae (eK .u8) res.2.b),.lit (.int .i64 res.2.i),.lit (.int .i64 res.2.h)]),(20000,1,.row true (ae GNode.encO res.1.show_.nodes)),(20001,1,.row true (ae GTie.enc res.1.show_.ties)),(20002,1,.row true (ae eI res.1.state.times)),(20003,1,.row true (ae eI res.1.state.values)),(20004,1,.row true (ae GEntry.encO res.1.log))]:=by
 refine ai (ra:=[.homeCell 128 0,.homeCell 128 1,.homeCell 128 4,.homeCell 128 5,.homeCell 128 7]) (md:=mdT) hT (hi:=hi67) Tryz.func67 rfl rfl (by decide +kernel) (by simp) ?_
 unfold nu at h
 obtain ⟨r01,g1,h⟩:=ab h
 simp(config:=cS)only[go_sem]
 refine ag (BP g1) ?_
 obtain ⟨r02,g2,h⟩:=ab h
 simp(config:=cS)only[go_sem]
 refine ag (lb g2) ?_
 obtain ⟨r03,g3,h⟩:=ab h
 simp(config:=cS)only[go_sem]
 refine ag (BQ g3) ?_
 obtain ⟨r04,g4,h⟩:=ab h
 simp(config:=cS)only[go_sem]
 refine ag (aH g4) ?_
 obtain ⟨q10,l5,h⟩:=ab h
 simp(config:=cS)only[go_sem]
 refine an (m1:=.mk) (m2:=.mk) [.nfp [0,2,3,5] [(10000,10000),(128,128),(192,192),(2624,768),(768,768),(2625,769),(769,769),(2626,770),(770,770),(2627,771),(771,771),(2628,772),(772,772)] []] (qg) l5 ?_ ?_
 ·simp(config:=cS)only[go_sem]
 ·intro nb6 sb6 bb6 b6 gb6
  obtain ⟨n_1,d_2_1,d_3_1,d_6_1,h768_1,h769_1,h770_1,h771_1,h772_1,v0_0_1,v0_1_1,v0_2_1⟩:=sb6
  unfold iJ at b6
  try dsimp only at b6
  obtain ⟨h7,b6⟩|⟨h7,b6⟩:=af b6
  ·obtain ⟨r05,g8,b6⟩:=ab b6
   simp(config:=cS)only[go_sem,eqT h7]
   refine ag (ui g8) ?_
   obtain ⟨h9,b6⟩|⟨h9,b6⟩:=af b6
   ·cases b6
    obtain rfl:=(ak gb6).symm
    try dsimp only at h
    cases h
    simp(config:=cS)only[go_sem,eqT h7,eqT h9]
   ·obtain ⟨r06,g11,b6⟩:=ab b6
    simp(config:=cS)only[go_sem,eqT h7,eqF h9]
    refine ag (aH g11) ?_
    obtain ⟨x07,g12,b6⟩:=ab b6
    obtain ⟨h13,h14,h15⟩:=aj g12
    obtain ⟨r08,g16,b6⟩:=ab b6
    simp(config:=cS)only[go_sem,eqT h7,eqF h9,h13,h14,h15]
    refine ag (zq g16) ?_
    obtain ⟨r09,g17,b6⟩:=ab b6
    simp(config:=cS)only[go_sem,eqT h7,eqF h9,h13,h14,h15]
    refine ag (AU g17) ?_
    cases b6
    simp(config:=cS)only[go_sem,eqT h7,eqF h9,h13,h14,h15]
    refine ao gb6 ?_
    simp(config:=cS)only[go_sem,eqT h7,eqF h9,h13,h14,h15]
  ·cases b6
   obtain rfl:=(ak gb6).symm
   try dsimp only at h
   cases h
   simp(config:=cS)only[go_sem,eqF h7]
attribute [go_sem] Tryz.ntmps17 Tryz.results17
theorem AE {code:List Int}{res:GDesk}(h:kA code=some res):al Tryz.prog 17 [.sl (ae (eK .u8) code)] [] (.agg [.ref 20000 1 0 res.show_.nodes.length,.ref 20001 1 0 res.show_.ties.length,.lit (.int .i64 res.show_.horizon),.lit (.int .i64 res.state.now),.ref 20002 1 0 res.state.times.length,.ref 20003 1 0 res.state.values.length,.lit (.bool res.lazy),.ref 20004 1 0 res.log.length]) [(20000,1,.row true (ae GNode.encO res.show_.nodes)),(20001,1,.row true (ae GTie.enc res.show_.ties)),(20002,1,.row true (ae eI res.state.times)),(20003,1,.row true (ae eI res.state.values)),(20004,1,.row true (ae GEntry.encO res.log))]:=by
 refine ai (ra:=[.homeCell 128 0,.homeCell 128 1,.homeCell 128 4,.homeCell 128 5,.homeCell 128 7]) (md:=mdT) hT (hi:=hi00) Tryz.func17 rfl rfl (by decide +kernel) (by simp) ?_
 unfold kA at h
 obtain ⟨r01,g1,h⟩:=ab h
 simp(config:=cS)only[go_sem]
 refine ag (wV g1) ?_
 obtain ⟨r02,g2,h⟩:=ab h
 simp(config:=cS)only[go_sem]
 refine ag (BR g2) ?_
 cases h
 simp(config:=cS)only[go_sem]
attribute [go_sem] Tryz.ntmps18 Tryz.results18
theorem ug {s:GShow}{v1:GState}{res:List (List Int)}(h:gQ s v1=some res):al Tryz.prog 18 [.agg (GShow.encS s),.agg (GState.encS v1)] [] (.ref 20000 1 0 res.length) [(20000,1,.row true (ae (eLO eI) res))]:=by
 refine ai (ra:=[.home 4]) (md:=mdT) hT (hi:=hi00) Tryz.func18 rfl rfl (by decide +kernel) (by simp) ?_
 unfold gQ at h
 obtain ⟨r01,g1,h⟩:=ab h
 simp(config:=cS)only[go_sem]
 refine ag (lk g1) ?_
 obtain ⟨h2,h⟩|⟨h2,h⟩:=af h
 ·obtain ⟨r02,g3,h⟩:=ab h
  simp(config:=cS)only[go_sem,eZt h2]
  refine ag (gC g3) ?_
  cases h
  simp(config:=cS)only[go_sem]
 ·cases h
  simp(config:=cS)only[go_sem,eZf h2]
attribute [go_sem] Tryz.ntmps19 Tryz.results19
theorem Dd {s:GShow}{v1:GState}{res:Bool}(h:ml s v1=some res):al Tryz.prog 19 [.agg (GShow.encS s),.agg (GState.encS v1)] [] (.lit (.bool res)) []:=by
 refine ai (ra:=[]) (md:=mdT) hT (hi:=hi00) Tryz.func19 rfl rfl (by decide +kernel) (by simp) ?_
 unfold ml at h
 obtain ⟨r01,g1,h⟩:=ab h
 simp(config:=cS)only[go_sem]
 refine ag (lk g1) ?_
 obtain ⟨h2,h⟩|⟨h2,h⟩:=af h
 ·obtain ⟨r02,g3,h⟩:=ab h
  simp(config:=cS)only[go_sem,eZt h2]
  refine ag (fc g3) ?_
  obtain ⟨h4,h⟩|⟨h4,h⟩:=af h
  ·cases h
   simp(config:=cS)only[go_sem,eZt h2,eZt h4]
  ·obtain ⟨r03,g5,h⟩:=ab h
   simp(config:=cS)only[go_sem,eZt h2,eZf h4]
   refine ag (gE g5) ?_
   cases h
   simp(config:=cS)only[go_sem,eZt h2,eZf h4]
 ·cases h
  simp(config:=cS)only[go_sem,eZf h2]
@[go_sem] def hi72_1:DT:=.i1 0 (.i2 1 (.i2 2 (.i2 3 (.i2 4 (.i2 5 (.i1 7 (.i0 6 [0,7] (.i0 8 [0] (.i2 9 (.i2 10 (.i2 11 (.i2 12 (.i0 13 [0] (.i2 14 (.i2 15 (.i2 16 .nil))))))))))))))))
def hi72:Hint where
 acts:=fun _=>[]
 draws:=fun
  | 1=>⟨hi72_1,[[],[],[1],[1,2],[1,2,3],[],[1,2,3,4,5],[],[1,2,3,4,5,6,7],[1,2,3,4,5,6,7,8],[1,2,3,4,5,6,7,8,9],[1,2,3,4,5,6,7,8,9],[1,2,3,4,5,6,7,8,9],[1,2,3,4,5,6,7,8,9,10,11,12],[1,2,3,4,5,6,7,8,9,10,11,12,13],.range 14,.range 16],[0,1,2,3,4,5,6,7,8,9,10,11,12,13,15,14,16]⟩
  | _=>⟨.nil,[],[]⟩
theorem PW (i:Nat):hi72.acts i=[]:=rfl
theorem PX (i:Nat):hi72.views i=none:=rfl
attribute [go_sem] PW PX Tryz.ntmps72 Tryz.results72
@[go_sem] theorem SH:(hi72.draws 1).order=hi72_1:=rfl
theorem qh {g_s:GShow}{g_known:List (ByteArray × Bool)}{v1:GState}{nodes:List Int}{res:(List Int) × Bool × (List (ByteArray × Bool))}(h:fq g_s g_known v1 nodes=some res):al Tryz.prog 72 [.ptr 10000 0 0 0,.agg (GState.encS v1),.loc [.sl (ae eI nodes)]] [(10000,0,.var [.sl (ae GNode.encS g_s.nodes),.sl (ae GTie.enc g_s.ties),.lit (.int .i64 g_s.horizon),.mp 10001 0]),(10001,0,.map (eM g_known))] (.tup [.sl (ae eI res.1),.lit (.bool res.2.1)]) [(10000,0,.var [.sl (ae GNode.encS g_s.nodes),.sl (ae GTie.enc g_s.ties),.lit (.int .i64 g_s.horizon),.mp 10001 0]),(10001,0,.map (eM res.2.2))]:=by
 refine ai (ra:=[.home 5]) (md:=mdT) hT (hi:=hi72) Tryz.func72 rfl rfl (by decide +kernel) (by simp) ?_
 unfold fq at h
 obtain ⟨r01,g1,h⟩:=ab h
 simp(config:=cS)only[go_sem]
 refine ag (js g1) ?_
 obtain ⟨r02,g2,h⟩:=ab h
 simp(config:=cS)only[go_sem]
 refine ag (iS g2) ?_
 obtain ⟨h3,h⟩|⟨h3,h⟩:=af h
 ·obtain ⟨r03,g4,h⟩:=ab h
  simp(config:=cS)only[go_sem,eZt h3]
  refine ag (mV g4) ?_
  cases h
  simp(config:=cS)only[go_sem,eZt h3]
 ·cases h
  simp(config:=cS)only[go_sem,eZf h3]
def bU (s h l:List Int)(t m n:Int)(o:Bool)(p:Int)(q r:List Int)(i:Int)(a:List GNode)(b:List GTie)(c d:List Int)(e:List GEntry)(f g j:List Int):(Int × (List Int))→St
 | (u,k)=>⟨[(1,.sl (ae eI s)),(2,.sl (ae eI h)),(10,.ptr 640 1 0 0),(13,.ptr 832 1 0 0),(15,.ptr 960 1 0 0),(17,.sl (ae eI l)),(19,.ptr 1216 1 0 0),(20,.ref 5506 1 0 j.length),(21,.ref 1407 1 0 k.length),(89,.ref 5506 1 0 j.length),(90,.lit (.int .i64 t)),(91,.lit (.int .i64 u))],[(640,1,.var [.lit (.slice none 0 0),.lit (.slice none 0 0),.lit (.int .i64 0),.lit (.int .i64 0),.lit (.slice none 0 0),.lit (.slice none 0 0),.lit (.bool false),.lit (.slice none 0 0)]),(832,1,.var [.ref 1600 1 0 a.length,.ref 1601 1 0 b.length,.lit (.int .i64 m),.lit (.int .i64 n),.ref 1602 1 0 c.length,.ref 1603 1 0 d.length,.lit (.bool o),.ref 1604 1 0 e.length]),(1600,1,.row true (ae GNode.encO a)),(1601,1,.row true (ae GTie.enc b)),(1602,1,.row true (ae eI c)),(1603,1,.row true (ae eI d)),(1604,1,.row true (ae GEntry.encO e)),(960,1,.var [.lit (.int .i64 p),.sl (ae eI q),.sl (ae eI r)]),(1216,1,.var [.lit (.int .i64 i),.ref 5504 1 0 f.length,.ref 5505 1 0 g.length]),(5504,1,.row true (ae eI f)),(5505,1,.row true (ae eI g)),(5506,1,.row true (ae eI j)),(1407,1,.row true (ae eI k))],2⟩
attribute [go_sem] bU
@[go_sem] def hi71_s72_22:DT:=.i1 0 (.i2 1 (.i0 2 [0] (.i2 3 (.i2 4 (.i2 5 .nil)))))
@[go_sem] def hi71_s72_21:DT:=.i1 0 (.i1 1 (.i1 2 (.i1 3 (.i2 4 (.i2 6 (.i2 8 (.i2 9 (.i0 5 [0,1,2,3] (.i0 7 [0,1,2,3] (.i0 10 [0,1,2,3] (.i2 11 (.i0 12 [0,1] (.i2 13 (.i2 14 (.i2 15 .nil)))))))))))))))
@[go_sem] def hi71_s72_10:DT:=.i2 0 (.i2 1 (.i1 3 (.i0 2 [3] (.i2 4 (.i2 5 (.i2 6 (.i2 7 (.i2 8 (.i2 9 .nil)))))))))
@[go_sem] def hi71_s72_4:DT:=.i1 0 (.i1 1 (.i1 2 (.i1 3 (.fork (.i0 4 [0,1,2,3] (.i0 5 [0,1,2,3] (.i0 6 [2,3] (.i2 7 .nil)))) (.i0 5 [0,1,2,3] (.i0 4 [0,1,2,3] (.i0 6 [2,3] (.i2 7 .nil))))))))
def oR:Hint where
 acts:=fun _=>[]
 draws:=fun
  | 4=>⟨hi71_s72_4,[[],[0],[],[2],[],[],[0,1,4,5],.range 7],[0,1,5,6,2,3,4,7]⟩
  | 10=>⟨hi71_s72_10,[[],[],[1],[],[0,1,2,3],.range 5,.range 6,.range 6,.range 7,.range 9],[0,1,2,3,4,5,6,8,7,9]⟩
  | 21=>⟨hi71_s72_21,[[],[0],[],[2],[],[4],[],[4,5,6],[],[],[4,5,6,7,8,9],[2,3,4,5,6,7,8,9,10],[2,3,4,5,6,7,8,9,10,11],.range 13,.range 14,.range 15],.range 16⟩
  | 22=>⟨hi71_s72_22,[[],[],[1],[0,1,2],[0,1,2,3],.range 5],.range 6⟩
  | _=>⟨.nil,[],[]⟩
theorem Ji (i:Nat):oR.acts i=[]:=rfl
theorem Jj (i:Nat):oR.views i=none:=rfl
attribute [go_sem] Ji Jj Tryz.ntmps71 Tryz.results71
@[go_sem] theorem PY:(oR.draws 4).order=hi71_s72_4:=rfl
@[go_sem] theorem Pq:(oR.draws 10).order=hi71_s72_10:=rfl
@[go_sem] theorem Pr:(oR.draws 21).order=hi71_s72_21:=rfl
@[go_sem] theorem Ps:(oR.draws 22).order=hi71_s72_22:=rfl
theorem mI {d:GDesk}{ties values:List Int}{refused:Int}{nodes:List Int}{res:GDesk × (List Int) × Int}(h:bl d ties values refused nodes=some res):al Tryz.prog 71 [.agg (GDesk.encS d),.sl (ae eI ties),.sl (ae eI values),.lit (.int .i64 refused),.fn 72 [.loc [.sl (ae eI nodes)]]] [] (.tup [.agg [.ref 20000 1 0 res.1.show_.nodes.length,.ref 20001 1 0 res.1.show_.ties.length,.lit (.int .i64 res.1.show_.horizon),.lit (.int .i64 res.1.state.now),.ref 20002 1 0 res.1.state.times.length,.ref 20003 1 0 res.1.state.values.length,.lit (.bool res.1.lazy),.ref 20004 1 0 res.1.log.length],.ref 20005 1 0 res.2.1.length,.lit (.int .i64 res.2.2)]) [(20000,1,.row true (ae GNode.encO res.1.show_.nodes)),(20001,1,.row true (ae GTie.enc res.1.show_.ties)),(20002,1,.row true (ae eI res.1.state.times)),(20003,1,.row true (ae eI res.1.state.values)),(20004,1,.row true (ae GEntry.encO res.1.log)),(20005,1,.row true (ae eI res.2.1))]:=by
 refine ai (ra:=[.homeCell 640 0,.homeCell 640 1,.homeCell 640 4,.homeCell 640 5,.homeCell 640 7,.home 11]) (md:=mdT) hT (hi:=oR) Tryz.func71 rfl rfl (by decide +kernel) (by simp) ?_
 unfold bl at h
 obtain ⟨r01,g1,h⟩:=ab h
 simp(config:=cS)only[go_sem]
 refine ag (uZ g1) ?_
 obtain ⟨r02,g2,h⟩:=ab h
 simp(config:=cS)only[go_sem]
 refine ag (jU g2) ?_
 obtain ⟨h3,h⟩|⟨h3,h⟩:=af h
 ·obtain ⟨h4,h⟩|⟨h4,h⟩:=af h
  ·obtain ⟨r03,g5,h⟩:=ab h
   simp(config:=cS)only[go_sem,eZt h3,eqT h4]
   refine ag (cK (by exact fun _ _ hr=>rr hr) (by refine ⟨fun _=>?_,fun _=>?_⟩ <;> simp only [go_sem]) (fun _=>rfl) rfl g5) ?_
   obtain ⟨h6,h⟩|⟨h6,h⟩:=af h
   ·cases h
    simp(config:=cS)only[go_sem,eZt h3,eqT h4,eZt h6]
   ·try simp(config:=cS)only[go_sem,eZt h3,eqT h4,eZf h6]
    refine bj ?_ ?_
    ·obtain ⟨r04,g7,h⟩:=ab h
     simp(config:=cS)only[go_sem,eZt h3,eqT h4,eZf h6]
     refine ag (fc g7) ?_
     obtain ⟨h8,h⟩|⟨h8,h⟩:=af h
     ·cases h
      simp(config:=cS)only[go_sem,eZt h3,eqT h4,eZf h6,eZt h8]
     ·obtain ⟨r05,g9,h⟩:=ab h
      simp(config:=cS)only[go_sem,eZt h3,eqT h4,eZf h6,eZf h8]
      refine ag (gE g9) ?_
      obtain ⟨h10,h⟩|⟨h10,h⟩:=af h
      ·cases h
       simp(config:=cS)only[go_sem,eZt h3,eqT h4,eZf h6,eZf h8,eZt h10]
      ·obtain ⟨h11,h⟩|⟨h11,h⟩:=af h
       ·cases h
        simp(config:=cS)only[go_sem,eZt h3,eqT h4,eZf h6,eZf h8,eZf h10,eqT h11]
       ·obtain ⟨r06,g12,h⟩:=ab h
        simp(config:=cS)only[go_sem,eZt h3,eqT h4,eZf h6,eZf h8,eZf h10,eqF h11]
        refine ag (gC g12) ?_
        obtain ⟨r07,g13,h⟩:=ab h
        simp(config:=cS)only[go_sem,eZt h3,eqT h4,eZf h6,eZf h8,eZf h10,eqF h11]
        refine ag (iS g13) ?_
        obtain ⟨h14,h⟩|⟨h14,h⟩:=af h
        ·obtain ⟨r08,g15,h⟩:=ab h
         simp(config:=cS)only[go_sem,eZt h3,eqT h4,eZf h6,eZf h8,eZf h10,eqF h11,eZt h14]
         refine ag (jr g15) ?_
         obtain ⟨r09,g16,h⟩:=ab h
         simp(config:=cS)only[go_sem,eZt h3,eqT h4,eZf h6,eZf h8,eZf h10,eqF h11,eZt h14]
         refine ag (je g16) ?_
         obtain ⟨r10,g17,h⟩:=ab h
         simp(config:=cS)only[go_sem,eZt h3,eqT h4,eZf h6,eZf h8,eZf h10,eqF h11,eZt h14]
         refine ag (qh g17) ?_
         obtain ⟨h18,h⟩|⟨h18,h⟩:=af h
         ·obtain ⟨r11,g19,h⟩:=ab h
          simp(config:=cS)only[go_sem,eZt h3,eqT h4,eZf h6,eZf h8,eZf h10,eqF h11,eZt h14,eZt h18]
          refine ag (gD g19) ?_
          obtain ⟨q19,l20,h⟩:=ab h
          simp(config:=cS)only[go_sem,eZt h3,eqT h4,eZf h6,eZf h8,eZf h10,eqF h11,eZt h14,eZt h18]
          refine an (m1:=.mk) (m2:=.mk) [.home 21,.nf [1,2,10,13,15,17,19,20,21,89,90,91] [640,832,1600,1601,1602,1603,1604,960,1216,5504,5505,5506,1407]] (bU ties values r10.1 ((r11.2.length:Nat):Int) r01.show_.horizon r01.state.now r01.lazy d.state.now d.state.times d.state.values r11.1.now r01.show_.nodes r01.show_.ties r01.state.times r01.state.values r01.log r11.1.times r11.1.values r11.2) l20 ?_ ?_
          ·simp(config:=cS)only[go_sem,eZt h3,eqT h4,eZf h6,eZf h8,eZf h10,eqF h11,eZt h14,eZt h18]
          ·intro nb21 sb21 bb21 b21 gb21
           obtain ⟨v91_1,seen_1⟩:=sb21
           unfold aS at b21
           try dsimp only at b21
           obtain ⟨h22,b21⟩|⟨h22,b21⟩:=af b21
           ·obtain ⟨x12,g23,b21⟩:=ab b21
            obtain ⟨h24,h25,h26⟩:=aj g23
            obtain ⟨x13,g27,b21⟩:=ab b21
            obtain ⟨h28,h29,h30⟩:=aj g27
            obtain ⟨h31,b21⟩:=ah b21
            obtain ⟨h32,b21⟩:=ah b21
            cases b21
            simp(config:=cS)only[go_sem,eZt h3,eqT h4,eZf h6,eZf h8,eZf h10,eqF h11,eZt h14,eZt h18,eqT h22,h24,h25,h26,h28,h29,h30,eqT h31,eqT h32]
            refine ao gb21 ?_
            simp(config:=cS)only[go_sem,eZt h3,eqT h4,eZf h6,eZf h8,eZf h10,eqF h11,eZt h14,eZt h18,eqT h22,h24,h25,h26,h28,h29,h30,eqT h31,eqT h32]
           ·cases b21
            obtain rfl:=(ak gb21).symm
            try dsimp only at h
            obtain ⟨r14,g34,h⟩:=ab h
            simp(config:=cS)only[go_sem,eZt h3,eqT h4,eZf h6,eZf h8,eZf h10,eqF h11,eZt h14,eZt h18,eqF h22]
            refine ag (fb g34) ?_
            obtain ⟨r15,g35,h⟩:=ab h
            simp(config:=cS)only[go_sem,eZt h3,eqT h4,eZf h6,eZf h8,eZf h10,eqF h11,eZt h14,eZt h18,eqF h22]
            refine ag (aJ g35) ?_
            obtain ⟨r16,g36,h⟩:=ab h
            simp(config:=cS)only[go_sem,eZt h3,eqT h4,eZf h6,eZf h8,eZf h10,eqF h11,eZt h14,eZt h18,eqF h22]
            refine ag (aJ g36) ?_
            obtain ⟨r17,g37,h⟩:=ab h
            simp(config:=cS)only[go_sem,eZt h3,eqT h4,eZf h6,eZf h8,eZf h10,eqF h11,eZt h14,eZt h18,eqF h22]
            refine ag (mD g37) ?_
            obtain ⟨h38,h⟩:=ah h
            obtain ⟨h39,h⟩:=ah h
            obtain ⟨r18,g40,h⟩:=ab h
            simp(config:=cS)only[go_sem,eZt h3,eqT h4,eZf h6,eZf h8,eZf h10,eqF h11,eZt h14,eZt h18,eqF h22,eqT h38,eqT h39]
            refine ag (aJ g40) ?_
            cases h
            simp(config:=cS)only[go_sem,eZt h3,eqT h4,eZf h6,eZf h8,eZf h10,eqF h11,eZt h14,eZt h18,eqF h22,eqT h38,eqT h39]
         ·cases h
          simp(config:=cS)only[go_sem,eZt h3,eqT h4,eZf h6,eZf h8,eZf h10,eqF h11,eZt h14,eZf h18]
        ·cases h
         simp(config:=cS)only[go_sem,eZt h3,eqT h4,eZf h6,eZf h8,eZf h10,eqF h11,eZf h14]
    ·obtain ⟨r20,g41,h⟩:=ab h
     simp(config:=cS)only[go_sem,eZt h3,eqT h4,eZf h6]
     refine ag (fc g41) ?_
     obtain ⟨h42,h⟩|⟨h42,h⟩:=af h
     ·cases h
      simp(config:=cS)only[go_sem,eZt h3,eqT h4,eZf h6,eZt h42]
     ·obtain ⟨r21,g43,h⟩:=ab h
      simp(config:=cS)only[go_sem,eZt h3,eqT h4,eZf h6,eZf h42]
      refine ag (gE g43) ?_
      obtain ⟨h44,h⟩|⟨h44,h⟩:=af h
      ·cases h
       simp(config:=cS)only[go_sem,eZt h3,eqT h4,eZf h6,eZf h42,eZt h44]
      ·obtain ⟨h45,h⟩|⟨h45,h⟩:=af h
       ·cases h
        simp(config:=cS)only[go_sem,eZt h3,eqT h4,eZf h6,eZf h42,eZf h44,eqT h45]
       ·obtain ⟨r22,g46,h⟩:=ab h
        simp(config:=cS)only[go_sem,eZt h3,eqT h4,eZf h6,eZf h42,eZf h44,eqF h45]
        refine ag (gC g46) ?_
        obtain ⟨r23,g47,h⟩:=ab h
        simp(config:=cS)only[go_sem,eZt h3,eqT h4,eZf h6,eZf h42,eZf h44,eqF h45]
        refine ag (iS g47) ?_
        obtain ⟨h48,h⟩|⟨h48,h⟩:=af h
        ·obtain ⟨r24,g49,h⟩:=ab h
         simp(config:=cS)only[go_sem,eZt h3,eqT h4,eZf h6,eZf h42,eZf h44,eqF h45,eZt h48]
         refine ag (jr g49) ?_
         obtain ⟨r25,g50,h⟩:=ab h
         simp(config:=cS)only[go_sem,eZt h3,eqT h4,eZf h6,eZf h42,eZf h44,eqF h45,eZt h48]
         refine ag (je g50) ?_
         obtain ⟨r26,g51,h⟩:=ab h
         simp(config:=cS)only[go_sem,eZt h3,eqT h4,eZf h6,eZf h42,eZf h44,eqF h45,eZt h48]
         refine ag (qh g51) ?_
         obtain ⟨h52,h⟩|⟨h52,h⟩:=af h
         ·obtain ⟨r27,g53,h⟩:=ab h
          simp(config:=cS)only[go_sem,eZt h3,eqT h4,eZf h6,eZf h42,eZf h44,eqF h45,eZt h48,eZt h52]
          refine ag (gD g53) ?_
          obtain ⟨q35,l54,h⟩:=ab h
          simp(config:=cS)only[go_sem,eZt h3,eqT h4,eZf h6,eZf h42,eZf h44,eqF h45,eZt h48,eZt h52]
          refine an (m1:=.mk) (m2:=.mk) [.home 21,.nf [1,2,10,13,15,17,19,20,21,89,90,91] [640,832,1600,1601,1602,1603,1604,960,1216,5504,5505,5506,1407]] (bU ties values r26.1 ((r27.2.length:Nat):Int) r01.show_.horizon r01.state.now r01.lazy d.state.now d.state.times d.state.values r27.1.now r01.show_.nodes r01.show_.ties r01.state.times r01.state.values r01.log r27.1.times r27.1.values r27.2) l54 ?_ ?_
          ·simp(config:=cS)only[go_sem,eZt h3,eqT h4,eZf h6,eZf h42,eZf h44,eqF h45,eZt h48,eZt h52]
          ·intro nb55 sb55 bb55 b55 gb55
           obtain ⟨v91_2,seen_2⟩:=sb55
           unfold aS at b55
           try dsimp only at b55
           obtain ⟨h56,b55⟩|⟨h56,b55⟩:=af b55
           ·obtain ⟨x28,g57,b55⟩:=ab b55
            obtain ⟨h58,h59,h60⟩:=aj g57
            obtain ⟨x29,g61,b55⟩:=ab b55
            obtain ⟨h62,h63,h64⟩:=aj g61
            obtain ⟨h65,b55⟩:=ah b55
            obtain ⟨h66,b55⟩:=ah b55
            cases b55
            simp(config:=cS)only[go_sem,eZt h3,eqT h4,eZf h6,eZf h42,eZf h44,eqF h45,eZt h48,eZt h52,eqT h56,h58,h59,h60,h62,h63,h64,eqT h65,eqT h66]
            refine ao gb55 ?_
            simp(config:=cS)only[go_sem,eZt h3,eqT h4,eZf h6,eZf h42,eZf h44,eqF h45,eZt h48,eZt h52,eqT h56,h58,h59,h60,h62,h63,h64,eqT h65,eqT h66]
           ·cases b55
            obtain rfl:=(ak gb55).symm
            try dsimp only at h
            obtain ⟨r30,g68,h⟩:=ab h
            simp(config:=cS)only[go_sem,eZt h3,eqT h4,eZf h6,eZf h42,eZf h44,eqF h45,eZt h48,eZt h52,eqF h56]
            refine ag (fb g68) ?_
            obtain ⟨r31,g69,h⟩:=ab h
            simp(config:=cS)only[go_sem,eZt h3,eqT h4,eZf h6,eZf h42,eZf h44,eqF h45,eZt h48,eZt h52,eqF h56]
            refine ag (aJ g69) ?_
            obtain ⟨r32,g70,h⟩:=ab h
            simp(config:=cS)only[go_sem,eZt h3,eqT h4,eZf h6,eZf h42,eZf h44,eqF h45,eZt h48,eZt h52,eqF h56]
            refine ag (aJ g70) ?_
            obtain ⟨r33,g71,h⟩:=ab h
            simp(config:=cS)only[go_sem,eZt h3,eqT h4,eZf h6,eZf h42,eZf h44,eqF h45,eZt h48,eZt h52,eqF h56]
            refine ag (mD g71) ?_
            obtain ⟨h72,h⟩:=ah h
            obtain ⟨h73,h⟩:=ah h
            obtain ⟨r34,g74,h⟩:=ab h
            simp(config:=cS)only[go_sem,eZt h3,eqT h4,eZf h6,eZf h42,eZf h44,eqF h45,eZt h48,eZt h52,eqF h56,eqT h72,eqT h73]
            refine ag (aJ g74) ?_
            cases h
            simp(config:=cS)only[go_sem,eZt h3,eqT h4,eZf h6,eZf h42,eZf h44,eqF h45,eZt h48,eZt h52,eqF h56,eqT h72,eqT h73]
         ·cases h
          simp(config:=cS)only[go_sem,eZt h3,eqT h4,eZf h6,eZf h42,eZf h44,eqF h45,eZt h48,eZf h52]
        ·cases h
         simp(config:=cS)only[go_sem,eZt h3,eqT h4,eZf h6,eZf h42,eZf h44,eqF h45,eZf h48]
  ·cases h
   simp(config:=cS)only[go_sem,eZt h3,eqF h4]
 ·cases h
  simp(config:=cS)only[go_sem,eZf h3]
attribute [go_sem] Tryz.ntmps21 Tryz.results21
theorem kR {d:GDesk}{ties nodes values:List Int}{res:GDesk × Int}(h:bZ d ties nodes values=some res):al Tryz.prog 21 [.agg (GDesk.encS d),.sl (ae eI ties),.sl (ae eI nodes),.sl (ae eI values)] [] (.tup [.agg [.ref 20000 1 0 res.1.show_.nodes.length,.ref 20001 1 0 res.1.show_.ties.length,.lit (.int .i64 res.1.show_.horizon),.lit (.int .i64 res.1.state.now),.ref 20002 1 0 res.1.state.times.length,.ref 20003 1 0 res.1.state.values.length,.lit (.bool res.1.lazy),.ref 20004 1 0 res.1.log.length],.lit (.int .i64 res.2)]) [(20000,1,.row true (ae GNode.encO res.1.show_.nodes)),(20001,1,.row true (ae GTie.enc res.1.show_.ties)),(20002,1,.row true (ae eI res.1.state.times)),(20003,1,.row true (ae eI res.1.state.values)),(20004,1,.row true (ae GEntry.encO res.1.log))]:=by
 refine ai (ra:=[.homeCell 512 0,.homeCell 512 1,.homeCell 512 4,.homeCell 512 5,.homeCell 512 7]) (md:=mdT) hT (hi:=hi00) Tryz.func21 rfl rfl (by decide +kernel) (by simp) ?_
 unfold bZ at h
 obtain ⟨r01,g1,h⟩:=ab h
 simp(config:=cS)only[go_sem]
 refine ag (mI g1) ?_
 cases h
 simp(config:=cS)only[go_sem]
attribute [go_sem] Tryz.ntmps20 Tryz.results20
theorem AF {s:GShow}{v1:GState}{res:Bool}(h:kB s v1=some res):al Tryz.prog 20 [.agg (GShow.encS s),.agg (GState.encS v1)] [] (.lit (.bool res)) []:=by
 refine ai (ra:=[]) (md:=mdT) hT (hi:=hi00) Tryz.func20 rfl rfl (by decide +kernel) (by simp) ?_
 unfold kB at h
 obtain ⟨r01,g1,h⟩:=ab h
 simp(config:=cS)only[go_sem]
 refine ag (lk g1) ?_
 obtain ⟨h2,h⟩|⟨h2,h⟩:=af h
 ·obtain ⟨r02,g3,h⟩:=ab h
  simp(config:=cS)only[go_sem,eZt h2]
  refine ag (fc g3) ?_
  cases h
  simp(config:=cS)only[go_sem,eZt h2]
 ·cases h
  simp(config:=cS)only[go_sem,eZf h2]
def rb (n:Int):(Int × (List Int) × Int × Int)→St
 | (i,a,b,c)=>⟨[(1,.lit (.int .i64 n)),(5,.ptr 512 1 0 0),(6,.lit (.int .i64 i))],[(512,1,.var [.sl (ae (eK .u8) a),.lit (.int .i64 b),.lit (.int .i64 c)])],2⟩
attribute [go_sem] rb
attribute [go_sem] Tryz.ntmps76 Tryz.results76
theorem De {code:List Int}{n:Int}{res:GL01Cur}(h:ma code n=some res):al Tryz.prog 76 [.sl (ae (eK .u8) code),.lit (.int .i64 n)] [] (.ptr 20000 1 0 0) [(20000,1,.var [.sl (ae (eK .u8) res.b),.lit (.int .i64 res.i),.lit (.int .i64 res.h)])]:=by
 refine ai (ra:=[]) (md:=mdT) hT (hi:=hi00) Tryz.func76 rfl rfl (by decide +kernel) (by simp) ?_
 unfold ma at h
 obtain ⟨r01,g1,h⟩:=ab h
 simp(config:=cS)only[go_sem]
 refine ag (wV g1) ?_
 obtain ⟨q03,l2,h⟩:=ab h
 simp(config:=cS)only[go_sem]
 refine an (m1:=.mk) (m2:=.mk) [.nf [1,5,6] [512]] (rb n) l2 ?_ ?_
 ·simp(config:=cS)only[go_sem]
 ·intro nb3 sb3 bb3 b3 gb3
  obtain ⟨i_1,v5_0_1,v5_1_1,v5_2_1⟩:=sb3
  unfold jy at b3
  try dsimp only at b3
  obtain ⟨h4,b3⟩|⟨h4,b3⟩:=af b3
  ·obtain ⟨r02,g5,b3⟩:=ab b3
   simp(config:=cS)only[go_sem,eqT h4]
   refine ag (eo g5) ?_
   cases b3
   simp(config:=cS)only[go_sem]
   refine ao gb3 ?_
   simp(config:=cS)only[go_sem]
  ·cases b3
   obtain rfl:=(ak gb3).symm
   try dsimp only at h
   cases h
   simp(config:=cS)only[go_sem,eqF h4]
attribute [go_sem] Tryz.ntmps22 Tryz.results22
theorem vQ {code:List Int}{n res:Int}(h:ji code n=some res):al Tryz.prog 22 [.sl (ae (eK .u8) code),.lit (.int .i64 n)] [] (.lit (.int .i64 res)) []:=by
 refine ai (ra:=[]) (md:=mdT) hT (hi:=hi00) Tryz.func22 rfl rfl (by decide +kernel) (by simp) ?_
 unfold ji at h
 obtain ⟨r01,g1,h⟩:=ab h
 simp(config:=cS)only[go_sem]
 refine ag (De g1) ?_
 obtain ⟨r02,g2,h⟩:=ab h
 simp(config:=cS)only[go_sem]
 refine ag (eo g2) ?_
 obtain ⟨r03,g3,h⟩:=ab h
 simp(config:=cS)only[go_sem]
 refine ag (eo g3) ?_
 cases h
 simp(config:=cS)only[go_sem]
attribute [go_sem] Tryz.ntmps23 Tryz.results23
theorem xj {s:GShow}{v1:GState}{ties:List Int}{res:GState × Bool}(h:gu s v1 ties=some res):al Tryz.prog 23 [.agg (GShow.encS s),.agg (GState.encS v1),.sl (ae eI ties)] [] (.tup [.agg [.lit (.int .i64 res.1.now),.ref 20000 1 0 res.1.times.length,.ref 20001 1 0 res.1.values.length],.lit (.bool res.2)]) [(20000,1,.row true (ae eI res.1.times)),(20001,1,.row true (ae eI res.1.values))]:=by
 refine ai (ra:=[.homeCell 384 1,.homeCell 384 2]) (md:=mdT) hT (hi:=hi00) Tryz.func23 rfl rfl (by decide +kernel) (by simp) ?_
 unfold gu at h
 obtain ⟨r01,g1,h⟩:=ab h
 simp(config:=cS)only[go_sem]
 refine ag (ug g1) ?_
 obtain ⟨r02,g2,h⟩:=ab h
 simp(config:=cS)only[go_sem]
 refine ag (iS g2) ?_
 obtain ⟨h3,h⟩|⟨h3,h⟩:=af h
 ·obtain ⟨r03,g4,h⟩:=ab h
  simp(config:=cS)only[go_sem,eZt h3]
  refine ag (jr g4) ?_
  cases h
  simp(config:=cS)only[go_sem]
 ·cases h
  simp(config:=cS)only[go_sem,eZf h3]
attribute [go_sem] Tryz.ntmps167 Tryz.results167
theorem yE {n res:Int}(h:iK n=some res):al Tryz.prog 167 [.lit (.int .i64 n)] [] (.lit (.int .i64 res)) []:=by
 refine ai (ra:=[]) (md:=mdT) hT (hi:=hi00) Tryz.func167 rfl rfl (by decide +kernel) (by simp) ?_
 unfold iK at h
 cases h
 simp(config:=cS)only[go_sem]
attribute [go_sem] Tryz.ntmps79 Tryz.results79
theorem AG {s:GShow}{v1:GState}{res:Bool}(h:kC s v1=some res):al Tryz.prog 79 [.agg (GShow.encS s),.agg (GState.encS v1)] [] (.lit (.bool res)) []:=by
 refine ai (ra:=[]) (md:=mdT) hT (hi:=hi00) Tryz.func79 rfl rfl (by decide +kernel) (by simp) ?_
 unfold kC at h
 obtain ⟨r01,g1,h⟩:=ab h
 simp(config:=cS)only[go_sem]
 refine ag (yE g1) ?_
 obtain ⟨r02,g2,h⟩:=ab h
 simp(config:=cS)only[go_sem]
 refine ag (oK g2) ?_
 obtain ⟨h3,h⟩|⟨h3,h⟩:=af h
 ·obtain ⟨h4,h⟩|⟨h4,h⟩:=af h
  ·obtain ⟨h5,h⟩|⟨h5,h⟩:=af h
   ·obtain ⟨r03,g6,h⟩:=ab h
    simp(config:=cS)only[go_sem,eZt h3,eqT h4,eqT h5]
    refine ag (vX g6) ?_
    cases h
    simp(config:=cS)only[go_sem]
   ·cases h
    simp(config:=cS)only[go_sem,eZt h3,eqT h4,eqF h5]
  ·cases h
   simp(config:=cS)only[go_sem,eZt h3,eqF h4]
 ·cases h
  simp(config:=cS)only[go_sem,eZf h3]
attribute [go_sem] Tryz.ntmps24 Tryz.results24
theorem sw {s:GShow}{v1:GState}{res:List (List Int)}(h:eW s v1=some res):al Tryz.prog 24 [.agg (GShow.encS s),.agg (GState.encS v1)] [] (.ref 20000 1 0 res.length) [(20000,1,.row true (ae (eLO eI) res))]:=by
 refine ai (ra:=[.home 4]) (md:=mdT) hT (hi:=hi00) Tryz.func24 rfl rfl (by decide +kernel) (by simp) ?_
 unfold eW at h
 obtain ⟨r01,g1,h⟩:=ab h
 simp(config:=cS)only[go_sem]
 refine ag (AG g1) ?_
 obtain ⟨h2,h⟩|⟨h2,h⟩:=af h
 ·obtain ⟨r02,g3,h⟩:=ab h
  simp(config:=cS)only[go_sem,eZt h2]
  refine ag (js g3) ?_
  cases h
  simp(config:=cS)only[go_sem]
 ·cases h
  simp(config:=cS)only[go_sem,eZf h2]
@[go_sem] def hi25_1:DT:=.i2 0 (.i2 1 (.i2 3 (.i2 2 (.i2 4 (.i2 5 (.i2 6 (.i1 8 (.i2 9 (.i0 7 [8] (.i2 10 (.i2 11 (.i2 12 .nil))))))))))))
def hi25:Hint where
 acts:=fun _=>[]
 draws:=fun
  | 1=>⟨hi25_1,[[],[],[0,1],[],[0,1,2,3],.range 5,.range 6,.range 7,.range 6,.range 6,.range 10,.range 11,.range 12],.range 13⟩
  | _=>⟨.nil,[],[]⟩
theorem PZ (i:Nat):hi25.acts i=[]:=rfl
theorem Qa (i:Nat):hi25.views i=none:=rfl
attribute [go_sem] PZ Qa Tryz.ntmps25 Tryz.results25
@[go_sem] theorem SI:(hi25.draws 1).order=hi25_1:=rfl
theorem vR {s:GShow}{v1:GState}{nodes:List Int}{res:Bool}(h:eX s v1 nodes=some res):al Tryz.prog 25 [.agg (GShow.encS s),.agg (GState.encS v1),.sl (ae eI nodes)] [] (.lit (.bool res)) []:=by
 refine ai (ra:=[]) (md:=mdT) hT (hi:=hi25) Tryz.func25 rfl rfl (by decide +kernel) (by simp) ?_
 unfold eX at h
 obtain ⟨r01,g1,h⟩:=ab h
 simp(config:=cS)only[go_sem]
 refine ag (sw g1) ?_
 obtain ⟨r02,g2,h⟩:=ab h
 simp(config:=cS)only[go_sem]
 refine ag (iS g2) ?_
 obtain ⟨h3,h⟩|⟨h3,h⟩:=af h
 ·obtain ⟨r03,g4,h⟩:=ab h
  simp(config:=cS)only[go_sem,eZt h3]
  refine ag (je g4) ?_
  obtain ⟨r04,g5,h⟩:=ab h
  simp(config:=cS)only[go_sem,eZt h3]
  refine ag (mV g5) ?_
  cases h
  simp(config:=cS)only[go_sem,eZt h3]
 ·cases h
  simp(config:=cS)only[go_sem,eZf h3]
@[go_sem] def hi27_1:DT:=.i2 0 (.i2 1 (.i2 2 (.i2 3 (.i2 4 (.i1 6 (.i0 5 [6] (.i2 7 (.i2 8 (.i2 9 .nil)))))))))
def hi27:Hint where
 acts:=fun _=>[]
 draws:=fun
  | 1=>⟨hi27_1,[[],[],[0,1],[0,1,2],[0,1,2,3],.range 5,[0,1,2,3],.range 7,.range 8,.range 9],.range 10⟩
  | _=>⟨.nil,[],[]⟩
theorem Qb (i:Nat):hi27.acts i=[]:=rfl
theorem Qc (i:Nat):hi27.views i=none:=rfl
attribute [go_sem] Qb Qc Tryz.ntmps27 Tryz.results27
@[go_sem] theorem SJ:(hi27.draws 1).order=hi27_1:=rfl
theorem Df {s:GShow}{v1:GState}{res:Bool}(h:ka s v1=some res):al Tryz.prog 27 [.agg (GShow.encS s),.agg (GState.encS v1)] [] (.lit (.bool res)) []:=by
 refine ai (ra:=[]) (md:=mdT) hT (hi:=hi27) Tryz.func27 rfl rfl (by decide +kernel) (by simp) ?_
 unfold ka at h
 obtain ⟨r01,g1,h⟩:=ab h
 simp(config:=cS)only[go_sem]
 refine ag (lk g1) ?_
 obtain ⟨h2,h⟩|⟨h2,h⟩:=af h
 ·obtain ⟨r02,g3,h⟩:=ab h
  simp(config:=cS)only[go_sem,eZt h2]
  refine ag (je g3) ?_
  obtain ⟨r03,g4,h⟩:=ab h
  simp(config:=cS)only[go_sem,eZt h2]
  refine ag (oT g4) ?_
  cases h
  simp(config:=cS)only[go_sem,eZt h2]
 ·cases h
  simp(config:=cS)only[go_sem,eZf h2]
def kL (f:List GNode)(a:Nat)(b:List AV)(c:List GNode)(d e:Int):St:=⟨[(1,.sl (ae GNode.encS f)),(2,.fn a b),(15,.sl (ae GNode.encS c)),(16,.lit (.int .i64 d)),(17,.lit (.int .i64 e))],[],2⟩
attribute [go_sem] kL
attribute [go_sem] Tryz.ntmps168 Tryz.results168
theorem uJ {v0 v1:List GNode}{v2:GNode→GNode→Option Bool}{f_v2:Nat}{k_v2:List AV}(hp_v2:∀ y0 y1 r,v2 y0 y1=some r→al Tryz.prog f_v2 ([.agg (GNode.encS y0),.agg (GNode.encS y1)]++k_v2) [] (.lit (.bool r)) [])(hc_v2:KC k_v2)(hm_v2:∀ a,mdT f_v2 a=⟨[],false⟩)(hk_v2:spf f_v2=false){res:Bool}(h:dI v0 v1 v2=some res):al Tryz.prog 168 [.sl (ae GNode.encS v0),.sl (ae GNode.encS v1),.fn f_v2 k_v2] [] (.lit (.bool res)) []:=by
 refine ai (ra:=[]) (md:=mdT) hT (hi:=hi00) Tryz.func168 rfl rfl (by decide +kernel) (by simp) ?_
 unfold dI at h
 obtain ⟨h1,h⟩|⟨h1,h⟩:=af h
 ·obtain ⟨q04,l2,h⟩:=ab h
  simp(config:=cS)only[go_sem,hc_v2.1,hc_v2.2,hm_v2,hk_v2,eqT h1]
  refine an (m1:=.mk) (m2:=.mk) [.nf [1,2,15,16,17] []] (kL v1 f_v2 k_v2 v0 ((v0.length:Nat):Int)) l2 ?_ ?_
  ·simp(config:=cS)only[go_sem,hc_v2.1,hc_v2.2,hm_v2,hk_v2,eqT h1]
  ·intro nb3 v17_1 bb3 b3 gb3
   unfold bJ at b3
   try dsimp only at b3
   obtain ⟨h4,b3⟩|⟨h4,b3⟩:=af b3
   ·obtain ⟨x01,g5,b3⟩:=ab b3
    obtain ⟨h6,h7,h8⟩:=aj g5
    obtain ⟨x02,g9,b3⟩:=ab b3
    obtain ⟨h10,h11,h12⟩:=aj g9
    obtain ⟨r03,g13,b3⟩:=ab b3
    simp(config:=cS)only[go_sem,hc_v2.1,hc_v2.2,hm_v2,hk_v2,eqT h1,eqT h4,h6,h7,h8,h10,h11,h12]
    refine ag (hp_v2 _ _ _ g13) ?_
    obtain ⟨h14,b3⟩|⟨h14,b3⟩:=af b3
    ·cases b3
     simp(config:=cS)only[go_sem,hc_v2.1,hc_v2.2,hm_v2,hk_v2,eqT h1,eqT h4,h6,h7,h8,h10,h11,h12,eZt h14]
     refine ao gb3 ?_
     simp(config:=cS)only[go_sem,hc_v2.1,hc_v2.2,hm_v2,hk_v2,eqT h1,eqT h4,h6,h7,h8,h10,h11,h12,eZt h14]
    ·cases b3
     obtain rfl:=(ak gb3).symm
     try dsimp only at h
     cases h
     simp(config:=cS)only[go_sem,hc_v2.1,hc_v2.2,hm_v2,hk_v2,eqT h1,eqT h4,h6,h7,h8,h10,h11,h12,eZf h14]
   ·cases b3
    obtain rfl:=(ak gb3).symm
    try dsimp only at h
    cases h
    simp(config:=cS)only[go_sem,hc_v2.1,hc_v2.2,hm_v2,hk_v2,eqT h1,eqF h4]
 ·cases h
  simp(config:=cS)only[go_sem,hc_v2.1,hc_v2.2,hm_v2,hk_v2,eqF h1]
attribute [go_sem] Tryz.ntmps169 Tryz.results169
theorem zr {a b:GNode}{res:Bool}(h:ek a b=some res):al Tryz.prog 169 [.agg (GNode.encS a),.agg (GNode.encS b)] [] (.lit (.bool res)) []:=by
 refine ai (ra:=[]) (md:=mdT) hT (hi:=hi00) Tryz.func169 rfl rfl (by decide +kernel) (by simp) ?_
 unfold ek at h
 obtain ⟨h1,h⟩|⟨h1,h⟩:=af h
 ·obtain ⟨r01,g2,h⟩:=ab h
  simp(config:=cS)only[go_sem,eqT h1]
  refine ag (bL g2) ?_
  obtain ⟨h3,h⟩|⟨h3,h⟩:=af h
  ·cases h
   simp(config:=cS)only[go_sem,eZt h3]
  ·cases h
   simp(config:=cS)only[go_sem,eZf h3]
 ·cases h
  simp(config:=cS)only[go_sem,eqF h1]
def mO (c d:List GTie)(a b:Int):St:=⟨[(0,.sl (ae GTie.enc c)),(1,.sl (ae GTie.enc d)),(12,.lit (.int .i64 a)),(13,.lit (.int .i64 b))],[],2⟩
attribute [go_sem] mO
@[go_sem] def hi170_6:DT:=.i2 0 (.i2 1 (.i2 2 (.i2 3 (.i2 4 (.i2 5 (.i2 6 (.i2 7 (.i2 8 .nil))))))))
def DX:Hint where
 acts:=fun _=>[]
 draws:=fun
  | 6=>⟨hi170_6,[[],[],[0,1],[0,1,2],[],[],[4,5],[4,5,6],.range 8],.range 9⟩
  | _=>⟨.nil,[],[]⟩
theorem Nj (i:Nat):DX.acts i=[]:=rfl
theorem Nk (i:Nat):DX.views i=none:=rfl
attribute [go_sem] Nj Nk Tryz.ntmps170 Tryz.results170
@[go_sem] theorem Rl:(DX.draws 6).order=hi170_6:=rfl
theorem xF {v0 v1:List GTie}{res:Bool}(h:ij v0 v1=some res):al Tryz.prog 170 [.sl (ae GTie.enc v0),.sl (ae GTie.enc v1)] [] (.lit (.bool res)) []:=by
 refine ai (ra:=[]) (md:=mdT) hT (hi:=DX) Tryz.func170 rfl rfl (by decide +kernel) (by simp) ?_
 unfold ij at h
 obtain ⟨h1,h⟩|⟨h1,h⟩:=af h
 ·obtain ⟨q03,l2,h⟩:=ab h
  simp(config:=cS)only[go_sem,eqT h1]
  refine an (m1:=.mk) (m2:=.mk) [.nf [0,1,12,13] []] (mO v0 v1 ((v0.length:Nat):Int)) l2 ?_ ?_
  ·simp(config:=cS)only[go_sem]
  ·intro nb3 v13_1 bb3 b3 gb3
   unfold cR at b3
   try dsimp only at b3
   obtain ⟨h4,b3⟩|⟨h4,b3⟩:=af b3
   ·obtain ⟨x01,g5,b3⟩:=ab b3
    obtain ⟨h6,h7,h8⟩:=aj g5
    obtain ⟨x02,g9,b3⟩:=ab b3
    obtain ⟨h10,h11,h12⟩:=aj g9
    obtain ⟨h13,b3⟩|⟨h13,b3⟩:=af b3
    ·cases b3
     simp(config:=cS)only[go_sem,eqT h4,h6,h7,h8,h10,h11,h12,eZt h13]
     refine ao gb3 ?_
     simp(config:=cS)only[go_sem]
    ·cases b3
     obtain rfl:=(ak gb3).symm
     try dsimp only at h
     cases h
     simp(config:=cS)only[go_sem,eqT h4,h6,h7,h8,h10,h11,h12,eZf h13]
   ·cases b3
    obtain rfl:=(ak gb3).symm
    try dsimp only at h
    cases h
    simp(config:=cS)only[go_sem,eqF h4]
 ·cases h
  simp(config:=cS)only[go_sem,eqF h1]
attribute [go_sem] Tryz.ntmps81 Tryz.results81
theorem zs {a b:GShow}{res:Bool}(h:jK a b=some res):al Tryz.prog 81 [.agg (GShow.encS a),.agg (GShow.encS b)] [] (.lit (.bool res)) []:=by
 refine ai (ra:=[]) (md:=mdT) hT (hi:=hi00) Tryz.func81 rfl rfl (by decide +kernel) (by simp) ?_
 unfold jK at h
 obtain ⟨r01,g1,h⟩:=ab h
 simp(config:=cS)only[go_sem]
 refine ag (uJ (by exact fun _ _ _ hr=>zr hr) (by refine ⟨fun _=>?_,fun _=>?_⟩ <;> simp only [go_sem]) (fun _=>rfl) rfl g1) ?_
 obtain ⟨h2,h⟩|⟨h2,h⟩:=af h
 ·obtain ⟨r02,g3,h⟩:=ab h
  simp(config:=cS)only[go_sem,eZt h2]
  refine ag (xF g3) ?_
  obtain ⟨h4,h⟩|⟨h4,h⟩:=af h
  ·cases h
   simp(config:=cS)only[go_sem,eZt h2,eZt h4]
  ·cases h
   simp(config:=cS)only[go_sem,eZt h2,eZf h4]
 ·cases h
  simp(config:=cS)only[go_sem,eZf h2]
def ke (f:List GEntry)(a:Nat)(b:List AV)(c:List GEntry)(d e:Int):St:=⟨[(1,.sl (ae GEntry.encS f)),(2,.fn a b),(15,.sl (ae GEntry.encS c)),(16,.lit (.int .i64 d)),(17,.lit (.int .i64 e))],[],2⟩
attribute [go_sem] ke
attribute [go_sem] Tryz.ntmps82 Tryz.results82
theorem uh {v0 v1:List GEntry}{v2:GEntry→GEntry→Option Bool}{f_v2:Nat}{k_v2:List AV}(hp_v2:∀ y0 y1 r,v2 y0 y1=some r→al Tryz.prog f_v2 ([.agg (GEntry.encS y0),.agg (GEntry.encS y1)]++k_v2) [] (.lit (.bool r)) [])(hc_v2:KC k_v2)(hm_v2:∀ a,mdT f_v2 a=⟨[],false⟩)(hk_v2:spf f_v2=false){res:Bool}(h:de v0 v1 v2=some res):al Tryz.prog 82 [.sl (ae GEntry.encS v0),.sl (ae GEntry.encS v1),.fn f_v2 k_v2] [] (.lit (.bool res)) []:=by
 refine ai (ra:=[]) (md:=mdT) hT (hi:=hi00) Tryz.func82 rfl rfl (by decide +kernel) (by simp) ?_
 unfold de at h
 obtain ⟨h1,h⟩|⟨h1,h⟩:=af h
 ·obtain ⟨q04,l2,h⟩:=ab h
  simp(config:=cS)only[go_sem,hc_v2.1,hc_v2.2,hm_v2,hk_v2,eqT h1]
  refine an (m1:=.mk) (m2:=.mk) [.nf [1,2,15,16,17] []] (ke v1 f_v2 k_v2 v0 ((v0.length:Nat):Int)) l2 ?_ ?_
  ·simp(config:=cS)only[go_sem,hc_v2.1,hc_v2.2,hm_v2,hk_v2,eqT h1]
  ·intro nb3 v17_1 bb3 b3 gb3
   unfold bD at b3
   try dsimp only at b3
   obtain ⟨h4,b3⟩|⟨h4,b3⟩:=af b3
   ·obtain ⟨x01,g5,b3⟩:=ab b3
    obtain ⟨h6,h7,h8⟩:=aj g5
    obtain ⟨x02,g9,b3⟩:=ab b3
    obtain ⟨h10,h11,h12⟩:=aj g9
    obtain ⟨r03,g13,b3⟩:=ab b3
    simp(config:=cS)only[go_sem,hc_v2.1,hc_v2.2,hm_v2,hk_v2,eqT h1,eqT h4,h6,h7,h8,h10,h11,h12]
    refine ag (hp_v2 _ _ _ g13) ?_
    obtain ⟨h14,b3⟩|⟨h14,b3⟩:=af b3
    ·cases b3
     simp(config:=cS)only[go_sem,hc_v2.1,hc_v2.2,hm_v2,hk_v2,eqT h1,eqT h4,h6,h7,h8,h10,h11,h12,eZt h14]
     refine ao gb3 ?_
     simp(config:=cS)only[go_sem,hc_v2.1,hc_v2.2,hm_v2,hk_v2,eqT h1,eqT h4,h6,h7,h8,h10,h11,h12,eZt h14]
    ·cases b3
     obtain rfl:=(ak gb3).symm
     try dsimp only at h
     cases h
     simp(config:=cS)only[go_sem,hc_v2.1,hc_v2.2,hm_v2,hk_v2,eqT h1,eqT h4,h6,h7,h8,h10,h11,h12,eZf h14]
   ·cases b3
    obtain rfl:=(ak gb3).symm
    try dsimp only at h
    cases h
    simp(config:=cS)only[go_sem,hc_v2.1,hc_v2.2,hm_v2,hk_v2,eqT h1,eqF h4]
 ·cases h
  simp(config:=cS)only[go_sem,hc_v2.1,hc_v2.2,hm_v2,hk_v2,eqF h1]
attribute [go_sem] Tryz.ntmps83 Tryz.results83
theorem xG {a b:GEntry}{res:Bool}(h:df a b=some res):al Tryz.prog 83 [.agg (GEntry.encS a),.agg (GEntry.encS b)] [] (.lit (.bool res)) []:=by
 refine ai (ra:=[]) (md:=mdT) hT (hi:=hi00) Tryz.func83 rfl rfl (by decide +kernel) (by simp) ?_
 unfold df at h
 obtain ⟨h1,h⟩|⟨h1,h⟩:=af h
 ·obtain ⟨r01,g2,h⟩:=ab h
  simp(config:=cS)only[go_sem,eqT h1]
  refine ag (bL g2) ?_
  obtain ⟨h3,h⟩|⟨h3,h⟩:=af h
  ·obtain ⟨r02,g4,h⟩:=ab h
   simp(config:=cS)only[go_sem,eqT h1,eZt h3]
   refine ag (bL g4) ?_
   obtain ⟨h5,h⟩|⟨h5,h⟩:=af h
   ·obtain ⟨r03,g6,h⟩:=ab h
    simp(config:=cS)only[go_sem,eqT h1,eZt h3,eZt h5]
    refine ag (bL g6) ?_
    cases h
    simp(config:=cS)only[go_sem,eqT h1,eZt h3,eZt h5]
   ·cases h
    simp(config:=cS)only[go_sem,eqT h1,eZt h3,eZf h5]
  ·cases h
   simp(config:=cS)only[go_sem,eqT h1,eZf h3]
 ·cases h
  simp(config:=cS)only[go_sem,eqF h1]
attribute [go_sem] Tryz.ntmps26 Tryz.results26
theorem zt {a b:GDesk}{res:Bool}(h:jL a b=some res):al Tryz.prog 26 [.agg (GDesk.encS a),.agg (GDesk.encS b)] [] (.lit (.bool res)) []:=by
 refine ai (ra:=[]) (md:=mdT) hT (hi:=hi00) Tryz.func26 rfl rfl (by decide +kernel) (by simp) ?_
 unfold jL at h
 obtain ⟨r01,g1,h⟩:=ab h
 simp(config:=cS)only[go_sem]
 refine ag (zs g1) ?_
 obtain ⟨h2,h⟩|⟨h2,h⟩:=af h
 ·obtain ⟨r02,g3,h⟩:=ab h
  simp(config:=cS)only[go_sem,eZt h2]
  refine ag (ti g3) ?_
  obtain ⟨h4,h⟩|⟨h4,h⟩:=af h
  ·obtain ⟨h5,h⟩|⟨h5,h⟩:=af h
   ·obtain ⟨r03,g6,h⟩:=ab h
    simp(config:=cS)only[go_sem,eZt h2,eZt h4,eqT h5]
    refine ag (uh (by exact fun _ _ _ hr=>xG hr) (by refine ⟨fun _=>?_,fun _=>?_⟩ <;> simp only [go_sem]) (fun _=>rfl) rfl g6) ?_
    cases h
    simp(config:=cS)only[go_sem,eZt h2,eZt h4,eqT h5]
   ·cases h
    simp(config:=cS)only[go_sem,eZt h2,eZt h4,eqF h5]
  ·cases h
   simp(config:=cS)only[go_sem,eZt h2,eZf h4]
 ·cases h
  simp(config:=cS)only[go_sem,eZf h2]
def hi4:Hint where
 acts:=fun i=>match i with | 8=>[.freeze [1472]] | 9=>[.freeze [1472]] | 13=>[.freeze [4672]] | 14=>[.freeze [4672]] | _=>[]
 draws:=fun
  | _=>⟨.nil,[],[]⟩
@[go_sem] theorem Ti:hi4.acts 0=[]:=rfl
@[go_sem] theorem Tj:hi4.acts 1=[]:=rfl
@[go_sem] theorem Tk:hi4.acts 2=[]:=rfl
@[go_sem] theorem Tl:hi4.acts 3=[]:=rfl
@[go_sem] theorem Tm:hi4.acts 4=[]:=rfl
@[go_sem] theorem Tn:hi4.acts 5=[]:=rfl
@[go_sem] theorem To:hi4.acts 6=[]:=rfl
@[go_sem] theorem Tp:hi4.acts 7=[]:=rfl
@[go_sem] theorem Tq:hi4.acts 8=[.freeze [1472]]:=rfl
@[go_sem] theorem Tr:hi4.acts 9=[.freeze [1472]]:=rfl
@[go_sem] theorem SK:hi4.acts 10=[]:=rfl
@[go_sem] theorem SL:hi4.acts 11=[]:=rfl
@[go_sem] theorem SM:hi4.acts 12=[]:=rfl
@[go_sem] theorem SN:hi4.acts 13=[.freeze [4672]]:=rfl
@[go_sem] theorem SO:hi4.acts 14=[.freeze [4672]]:=rfl
@[go_sem] theorem SP:hi4.acts 15=[]:=rfl
@[go_sem] theorem SQ:hi4.acts 16=[]:=rfl
@[go_sem] theorem SR:hi4.acts 17=[]:=rfl
theorem hi4v (i:Nat):hi4.views i=none:=rfl
attribute [go_sem] hi4v Tryz.ntmps4 Tryz.results4
theorem xH {code:List Int}{res:Bool}(h:kD code=some res):al Tryz.prog 4 [.sl (ae (eK .u8) code)] [] (.lit (.bool res)) []:=by
 refine ai (ra:=[]) (md:=mdT) hT (hi:=hi4) Tryz.func4 rfl rfl (by decide +kernel) (by simp) ?_
 unfold kD at h
 obtain ⟨h1,h⟩|⟨h1,h⟩:=af h
 ·cases h
  simp(config:=cS)only[go_sem,eqT h1]
 ·obtain ⟨r01,g2,h⟩:=ab h
  simp(config:=cS)only[go_sem,eqF h1]
  refine ag (AE g2) ?_
  obtain ⟨r02,g3,h⟩:=ab h
  simp(config:=cS)only[go_sem,eqF h1]
  refine ag (ug g3) ?_
  obtain ⟨r03,g4,h⟩:=ab h
  simp(config:=cS)only[go_sem,eqF h1]
  refine ag (Dd g4) ?_
  obtain ⟨h5,h⟩|⟨h5,h⟩:=af h
  ·obtain ⟨r04,g6,h⟩:=ab h
   simp(config:=cS)only[go_sem,eqF h1,eZt h5]
   refine ag (kR g6) ?_
   obtain ⟨h7,h⟩|⟨h7,h⟩:=af h
   ·obtain ⟨r05,g8,h⟩:=ab h
    simp(config:=cS)only[go_sem,eqF h1,eZt h5,eqT h7]
    refine ag (jU g8) ?_
    cases h
    simp(config:=cS)only[go_sem,eqF h1,eZt h5,eqT h7]
   ·cases h
    simp(config:=cS)only[go_sem,eqF h1,eZt h5,eqF h7]
  ·obtain ⟨r06,g9,h⟩:=ab h
   simp(config:=cS)only[go_sem,eqF h1,eZf h5]
   refine ag (AF g9) ?_
   obtain ⟨h10,h⟩|⟨h10,h⟩:=af h
   ·obtain ⟨r07,g11,h⟩:=ab h
    simp(config:=cS)only[go_sem,eqF h1,eZf h5,eZt h10]
    refine ag (kR g11) ?_
    obtain ⟨h12,h⟩|⟨h12,h⟩:=af h
    ·obtain ⟨r08,g13,h⟩:=ab h
     simp(config:=cS)only[go_sem,eqF h1,eZf h5,eZt h10,eqT h12]
     refine ag (jU g13) ?_
     cases h
     simp(config:=cS)only[go_sem,eqF h1,eZf h5,eZt h10,eqT h12]
    ·cases h
     simp(config:=cS)only[go_sem,eqF h1,eZf h5,eZt h10,eqF h12]
   ·obtain ⟨h14,h⟩|⟨h14,h⟩:=af h
    ·obtain ⟨r09,g15,h⟩:=ab h
     simp(config:=cS)only[go_sem,eqF h1,eZf h5,eZf h10,eqT h14]
     refine ag (kR g15) ?_
     obtain ⟨h16,h⟩|⟨h16,h⟩:=af h
     ·obtain ⟨r10,g17,h⟩:=ab h
      simp(config:=cS)only[go_sem,eqF h1,eZf h5,eZf h10,eqT h14,eqT h16]
      refine ag (jU g17) ?_
      cases h
      simp(config:=cS)only[go_sem,eqF h1,eZf h5,eZf h10,eqT h14,eqT h16]
     ·cases h
      simp(config:=cS)only[go_sem,eqF h1,eZf h5,eZf h10,eqT h14,eqF h16]
    ·obtain ⟨r11,g18,h⟩:=ab h
     simp(config:=cS)only[go_sem,eqF h1,eZf h5,eZf h10,eqF h14]
     refine ag (vQ g18) ?_
     obtain ⟨x12,g19,h⟩:=ab h
     obtain ⟨h20,h21,h22⟩:=aj g19
     obtain ⟨r13,g23,h⟩:=ab h
     simp(config:=cS)only[go_sem,eqF h1,eZf h5,eZf h10,eqF h14,h20,h21,h22]
     refine ag (xj g23) ?_
     obtain ⟨r14,g24,h⟩:=ab h
     simp(config:=cS)only[go_sem,eqF h1,eZf h5,eZf h10,eqF h14,h20,h21,h22]
     refine ag (sw g24) ?_
     obtain ⟨h25,h⟩|⟨h25,h⟩:=af h
     ·obtain ⟨h26,h⟩|⟨h26,h⟩:=af h
      ·cases h
       simp(config:=cS)only[go_sem,eqF h1,eZf h5,eZf h10,eqF h14,h20,h21,h22,eZt h25,eqT h26]
      ·obtain ⟨r15,g27,h⟩:=ab h
       simp(config:=cS)only[go_sem,eqF h1,eZf h5,eZf h10,eqF h14,h20,h21,h22,eZt h25,eqF h26]
       refine ag (vQ g27) ?_
       obtain ⟨x16,g28,h⟩:=ab h
       obtain ⟨h29,h30,h31⟩:=aj g28
       obtain ⟨r17,g32,h⟩:=ab h
       simp(config:=cS)only[go_sem,eqF h1,eZf h5,eZf h10,eqF h14,h20,h21,h22,eZt h25,eqF h26,h29,h30,h31]
       refine ag (kR g32) ?_
       obtain ⟨r18,g33,h⟩:=ab h
       simp(config:=cS)only[go_sem,eqF h1,eZf h5,eZf h10,eqF h14,h20,h21,h22,eZt h25,eqF h26,h29,h30,h31]
       refine ag (vR g33) ?_
       obtain ⟨h34,h⟩|⟨h34,h⟩:=af h
       ·obtain ⟨h35,h⟩|⟨h35,h⟩:=af h
        ·obtain ⟨r19,g36,h⟩:=ab h
         simp(config:=cS)only[go_sem,eqF h1,eZf h5,eZf h10,eqF h14,h20,h21,h22,eZt h25,eqF h26,h29,h30,h31,eZt h34,eqT h35]
         refine ag (jU g36) ?_
         obtain ⟨h37,h⟩|⟨h37,h⟩:=af h
         ·obtain ⟨r20,g38,h⟩:=ab h
          simp(config:=cS)only[go_sem,eqF h1,eZf h5,eZf h10,eqF h14,h20,h21,h22,eZt h25,eqF h26,h29,h30,h31,eZt h34,eqT h35,eZt h37]
          refine ag (Df g38) ?_
          obtain ⟨h39,h⟩|⟨h39,h⟩:=af h
          ·cases h
           simp(config:=cS)only[go_sem,eqF h1,eZf h5,eZf h10,eqF h14,h20,h21,h22,eZt h25,eqF h26,h29,h30,h31,eZt h34,eqT h35,eZt h37,eZt h39]
          ·cases h
           simp(config:=cS)only[go_sem,eqF h1,eZf h5,eZf h10,eqF h14,h20,h21,h22,eZt h25,eqF h26,h29,h30,h31,eZt h34,eqT h35,eZt h37,eZf h39]
         ·cases h
          simp(config:=cS)only[go_sem,eqF h1,eZf h5,eZf h10,eqF h14,h20,h21,h22,eZt h25,eqF h26,h29,h30,h31,eZt h34,eqT h35,eZf h37]
        ·cases h
         simp(config:=cS)only[go_sem,eqF h1,eZf h5,eZf h10,eqF h14,h20,h21,h22,eZt h25,eqF h26,h29,h30,h31,eZt h34,eqF h35]
       ·obtain ⟨h40,h⟩|⟨h40,h⟩:=af h
        ·obtain ⟨r21,g41,h⟩:=ab h
         simp(config:=cS)only[go_sem,eqF h1,eZf h5,eZf h10,eqF h14,h20,h21,h22,eZt h25,eqF h26,h29,h30,h31,eZf h34,eqT h40]
         refine ag (zt g41) ?_
         cases h
         simp(config:=cS)only[go_sem,eqF h1,eZf h5,eZf h10,eqF h14,h20,h21,h22,eZt h25,eqF h26,h29,h30,h31,eZf h34,eqT h40]
        ·cases h
         simp(config:=cS)only[go_sem,eqF h1,eZf h5,eZf h10,eqF h14,h20,h21,h22,eZt h25,eqF h26,h29,h30,h31,eZf h34,eqF h40]
     ·cases h
      simp(config:=cS)only[go_sem,eqF h1,eZf h5,eZf h10,eqF h14,h20,h21,h22,eZf h25]
end Go.Proofs.QB
