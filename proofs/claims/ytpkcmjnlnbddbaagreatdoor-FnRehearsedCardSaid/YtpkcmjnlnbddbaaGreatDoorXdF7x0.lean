/- Functions. -/
import Derived.Test.YtpkcmjnlnbddbaaGreatDoorXdFK3
set_option linter.all false
set_option maxRecDepth 100000
set_option maxHeartbeats 4000000
namespace Go.Proofs.Qd
open Go
def oU (a:List Int):(Int × Int)→St
 | (b,i)=>⟨[(0,.sl (ab (eK .u8) a)),(3,.lit (.int .i64 b)),(4,.lit (.int .i64 i))],[],2⟩
attribute [go_sem] oU
attribute [go_sem] Tryz.ntmps74 Tryz.results74
theorem uL {code:List Int}{res:GL01Cur}(h:iY code=some res):al Tryz.prog 74 [.sl (ab (eK .u8) code)] [] (.ptr 20000 1 0 0) [(20000,1,.var [.sl (ab (eK .u8) res.b),.lit (.int .i64 res.i),.lit (.int .i64 res.h)])]:=by
 refine ai (ra:=[]) (md:=mdT) hT (hi:=hi00) Tryz.func74 rfl rfl (by decide +kernel) (by simp) ?_
 unfold iY at h
 obtain ⟨q02,l1,h⟩:=ae h
 simp(config:=cS)only[go_sem]
 refine ar (m1:=.mk) (m2:=.mk) [.nf [0,3,4] []] (oU code) l1 ?_ ?_
 ·simp(config:=cS)only[go_sem]
 ·intro nb2 sb2 bb2 b2 gb2
  obtain ⟨v3_1,i_1⟩:=sb2
  unfold iI at b2
  try dsimp only at b2
  obtain ⟨h3,b2⟩|⟨h3,b2⟩:=af b2
  ·obtain ⟨h4,b2⟩|⟨h4,b2⟩:=af b2
   ·obtain ⟨x01,g5,b2⟩:=ae b2
    obtain ⟨h6,h7,h8⟩:=ak g5
    cases b2
    simp(config:=cS)only[go_sem,eqT h3,eqT h4,h6,h7,h8]
    refine au gb2 ?_
    simp(config:=cS)only[go_sem]
   ·cases b2
    obtain rfl:=(aj gb2).symm
    try dsimp only at h
    cases h
    simp(config:=cS)only[go_sem,eqT h3,eqF h4]
  ·cases b2
   obtain rfl:=(aj gb2).symm
   try dsimp only at h
   cases h
   simp(config:=cS)only[go_sem,eqF h3]
@[go_sem] def hi90_4:DT:=.i2 0 (.i2 1 (.i2 2 (.i2 3 (.i2 4 (.i2 5 (.i2 6 (.i2 7 (.i2 8 (.i2 9 (.i2 10 (.i2 11 (.i2 12 (.i2 13 (.i2 14 .nil))))))))))))))
@[go_sem] def hi90_3:DT:=.i2 0 (.i2 1 (.i2 2 (.i2 3 (.i2 4 (.i2 5 (.i2 6 (.i2 7 (.i2 8 (.i2 9 .nil)))))))))
@[go_sem] def hi90_2:DT:=.i2 0 (.i2 1 (.i2 2 (.i2 3 (.i2 4 (.i2 5 (.i2 6 (.i2 7 (.i2 8 (.i2 9 (.i2 10 (.i2 11 (.i2 12 .nil))))))))))))
def hi90:Hint where
 acts:=fun _=>[]
 draws:=fun
  | 2=>⟨hi90_2,[[],[0],[0,1],[0,1,2],[0,1,2,3],[],[5],[5,6],[5,6,7],[5,6,7,8],.range 10,.range 11,.range 12],.range 13⟩
  | 3=>⟨hi90_3,[[],[0],[0,1],[0,1,2],[],[4],[4,5],[4,5,6],[4,5,6,7],.range 9],.range 10⟩
  | 4=>⟨hi90_4,[[],[],[1],[1,2],[1,2,3],[],[5],[5,6],[5,6,7],[1,2,3,4,5,6,7,8],[1,2,3,4,5,6,7,8,9],[1,2,3,4,5,6,7,8,9,10],.range 12,.range 13,.range 14],.range 15⟩
  | _=>⟨.nil,[],[]⟩
theorem UJ (i:Nat):hi90.acts i=[]:=rfl
theorem UK (i:Nat):hi90.views i=none:=rfl
attribute [go_sem] UJ UK Tryz.ntmps90 Tryz.results90
@[go_sem] theorem Yj:(hi90.draws 2).order=hi90_2:=rfl
@[go_sem] theorem Yk:(hi90.draws 3).order=hi90_3:=rfl
@[go_sem] theorem Yl:(hi90.draws 4).order=hi90_4:=rfl
theorem ei {v0:GL01Cur}{res:Int × GL01Cur}(h:ca v0=some res):al Tryz.prog 90 [.ptr 10000 0 0 0] [(10000,0,.var [.sl (ab (eK .u8) v0.b),.lit (.int .i64 v0.i),.lit (.int .i64 v0.h)])] (.lit (.int .i64 res.1)) [(10000,0,.var [.sl (ab (eK .u8) res.2.b),.lit (.int .i64 res.2.i),.lit (.int .i64 res.2.h)])]:=by
 refine ai (ra:=[]) (md:=mdT) hT (hi:=hi90) Tryz.func90 rfl rfl (by decide +kernel) (by simp) ?_
 unfold ca at h
 obtain ⟨h1,h⟩|⟨h1,h⟩:=af h
 ·obtain ⟨x01,g2,h⟩:=ae h
  obtain ⟨h3,h4,h5⟩:=ak g2
  cases h
  simp(config:=cS)only[go_sem,eqT h1,h3,h4,h5]
 ·cases h
  simp(config:=cS)only[go_sem,eqF h1]
attribute [go_sem] Tryz.ntmps111 Tryz.results111
theorem aS {v0:GL01Cur}{n:Int}{res:Int × GL01Cur}(h:aO v0 n=some res):al Tryz.prog 111 [.ptr 10000 0 0 0,.lit (.int .i64 n)] [(10000,0,.var [.sl (ab (eK .u8) v0.b),.lit (.int .i64 v0.i),.lit (.int .i64 v0.h)])] (.lit (.int .i64 res.1)) [(10000,0,.var [.sl (ab (eK .u8) res.2.b),.lit (.int .i64 res.2.i),.lit (.int .i64 res.2.h)])]:=by
 refine ai (ra:=[]) (md:=mdT) hT (hi:=hi00) Tryz.func111 rfl rfl (by decide +kernel) (by simp) ?_
 unfold aO at h
 obtain ⟨h1,h⟩|⟨h1,h⟩:=af h
 ·cases h
  simp(config:=cS)only[go_sem,eqT h1]
 ·obtain ⟨h2,h⟩|⟨h2,h⟩:=af h
  ·obtain ⟨r01,g3,h⟩:=ae h
   simp(config:=cS)only[go_sem,eqF h1,eqT h2]
   refine ag (ei g3) ?_
   obtain ⟨h4,h⟩:=am h
   cases h
   simp(config:=cS)only[go_sem,eqF h4]
  ·obtain ⟨r02,g5,h⟩:=ae h
   simp(config:=cS)only[go_sem,eqF h1,eqF h2]
   refine ag (ei g5) ?_
   obtain ⟨r03,g6,h⟩:=ae h
   simp(config:=cS)only[go_sem]
   refine ag (ei g6) ?_
   obtain ⟨r04,g7,h⟩:=ae h
   simp(config:=cS)only[go_sem]
   refine ag (ei g7) ?_
   obtain ⟨r05,g8,h⟩:=ae h
   simp(config:=cS)only[go_sem]
   refine ag (ei g8) ?_
   obtain ⟨h9,h⟩:=am h
   cases h
   simp(config:=cS)only[go_sem,eqF h9]
attribute [go_sem] Tryz.ntmps112 Tryz.results112
theorem pt {v0:GL01Cur}{n:Int}{res:Bool × GL01Cur}(h:gj v0 n=some res):al Tryz.prog 112 [.ptr 10000 0 0 0,.lit (.int .i64 n)] [(10000,0,.var [.sl (ab (eK .u8) v0.b),.lit (.int .i64 v0.i),.lit (.int .i64 v0.h)])] (.lit (.bool res.1)) [(10000,0,.var [.sl (ab (eK .u8) res.2.b),.lit (.int .i64 res.2.i),.lit (.int .i64 res.2.h)])]:=by
 refine ai (ra:=[]) (md:=mdT) hT (hi:=hi00) Tryz.func112 rfl rfl (by decide +kernel) (by simp) ?_
 unfold gj at h
 obtain ⟨r01,g1,h⟩:=ae h
 simp(config:=cS)only[go_sem]
 refine ag (aS g1) ?_
 cases h
 simp(config:=cS)only[go_sem]
def mz (f:Int)(a:List GNode):(Int × (List GTie) × (List Int) × Int × Int)→St
 | (i,b,c,d,e)=>⟨[(0,.ptr 10000 0 0 0),(2,.ptr 128 1 0 0),(3,.ptr 192 1 0 0),(5,.lit (.int .i64 i))],[(10000,0,.var [.sl (ab (eK .u8) c),.lit (.int .i64 d),.lit (.int .i64 e)]),(128,1,.var [.lit (.slice none 0 0),.lit (.slice none 0 0),.lit (.int .i64 0)]),(192,1,.var [.ref 1024 1 0 a.length,.ref 1664 1 0 b.length,.lit (.int .i64 f)]),(1024,1,.row true (ab GNode.encO a)),(1664,1,.row true (ab GTie.enc b))],2⟩
attribute [go_sem] mz
@[go_sem] def hi178_13:DT:=.i1 0 (.i1 1 (.i2 2 (.i2 3 (.i2 4 (.i0 5 [0,1] (.i2 6 (.i2 7 (.i0 8 [0,1] (.i2 9 (.i2 10 (.i2 11 .nil)))))))))))
@[go_sem] def hi178_9:DT:=.i1 0 (.i1 1 (.i2 2 (.i2 4 (.i2 5 (.i2 6 (.i2 7 (.i2 8 (.i0 3 [0,1] (.i0 9 [0,1] (.i2 10 (.i2 11 (.i0 12 [0,1] (.i2 13 (.i2 14 (.i2 15 .nil)))))))))))))))
def BN:Hint where
 acts:=fun _=>[]
 draws:=fun
  | 9=>⟨hi178_9,[[],[0],[],[2],[],[],[],[6],[],[2,3,8],[2,3,6,7,8,9],[2,3,4,5,6,7,8,9,10],[2,3,4,5,6,7,8,9,10,11],.range 13,.range 14,.range 15],.range 16⟩
  | 13=>⟨hi178_13,[[],[0],[],[],[],[4],[3,4,5],[2,3,4,5,6],[2,3,4,5,6,7],.range 9,.range 10,.range 11],.range 12⟩
  | _=>⟨.nil,[],[]⟩
theorem RP (i:Nat):BN.acts i=[]:=rfl
theorem RQ (i:Nat):BN.views i=none:=rfl
attribute [go_sem] RP RQ Tryz.ntmps178 Tryz.results178
@[go_sem] theorem Xd:(BN.draws 9).order=hi178_9:=rfl
@[go_sem] theorem Wg:(BN.draws 13).order=hi178_13:=rfl
theorem zJ {v0:GL01Cur}{res:GShow × GL01Cur}(h:iJ v0=some res):al Tryz.prog 178 [.ptr 10000 0 0 0] [(10000,0,.var [.sl (ab (eK .u8) v0.b),.lit (.int .i64 v0.i),.lit (.int .i64 v0.h)])] (.agg [.ref 20000 1 0 res.1.nodes.length,.ref 20001 1 0 res.1.ties.length,.lit (.int .i64 res.1.horizon)]) [(10000,0,.var [.sl (ab (eK .u8) res.2.b),.lit (.int .i64 res.2.i),.lit (.int .i64 res.2.h)]),(20000,1,.row true (ab GNode.encO res.1.nodes)),(20001,1,.row true (ab GTie.enc res.1.ties))]:=by
 refine ai (ra:=[.homeCell 128 0,.homeCell 128 1]) (md:=mdT) hT (hi:=BN) Tryz.func178 rfl rfl (by decide +kernel) (by simp) ?_
 unfold iJ at h
 obtain ⟨r01,g1,h⟩:=ae h
 simp(config:=cS)only[go_sem]
 refine ag (aS g1) ?_
 obtain ⟨r02,g2,h⟩:=ae h
 simp(config:=cS)only[go_sem]
 refine ag (aS g2) ?_
 obtain ⟨r03,g3,h⟩:=ae h
 simp(config:=cS)only[go_sem]
 refine ag (aS g3) ?_
 obtain ⟨q10,l4,h⟩:=ae h
 simp(config:=cS)only[go_sem]
 refine ar (m1:=.mk) (m2:=.mk) [.nf [0,2,3,5] [10000,128,192,1024,1664]] (mz (IntKind.wrap .i64 (4+r01.1)) ([(GNode.mk (ByteArray.mk #[103,111]) ([]) 0),(GNode.mk (ByteArray.mk #[97]) ([]) 1),(GNode.mk (ByteArray.mk #[98]) ([1]) 0),(GNode.mk (ByteArray.mk #[99]) ([(-1)]) 0)])) l4 ?_ ?_
 ·simp(config:=cS)only[go_sem]
 ·intro nb5 sb5 bb5 b5 gb5
  obtain ⟨i_1,h1664_1,v0_0_1,v0_1_1,v0_2_1⟩:=sb5
  unfold fP at b5
  try dsimp only at b5
  obtain ⟨h6,b5⟩|⟨h6,b5⟩:=af b5
  ·obtain ⟨r04,g7,b5⟩:=ae b5
   simp(config:=cS)only[go_sem,eqT h6]
   refine ag (aS g7) ?_
   obtain ⟨r05,g8,b5⟩:=ae b5
   simp(config:=cS)only[go_sem]
   refine ag (aS g8) ?_
   obtain ⟨r06,g9,b5⟩:=ae b5
   simp(config:=cS)only[go_sem]
   refine ag (aS g9) ?_
   obtain ⟨h10,b5⟩:=am b5
   obtain ⟨h11,b5⟩:=am b5
   cases b5
   simp(config:=cS)only[go_sem,eqT h10,eqT h11]
   refine au gb5 ?_
   simp(config:=cS)only[go_sem]
  ·cases b5
   obtain rfl:=(aj gb5).symm
   try dsimp only at h
   obtain ⟨r07,g13,h⟩:=ae h
   simp(config:=cS)only[go_sem,eqF h6]
   refine ag (pt g13) ?_
   obtain ⟨h14,h⟩|⟨h14,h⟩:=af h
   ·obtain ⟨r08,g15,h⟩:=ae h
    simp(config:=cS)only[go_sem,eZt h14]
    refine ag (aS g15) ?_
    obtain ⟨r09,g16,h⟩:=ae h
    simp(config:=cS)only[go_sem]
    refine ag (aS g16) ?_
    obtain ⟨h17,h⟩:=am h
    obtain ⟨h18,h⟩:=am h
    cases h
    simp(config:=cS)only[go_sem,eqT h17,eqT h18]
   ·cases h
    simp(config:=cS)only[go_sem,eZf h14]
attribute [go_sem] Tryz.ntmps251 Tryz.results251
theorem ta {i:Int}{res:ByteArray}(h:iv i=some res):al Tryz.prog 251 [.lit (.int .i64 i)] [] (.lit (.string res)) []:=by
 refine ai (ra:=[]) (md:=mdT) hT (hi:=hi00) Tryz.func251 rfl rfl (by decide +kernel) (by simp) ?_
 unfold iv at h
 obtain ⟨x01,g1,h⟩:=ae h
 obtain ⟨h2,h3,h4⟩:=ak g1
 simp only [List.length_cons,List.length_nil,Nat.zero_add,Nat.reduceAdd] at h4
 cases h
 simp(config:=cS)only[go_sem,h2,h3,h4]
def nZ (m f:Int)(a:List GNode):(Int × (List Int) × Int × Int × (List GTie))→St
 | (k,c,d,e,b)=>⟨[(0,.ptr 10000 0 0 0),(3,.ptr 192 1 0 0),(4,.ptr 256 1 0 0),(5,.lit (.int .i64 m)),(6,.lit (.int .i64 k))],[(10000,0,.var [.sl (ab (eK .u8) c),.lit (.int .i64 d),.lit (.int .i64 e)]),(192,1,.var [.ref 10001 0 0 a.length,.ref 10002 1 0 b.length,.lit (.int .i64 f)]),(10001,0,.row true (ab GNode.encO a)),(10002,1,.row true (ab GTie.enc b)),(256,1,.var [.lit (.slice none 0 0),.lit (.slice none 0 0),.lit (.int .i64 0)])],2⟩
attribute [go_sem] nZ
@[go_sem] def hi252_7:DT:=.i1 0 (.i1 1 (.i2 2 (.i2 3 (.i2 4 (.i2 5 (.i2 6 (.i2 7 (.i2 10 (.i2 12 (.i2 13 (.i2 14 (.i2 15 (.i0 8 [0,1] (.i2 9 (.i2 11 (.i0 16 [0,1] (.i2 17 (.i2 18 (.i0 19 [0,1] (.i2 20 (.i2 21 (.i2 22 .nil))))))))))))))))))))))
def Gk:Hint where
 acts:=fun _=>[]
 draws:=fun
  | 7=>⟨hi252_7,[[],[0],[],[],[3],[],[],[6],[5,6,7],[3,4,5,6,7,8],[],[3,4,5,6,7,8,9,10],[],[],[13],[],[5,6,7,8,15],[5,6,7,8,13,14,15,16],[2,3,4,5,6,7,8,9,10,11,12,13,14,15,16,17],[2,3,4,5,6,7,8,9,10,11,12,13,14,15,16,17,18],.range 20,.range 21,.range 22],.range 23⟩
  | _=>⟨.nil,[],[]⟩
theorem RR (i:Nat):Gk.acts i=[]:=rfl
theorem RS (i:Nat):Gk.views i=none:=rfl
attribute [go_sem] RR RS Tryz.ntmps252 Tryz.results252
@[go_sem] theorem Xe:(Gk.draws 7).order=hi252_7:=rfl
theorem Dr {v0:GL01Cur}{s:GShow}{res:GShow × GL01Cur × (List GNode)}(h:kh v0 s=some res):al Tryz.prog 252 [.ptr 10000 0 0 0,.agg [.ref 10001 0 0 s.nodes.length,.ref 10002 0 0 s.ties.length,.lit (.int .i64 s.horizon)]] [(10000,0,.var [.sl (ab (eK .u8) v0.b),.lit (.int .i64 v0.i),.lit (.int .i64 v0.h)]),(10001,0,.row true (ab GNode.encO s.nodes)),(10002,0,.row true (ab GTie.enc s.ties))] (.agg [.ref 10001 0 0 res.2.2.length,.ref 20000 1 0 res.1.ties.length,.lit (.int .i64 res.1.horizon)]) [(10000,0,.var [.sl (ab (eK .u8) res.2.1.b),.lit (.int .i64 res.2.1.i),.lit (.int .i64 res.2.1.h)]),(10001,0,.row true (ab GNode.encO res.2.2)),(20000,1,.row true (ab GTie.enc res.1.ties))]:=by
 refine ai (ra:=[.homeCell 256 0,.homeCell 256 1]) (md:=mdT) hT (hi:=Gk) Tryz.func252 rfl rfl (by decide +kernel) (by simp) ?_
 unfold kh at h
 obtain ⟨r01,g1,h⟩:=ae h
 simp(config:=cS)only[go_sem]
 refine ag (aS g1) ?_
 obtain ⟨q06,l2,h⟩:=ae h
 simp(config:=cS)only[go_sem]
 refine ar (m1:=.mk) (m2:=.mk) [.nfo [0,3,4,5,6] [10000,192,10001,10002,256] [10002]] (nZ ((s.nodes.length:Nat):Int) s.horizon s.nodes) l2 ?_ ?_
 ·simp(config:=cS)only[go_sem]
 ·intro nb3 sb3 bb3 b3 gb3
  obtain ⟨k_1,v0_0_1,v0_1_1,v0_2_1,h10002_1⟩:=sb3
  unfold hZ at b3
  try dsimp only at b3
  obtain ⟨h4,b3⟩|⟨h4,b3⟩:=af b3
  ·obtain ⟨r02,g5,b3⟩:=ae b3
   simp(config:=cS)only[go_sem,eqT h4]
   refine ag (aS g5) ?_
   obtain ⟨r03,g6,b3⟩:=ae b3
   simp(config:=cS)only[go_sem]
   refine ag (aS g6) ?_
   obtain ⟨r04,g7,b3⟩:=ae b3
   simp(config:=cS)only[go_sem]
   refine ag (aS g7) ?_
   obtain ⟨h8,b3⟩:=am b3
   obtain ⟨r05,g9,b3⟩:=ae b3
   simp(config:=cS)only[go_sem,eqF h8]
   refine ag (aS g9) ?_
   obtain ⟨h10,b3⟩:=am b3
   obtain ⟨h11,b3⟩:=am b3
   cases b3
   simp(config:=cS)only[go_sem,eqT h10,eqT h11]
   refine au gb3 ?_
   simp(config:=cS)only[go_sem]
  ·cases b3
   obtain rfl:=(aj gb3).symm
   try dsimp only at h
   cases h
   simp(config:=cS)only[go_sem,eqF h4]
def nm (f:Int):(Int × (List GNode) × (List Int) × Int × Int × (List GTie))→St
 | (n,b,c,d,e,a)=>⟨[(0,.ptr 10000 0 0 0),(2,.ptr 128 1 0 0),(3,.ptr 192 1 0 0),(4,.lit (.int .i64 n))],[(10000,0,.var [.sl (ab (eK .u8) c),.lit (.int .i64 d),.lit (.int .i64 e)]),(128,1,.var [.lit (.slice none 0 0),.lit (.slice none 0 0),.lit (.int .i64 0)]),(192,1,.var [.ref 512 1 0 b.length,.ref 100012289 1 0 a.length,.lit (.int .i64 f)]),(512,1,.row true (ab GNode.encO b)),(100012289,1,.row true (ab GTie.enc a))],2⟩
attribute [go_sem] nm
@[go_sem] def hi179_12:DT:=.i1 0 (.i1 1 (.i2 2 (.i2 3 (.i2 4 (.i2 5 (.i2 6 (.i2 7 (.i0 8 [0,1] (.i2 9 (.i2 10 (.i0 11 [0,1] (.i2 12 (.i2 13 (.i2 14 .nil))))))))))))))
@[go_sem] def hi179_11:DT:=.i1 0 (.i1 1 (.i2 2 (.i2 3 (.i0 4 [0,1] (.i2 5 (.i0 6 [0,1] (.i2 7 (.i2 8 (.i2 9 .nil)))))))))
@[go_sem] def hi179_8:DT:=.i1 0 (.i1 1 (.i2 2 (.i2 3 (.i2 5 (.i2 6 (.i2 7 (.i2 8 (.i0 4 [0,1] (.i0 9 [0,1] (.i2 10 (.i2 11 (.i0 12 [0,1] (.i2 13 (.i2 14 (.i2 15 .nil)))))))))))))))
@[go_sem] def hi179_7:DT:=.i1 0 (.i1 1 (.i2 2 (.i0 3 [0,1] (.i2 4 (.i0 5 [0,1] (.i2 6 (.i2 7 (.i2 8 .nil))))))))
def tW:Hint where
 acts:=fun _=>[]
 draws:=fun
  | 7=>⟨hi179_7,[[],[0],[],[2],[2,3],[2,3,4],.range 6,.range 7,.range 8],.range 9⟩
  | 8=>⟨hi179_8,[[],[0],[],[],[2,3],[],[],[],[],[2,3,4,8],[2,3,4,7,8,9],[2,3,4,5,6,7,8,9,10],[2,3,4,5,6,7,8,9,10,11],.range 13,.range 14,.range 15],.range 16⟩
  | 11=>⟨hi179_11,[[],[0],[],[2],[2,3],[2,3,4],[2,3,4,5],.range 7,.range 8,.range 9],.range 10⟩
  | 12=>⟨hi179_12,[[],[0],[],[],[3],[],[],[],[7],[6,7,8],[2,3,4,5,6,7,8,9],[2,3,4,5,6,7,8,9,10],.range 12,.range 13,.range 14],.range 15⟩
  | _=>⟨.nil,[],[]⟩
theorem RT (i:Nat):tW.acts i=[]:=rfl
theorem RU (i:Nat):tW.views i=none:=rfl
attribute [go_sem] RT RU Tryz.ntmps179 Tryz.results179
@[go_sem] theorem Xf:(tW.draws 7).order=hi179_7:=rfl
@[go_sem] theorem Xg:(tW.draws 8).order=hi179_8:=rfl
@[go_sem] theorem Wh:(tW.draws 11).order=hi179_11:=rfl
@[go_sem] theorem Wi:(tW.draws 12).order=hi179_12:=rfl
theorem BO {v0:GL01Cur}{res:GShow × GL01Cur}(h:jr v0=some res):al Tryz.prog 179 [.ptr 10000 0 0 0] [(10000,0,.var [.sl (ab (eK .u8) v0.b),.lit (.int .i64 v0.i),.lit (.int .i64 v0.h)])] (.agg [.ref 20000 1 0 res.1.nodes.length,.ref 20001 1 0 res.1.ties.length,.lit (.int .i64 res.1.horizon)]) [(10000,0,.var [.sl (ab (eK .u8) res.2.b),.lit (.int .i64 res.2.i),.lit (.int .i64 res.2.h)]),(20000,1,.row true (ab GNode.encO res.1.nodes)),(20001,1,.row true (ab GTie.enc res.1.ties))]:=by
 refine ai (ra:=[.homeCell 128 0,.homeCell 128 1]) (md:=mdT) hT (hi:=tW) Tryz.func179 rfl rfl (by decide +kernel) (by simp) ?_
 unfold jr at h
 obtain ⟨r01,g1,h⟩:=ae h
 simp(config:=cS)only[go_sem]
 refine ag (aS g1) ?_
 obtain ⟨r02,g2,h⟩:=ae h
 simp(config:=cS)only[go_sem]
 refine ag (aS g2) ?_
 obtain ⟨q12,l3,h⟩:=ae h
 simp(config:=cS)only[go_sem]
 refine ar (m1:=.mk) (m2:=.mk) [.homeCell 192 1,.nf [0,2,3,4] [10000,128,192,512,100012289]] (nm (IntKind.wrap .i64 (4+r01.1))) l3 ?_ ?_
 ·simp(config:=cS)only[go_sem]
 ·intro nb4 sb4 bb4 b4 gb4
  obtain ⟨n_1,h512_1,v0_0_1,v0_1_1,v0_2_1,h100012289_1⟩:=sb4
  unfold gH at b4
  try dsimp only at b4
  obtain ⟨h5,b4⟩|⟨h5,b4⟩:=af b4
  ·obtain ⟨r03,g6,b4⟩:=ae b4
   simp(config:=cS)only[go_sem,eqT h5]
   refine ag (aS g6) ?_
   obtain ⟨r04,g7,b4⟩:=ae b4
   simp(config:=cS)only[go_sem]
   refine ag (ta g7) ?_
   obtain ⟨h8,b4⟩:=am b4
   obtain ⟨h9,b4⟩:=am b4
   obtain ⟨r05,g10,b4⟩:=ae b4
   simp(config:=cS)only[go_sem,eqT h8,eqT h9]
   refine ag (aS g10) ?_
   obtain ⟨r06,g11,b4⟩:=ae b4
   simp(config:=cS)only[go_sem]
   refine ag (aS g11) ?_
   obtain ⟨h12,b4⟩:=am b4
   obtain ⟨h13,b4⟩:=am b4
   obtain ⟨r07,g14,b4⟩:=ae b4
   simp(config:=cS)only[go_sem,eqT h12,eqT h13]
   refine ag (pt g14) ?_
   obtain ⟨h15,b4⟩|⟨h15,b4⟩:=af b4
   ·obtain ⟨h16,b4⟩|⟨h16,b4⟩:=af b4
    ·obtain ⟨r08,g17,b4⟩:=ae b4
     simp(config:=cS)only[go_sem,eZt h15,eqT h16]
     refine ag (aS g17) ?_
     obtain ⟨r09,g18,b4⟩:=ae b4
     simp(config:=cS)only[go_sem]
     refine ag (ta g18) ?_
     obtain ⟨h19,b4⟩:=am b4
     try simp(config:=cS)only[go_sem] at h19
     obtain ⟨h20,b4⟩:=am b4
     try simp(config:=cS)only[go_sem] at h20
     obtain ⟨r10,g21,b4⟩:=ae b4
     simp(config:=cS)only[go_sem,eqT h5,eqT h8,eqT h9,eqT h12,eqT h13,eZt h15,eqT h16,eqT h19,eqT h20]
     refine ag (aS g21) ?_
     obtain ⟨h22,b4⟩:=am b4
     try simp(config:=cS)only[go_sem] at h22
     obtain ⟨h23,b4⟩:=am b4
     try simp(config:=cS)only[go_sem] at h23
     cases b4
     simp(config:=cS)only[go_sem,eqT h5,eqT h8,eqT h9,eqT h12,eqT h13,eZt h15,eqT h16,eqT h19,eqT h20,eqT h22,eqT h23]
     refine au gb4 ?_
     simp(config:=cS)only[go_sem]
    ·cases b4
     simp(config:=cS)only[go_sem,eZt h15,eqF h16]
     refine au gb4 ?_
     simp(config:=cS)only[go_sem]
   ·cases b4
    simp(config:=cS)only[go_sem,eZf h15]
    refine au gb4 ?_
    simp(config:=cS)only[go_sem]
  ·cases b4
   obtain rfl:=(aj gb4).symm
   try dsimp only at h
   obtain ⟨r11,g25,h⟩:=ae h
   simp(config:=cS)only[go_sem,eqF h5]
   refine ag (Dr g25) ?_
   cases h
   simp(config:=cS)only[go_sem]
attribute [go_sem] Tryz.ntmps92 Tryz.results92
theorem Ds {v0:GL01Cur}{res:GShow × GL01Cur}(h:ki v0=some res):al Tryz.prog 92 [.ptr 10000 0 0 0] [(10000,0,.var [.sl (ab (eK .u8) v0.b),.lit (.int .i64 v0.i),.lit (.int .i64 v0.h)])] (.agg [.ref 20000 1 0 res.1.nodes.length,.ref 20001 1 0 res.1.ties.length,.lit (.int .i64 res.1.horizon)]) [(10000,0,.var [.sl (ab (eK .u8) res.2.b),.lit (.int .i64 res.2.i),.lit (.int .i64 res.2.h)]),(20000,1,.row true (ab GNode.encO res.1.nodes)),(20001,1,.row true (ab GTie.enc res.1.ties))]:=by
 refine ai (ra:=[.homeCell 128 0,.homeCell 128 1]) (md:=mdT) hT (hi:=hi00) Tryz.func92 rfl rfl (by decide +kernel) (by simp) ?_
 unfold ki at h
 obtain ⟨r01,g1,h⟩:=ae h
 simp(config:=cS)only[go_sem]
 refine ag (pt g1) ?_
 obtain ⟨h2,h⟩|⟨h2,h⟩:=af h
 ·obtain ⟨r02,g3,h⟩:=ae h
  simp(config:=cS)only[go_sem,eZt h2]
  refine ag (zJ g3) ?_
  cases h
  simp(config:=cS)only[go_sem]
 ·obtain ⟨r03,g4,h⟩:=ae h
  simp(config:=cS)only[go_sem,eZf h2]
  refine ag (BO g4) ?_
  cases h
  simp(config:=cS)only[go_sem]
attribute [go_sem] Tryz.ntmps31 Tryz.results31
theorem BP {code:List Int}{res:GShow}(h:js code=some res):al Tryz.prog 31 [.sl (ab (eK .u8) code)] [] (.agg [.ref 20000 1 0 res.nodes.length,.ref 20001 1 0 res.ties.length,.lit (.int .i64 res.horizon)]) [(20000,1,.row true (ab GNode.encO res.nodes)),(20001,1,.row true (ab GTie.enc res.ties))]:=by
 refine ai (ra:=[.homeCell 128 0,.homeCell 128 1]) (md:=mdT) hT (hi:=hi00) Tryz.func31 rfl rfl (by decide +kernel) (by simp) ?_
 unfold js at h
 obtain ⟨r01,g1,h⟩:=ae h
 simp(config:=cS)only[go_sem]
 refine ag (uL g1) ?_
 obtain ⟨r02,g2,h⟩:=ae h
 simp(config:=cS)only[go_sem]
 refine ag (Ds g2) ?_
 cases h
 simp(config:=cS)only[go_sem]
def oV (n:Int):(Int × (List Int) × Int × Int)→St
 | (i,a,b,c)=>⟨[(1,.lit (.int .i64 n)),(5,.ptr 512 1 0 0),(6,.lit (.int .i64 i))],[(512,1,.var [.sl (ab (eK .u8) a),.lit (.int .i64 b),.lit (.int .i64 c)])],2⟩
attribute [go_sem] oV
attribute [go_sem] Tryz.ntmps89 Tryz.results89
theorem Fp {code:List Int}{n:Int}{res:GL01Cur}(h:kY code n=some res):al Tryz.prog 89 [.sl (ab (eK .u8) code),.lit (.int .i64 n)] [] (.ptr 20000 1 0 0) [(20000,1,.var [.sl (ab (eK .u8) res.b),.lit (.int .i64 res.i),.lit (.int .i64 res.h)])]:=by
 refine ai (ra:=[]) (md:=mdT) hT (hi:=hi00) Tryz.func89 rfl rfl (by decide +kernel) (by simp) ?_
 unfold kY at h
 obtain ⟨r01,g1,h⟩:=ae h
 simp(config:=cS)only[go_sem]
 refine ag (uL g1) ?_
 obtain ⟨q03,l2,h⟩:=ae h
 simp(config:=cS)only[go_sem]
 refine ar (m1:=.mk) (m2:=.mk) [.nf [1,5,6] [512]] (oV n) l2 ?_ ?_
 ·simp(config:=cS)only[go_sem]
 ·intro nb3 sb3 bb3 b3 gb3
  obtain ⟨i_1,v5_0_1,v5_1_1,v5_2_1⟩:=sb3
  unfold iL at b3
  try dsimp only at b3
  obtain ⟨h4,b3⟩|⟨h4,b3⟩:=af b3
  ·obtain ⟨r02,g5,b3⟩:=ae b3
   simp(config:=cS)only[go_sem,eqT h4]
   refine ag (ei g5) ?_
   cases b3
   simp(config:=cS)only[go_sem]
   refine au gb3 ?_
   simp(config:=cS)only[go_sem]
  ·cases b3
   obtain rfl:=(aj gb3).symm
   try dsimp only at h
   cases h
   simp(config:=cS)only[go_sem,eqF h4]
attribute [go_sem] Tryz.ntmps29 Tryz.results29
theorem tb {code:List Int}{n res:Int}(h:kj code n=some res):al Tryz.prog 29 [.sl (ab (eK .u8) code),.lit (.int .i64 n)] [] (.lit (.int .i64 res)) []:=by
 refine ai (ra:=[]) (md:=mdT) hT (hi:=hi00) Tryz.func29 rfl rfl (by decide +kernel) (by simp) ?_
 unfold kj at h
 obtain ⟨r01,g1,h⟩:=ae h
 simp(config:=cS)only[go_sem]
 refine ag (Fp g1) ?_
 obtain ⟨r02,g2,h⟩:=ae h
 simp(config:=cS)only[go_sem]
 refine ag (ei g2) ?_
 obtain ⟨r03,g3,h⟩:=ae h
 simp(config:=cS)only[go_sem]
 refine ag (ei g3) ?_
 cases h
 simp(config:=cS)only[go_sem]
@[go_sem] def hi26_1:DT:=.i1 0 (.i2 1 (.i2 2 (.i1 4 (.fork (.i0 3 [0,4] (.fork (.i0 5 [0] (.i2 6 (.fork (.i2 7 (.i2 8 (.i2 9 (.i2 10 (.i0 11 [0,4] (.i2 12 (.i2 13 .nil))))))) (.i0 11 [0,4] (.i2 7 (.i2 8 (.i2 9 (.i2 10 (.i2 12 (.i2 13 .nil)))))))))) (.i0 11 [0,4] (.i0 5 [0] (.i2 6 (.i2 7 (.i2 8 (.i2 9 (.i2 10 (.i2 12 (.i2 13 .nil))))))))))) (.i0 11 [0,4] (.i0 3 [0,4] (.i0 5 [0] (.i2 6 (.i2 7 (.i2 8 (.i2 9 (.i2 10 (.i2 12 (.i2 13 .nil))))))))))))))
def hi26:Hint where
 acts:=fun _=>[]
 draws:=fun
  | 1=>⟨hi26_1,[[],[],[],[1,2],[],[1,2,3,4],[1,2,3,4,5],.range 7,.range 8,.range 9,.range 9,[],[0,1,2,3,4,5,6,7,8,9,11],.range 13],[0,1,2,3,4,5,6,7,8,9,12,10,11,13]⟩
  | _=>⟨.nil,[],[]⟩
theorem UL (i:Nat):hi26.acts i=[]:=rfl
theorem UM (i:Nat):hi26.views i=none:=rfl
attribute [go_sem] UL UM Tryz.ntmps26 Tryz.results26
@[go_sem] theorem Ym:(hi26.draws 1).order=hi26_1:=rfl
theorem xP {code:List Int}{n:Int}{s:GShow}{res:GChoice}(h:ia code n s=some res):al Tryz.prog 26 [.sl (ab (eK .u8) code),.lit (.int .i64 n),.agg (GShow.encS s)] [] (.agg [.ref 20000 1 0 res.lengths.length,.ref 20001 1 0 res.values.length]) [(20000,1,.row true (ab eI res.lengths)),(20001,1,.row true (ab eI res.values))]:=by
 refine ai (ra:=[.homeCell 384 0,.homeCell 384 1]) (md:=mdT) hT (hi:=hi26) Tryz.func26 rfl rfl (by decide +kernel) (by simp) ?_
 unfold ia at h
 try simp(config:=cS)only[go_sem]
 refine eX ?_ ?_
 ·obtain ⟨r01,g1,h⟩:=ae h
  simp(config:=cS)only[go_sem]
  refine ag (tb g1) ?_
  try simp(config:=cS)only[go_sem]
  refine eX ?_ ?_
  ·obtain ⟨r02,g2,h⟩:=ae h
   simp(config:=cS)only[go_sem]
   refine ag (iP g2) ?_
   obtain ⟨h3,h⟩:=am h
   try simp(config:=cS)only[go_sem,eqF h3]
   refine eX ?_ ?_
   ·obtain ⟨r03,g4,h⟩:=ae h
    simp(config:=cS)only[go_sem]
    refine ag (lq g4) ?_
    cases h
    simp(config:=cS)only[go_sem]
   ·obtain ⟨r04,g5,h⟩:=ae h
    simp(config:=cS)only[go_sem]
    refine ag (lq g5) ?_
    cases h
    simp(config:=cS)only[go_sem]
  ·obtain ⟨r05,g6,h⟩:=ae h
   simp(config:=cS)only[go_sem]
   refine ag (iP g6) ?_
   obtain ⟨h7,h⟩:=am h
   obtain ⟨r06,g8,h⟩:=ae h
   simp(config:=cS)only[go_sem,eqF h7]
   refine ag (lq g8) ?_
   cases h
   simp(config:=cS)only[go_sem]
 ·obtain ⟨r07,g9,h⟩:=ae h
  simp(config:=cS)only[go_sem]
  refine ag (tb g9) ?_
  obtain ⟨r08,g10,h⟩:=ae h
  simp(config:=cS)only[go_sem]
  refine ag (iP g10) ?_
  obtain ⟨h11,h⟩:=am h
  obtain ⟨r09,g12,h⟩:=ae h
  simp(config:=cS)only[go_sem,eqF h11]
  refine ag (lq g12) ?_
  cases h
  simp(config:=cS)only[go_sem]
def oa (e:List GTie)(f b:Int)(c d:List Int):(Int × (List GTake))→St
 | (g,a)=>⟨[(3,.ptr 192 1 0 0),(5,.ref 383 1 0 a.length),(13,.sl (ab GTie.enc e)),(14,.lit (.int .i64 f)),(15,.lit (.int .i64 g))],[(192,1,.var [.lit (.int .i64 b),.sl (ab eI c),.sl (ab eI d)]),(383,1,.row true (ab GTake.enc a))],2⟩
attribute [go_sem] oa
@[go_sem] def hi38_8:DT:=.i2 0 (.i2 1 (.i2 2 (.i2 3 (.i2 4 (.i2 5 (.i2 6 (.i2 7 (.i2 8 (.i2 9 (.i2 10 (.i2 11 (.i2 12 (.i2 13 (.i2 14 (.i2 15 (.i2 16 (.i2 17 (.i2 18 .nil))))))))))))))))))
def hi38:Hint where
 acts:=fun _=>[]
 draws:=fun
  | 8=>⟨hi38_8,[[],[],[],[2],[],[4],[2,3,4,5],[2,3,4,5,6],[],[8],[],[10],[8,9,10,11],[8,9,10,11,12],[2,3,4,5,6,7,8,9,10,11,12,13],[1,2,3,4,5,6,7,8,9,10,11,12,13,14],[1,2,3,4,5,6,7,8,9,10,11,12,13,14,15],.range 17,.range 18],.range 19⟩
  | _=>⟨.nil,[],[]⟩
theorem UN (i:Nat):hi38.acts i=[]:=rfl
theorem UO (i:Nat):hi38.views i=none:=rfl
attribute [go_sem] UN UO Tryz.ntmps38 Tryz.results38
@[go_sem] theorem Yn:(hi38.draws 8).order=hi38_8:=rfl
theorem Dt {s:GShow}{v1:GState}{res:List GTake}(h:kk s v1=some res):al Tryz.prog 38 [.agg (GShow.encS s),.agg (GState.encS v1)] [] (.ref 20000 1 0 res.length) [(20000,1,.row true (ab GTake.enc res))]:=by
 refine ai (ra:=[.home 4]) (md:=mdT) hT (hi:=hi38) Tryz.func38 rfl rfl (by decide +kernel) (by simp) ?_
 unfold kk at h
 obtain ⟨r01,g1,h⟩:=ae h
 simp(config:=cS)only[go_sem]
 refine ag (lV g1) ?_
 obtain ⟨h2,h⟩|⟨h2,h⟩:=af h
 ·obtain ⟨q05,l3,h⟩:=ae h
  simp(config:=cS)only[go_sem,eZt h2]
  refine ar (m1:=.mk) (m2:=.mk) [.home 5,.nf [3,5,13,14,15] [192,383]] (oa s.ties ((s.ties.length:Nat):Int) v1.now v1.times v1.values) l3 ?_ ?_
  ·simp(config:=cS)only[go_sem]
  ·intro nb4 sb4 bb4 b4 gb4
   obtain ⟨v15_1,out_1⟩:=sb4
   unfold ib at b4
   try dsimp only at b4
   obtain ⟨h5,b4⟩|⟨h5,b4⟩:=af b4
   ·obtain ⟨x02,g6,b4⟩:=ae b4
    obtain ⟨h7,h8,h9⟩:=ak g6
    obtain ⟨h10,b4⟩|⟨h10,b4⟩:=af b4
    ·obtain ⟨x03,g11,b4⟩:=ae b4
     obtain ⟨h12,h13,h14⟩:=ak g11
     obtain ⟨h15,b4⟩|⟨h15,b4⟩:=af b4
     ·cases b4
      simp(config:=cS)only[go_sem,eqT h5,h7,h8,h9,eZt h10,h12,h13,h14,eqT h15]
      refine au gb4 ?_
      simp(config:=cS)only[go_sem]
     ·obtain ⟨x04,g16,b4⟩:=ae b4
      obtain ⟨h17,h18,h19⟩:=ak g16
      obtain ⟨h20,b4⟩|⟨h20,b4⟩:=af b4
      ·cases b4
       simp(config:=cS)only[go_sem,eqT h5,h7,h8,h9,eZt h10,h12,h13,h14,eqF h15,h17,h18,h19,eqT h20]
       refine au gb4 ?_
       simp(config:=cS)only[go_sem]
      ·obtain ⟨h21,b4⟩:=am b4
       obtain ⟨h22,b4⟩:=am b4
       cases b4
       simp(config:=cS)only[go_sem,eqT h5,h7,h8,h9,eZt h10,h12,h13,h14,eqF h15,h17,h18,h19,eqF h20,eqT h21,eqT h22]
       refine au gb4 ?_
       simp(config:=cS)only[go_sem]
    ·cases b4
     simp(config:=cS)only[go_sem,eqT h5,h7,h8,h9,eZf h10]
     refine au gb4 ?_
     simp(config:=cS)only[go_sem]
   ·cases b4
    obtain rfl:=(aj gb4).symm
    try dsimp only at h
    cases h
    simp(config:=cS)only[go_sem,eqF h5]
 ·cases h
  simp(config:=cS)only[go_sem,eZf h2]
def jA (c:List GTake)(a:Nat)(b:List AV)(d e:Int):St:=⟨[(0,.sl (ab GTake.enc c)),(1,.fn a b),(7,.lit (.int .i64 d)),(8,.lit (.int .i64 e))],[],2⟩
attribute [go_sem] jA
attribute [go_sem] Tryz.ntmps193 Tryz.results193
theorem rI {v0:List GTake}{v1:GTake→Option Bool}{f_v1:Nat}{k_v1:List AV}(hp_v1:∀ y0 r,v1 y0=some r→al Tryz.prog f_v1 ([.agg [.lit (.int .i64 y0.tie),.lit (.int .i64 y0.length)]]++k_v1) [] (.lit (.bool r)) [])(hc_v1:KC k_v1)(hm_v1:∀ a,mdT f_v1 a=⟨[],false⟩)(hk_v1:spf f_v1=false){res:Int}(h:dG v0 v1=some res):al Tryz.prog 193 [.sl (ab GTake.enc v0),.fn f_v1 k_v1] [] (.lit (.int .i64 res)) []:=by
 refine ai (ra:=[]) (md:=mdT) hT (hi:=hi00) Tryz.func193 rfl rfl (by decide +kernel) (by simp) ?_
 unfold dG at h
 obtain ⟨q03,l1,h⟩:=ae h
 simp(config:=cS)only[go_sem,hc_v1.1,hc_v1.2,hm_v1,hk_v1]
 refine ar (m1:=.mk) (m2:=.mk) [.nf [0,1,7,8] []] (jA v0 f_v1 k_v1 ((v0.length:Nat):Int)) l1 ?_ ?_
 ·simp(config:=cS)only[go_sem]
 ·intro nb2 v8_1 bb2 b2 gb2
  unfold ce at b2
  try dsimp only at b2
  obtain ⟨h3,b2⟩|⟨h3,b2⟩:=af b2
  ·obtain ⟨x01,g4,b2⟩:=ae b2
   obtain ⟨h5,h6,h7⟩:=ak g4
   obtain ⟨r02,g8,b2⟩:=ae b2
   simp(config:=cS)only[go_sem,eqT h3,h5,h6,h7]
   refine ag (hp_v1 _ _ g8) ?_
   obtain ⟨h9,b2⟩|⟨h9,b2⟩:=af b2
   ·cases b2
    obtain rfl:=(aj gb2).symm
    try dsimp only at h
    cases h
    simp(config:=cS)only[go_sem,eZt h9]
   ·cases b2
    simp(config:=cS)only[go_sem,eZf h9]
    refine au gb2 ?_
    simp(config:=cS)only[go_sem]
  ·cases b2
   obtain rfl:=(aj gb2).symm
   try dsimp only at h
   cases h
   simp(config:=cS)only[go_sem,eqF h3]
attribute [go_sem] Tryz.ntmps101 Tryz.results101
theorem qq {v0:List GTake}{v1:GTake→Option Bool}{f_v1:Nat}{k_v1:List AV}(hp_v1:∀ y0 r,v1 y0=some r→al Tryz.prog f_v1 ([.agg [.lit (.int .i64 y0.tie),.lit (.int .i64 y0.length)]]++k_v1) [] (.lit (.bool r)) [])(hc_v1:KC k_v1)(hm_v1:∀ a,mdT f_v1 a=⟨[],false⟩)(hk_v1:spf f_v1=false){res:Bool}(h:cJ v0 v1=some res):al Tryz.prog 101 [.sl (ab GTake.enc v0),.fn f_v1 k_v1] [] (.lit (.bool res)) []:=by
 refine ai (ra:=[]) (md:=mdT) hT (hi:=hi00) Tryz.func101 rfl rfl (by decide +kernel) (by simp) ?_
 unfold cJ at h
 obtain ⟨r01,g1,h⟩:=ae h
 simp(config:=cS)only[go_sem,hc_v1.1,hc_v1.2,hm_v1,hk_v1]
 refine ag (rI hp_v1 hc_v1 hm_v1 hk_v1 g1) ?_
 cases h
 simp(config:=cS)only[go_sem]
@[go_sem] def hi102_1:DT:=.i2 0 (.i2 1 (.i2 2 (.i2 3 (.i2 4 (.i2 5 (.i2 6 (.i2 7 (.i2 8 (.i2 9 (.i2 10 (.i2 11 (.i2 12 (.i2 13 (.i2 14 (.i2 15 (.i2 16 (.i2 17 (.i2 18 (.i2 19 (.i2 20 (.i2 21 (.i2 22 (.i2 23 (.i2 24 (.i2 25 (.i2 26 (.i2 27 (.i2 28 (.i2 29 (.i2 30 (.i2 31 (.i2 32 (.i2 33 (.i2 34 (.i2 35 (.i2 36 (.i2 37 (.i2 38 (.i2 39 (.i2 40 (.i2 41 .nil)))))))))))))))))))))))))))))))))))))))))
def Gm:Hint where
 acts:=fun _=>[]
 draws:=fun
  | 1=>⟨hi102_1,[[],[0],[0,1],[],[3],.range 5,.range 6,.range 7,.range 8,.range 9,.range 8,[0,1,2,3,4,5,6,7,10],.range 12,.range 13,.range 14,.range 15,.range 16,.range 17,.range 18,.range 19,.range 18,[0,1,2,3,4,5,6,7,8,9,10,11,12,13,14,15,16,17,20],.range 18,[0,1,2,3,4,5,6,7,8,9,10,11,12,13,14,15,16,17,22],[0,1,2,3,4,5,6,7,8,9,10,11,12,13,14,15,16,17,20,21,22,23],[0,1,2,3,4,5,6,7,8,9,10,11,12,13,14,15,16,17,20,21,22,23,24],[0,1,2,3,4,5,6,7,8,9,10,11,12,13,14,15,16,17,20,21,22,23,24,25],.range 27,.range 28,.range 29,.range 30,.range 31,.range 30,[0,1,2,3,4,5,6,7,8,9,10,11,12,13,14,15,16,17,18,19,20,21,22,23,24,25,26,27,28,29,32],.range 30,[0,1,2,3,4,5,6,7,8,9,10,11,12,13,14,15,16,17,18,19,20,21,22,23,24,25,26,27,28,29,34],[0,1,2,3,4,5,6,7,8,9,10,11,12,13,14,15,16,17,18,19,20,21,22,23,24,25,26,27,28,29,32,33,34,35],[0,1,2,3,4,5,6,7,8,9,10,11,12,13,14,15,16,17,18,19,20,21,22,23,24,25,26,27,28,29,32,33,34,35,36],[0,1,2,3,4,5,6,7,8,9,10,11,12,13,14,15,16,17,18,19,20,21,22,23,24,25,26,27,28,29,32,33,34,35,36,37],.range 39,.range 40,.range 41],.range 42⟩
  | _=>⟨.nil,[],[]⟩
theorem RV (i:Nat):Gm.acts i=[]:=rfl
theorem RW (i:Nat):Gm.views i=none:=rfl
attribute [go_sem] RV RW Tryz.ntmps102 Tryz.results102
@[go_sem] theorem Xh:(Gm.draws 1).order=hi102_1:=rfl
theorem xQ {t:GTake}{s:GShow}{res:Bool}(h:jM t s=some res):al Tryz.prog 102 [.agg [.lit (.int .i64 t.tie),.lit (.int .i64 t.length)],.loc [.sl (ab GNode.encS s.nodes),.sl (ab GTie.enc s.ties),.lit (.int .i64 s.horizon)]] [] (.lit (.bool res)) []:=by
 refine ai (ra:=[]) (md:=mdT) hT (hi:=Gm) Tryz.func102 rfl rfl (by decide +kernel) (by simp) ?_
 unfold jM at h
 obtain ⟨r01,g1,h⟩:=ae h
 simp(config:=cS)only[go_sem]
 refine ag (qt g1) ?_
 obtain ⟨h2,h⟩|⟨h2,h⟩:=af h
 ·obtain ⟨x02,g3,h⟩:=ae h
  obtain ⟨h4,h5,h6⟩:=ak g3
  obtain ⟨h7,h⟩|⟨h7,h⟩:=af h
  ·obtain ⟨h8,h⟩|⟨h8,h⟩:=af h
   ·cases h
    simp(config:=cS)only[go_sem,eZt h2,h4,h5,h6,eZt h7,eqT h8]
   ·cases h
    simp(config:=cS)only[go_sem,eZt h2,h4,h5,h6,eZt h7,eqF h8]
  ·cases h
   simp(config:=cS)only[go_sem,eZt h2,h4,h5,h6,eZf h7]
 ·cases h
  simp(config:=cS)only[go_sem,eZf h2]
attribute [go_sem] Tryz.ntmps40 Tryz.results40
theorem lT {s:GShow}{list:List GTake}{res:Bool}(h:eL s list=some res):al Tryz.prog 40 [.agg (GShow.encS s),.sl (ab GTake.enc list)] [] (.lit (.bool res)) []:=by
 refine ai (ra:=[]) (md:=mdT) hT (hi:=hi00) Tryz.func40 rfl rfl (by decide +kernel) (by simp) ?_
 unfold eL at h
 obtain ⟨r01,g1,h⟩:=ae h
 simp(config:=cS)only[go_sem]
 refine ag (gR g1) ?_
 obtain ⟨h2,h⟩|⟨h2,h⟩:=af h
 ·obtain ⟨h3,h⟩|⟨h3,h⟩:=af h
  ·cases h
   simp(config:=cS)only[go_sem,eZt h2,eqT h3]
  ·obtain ⟨r02,g4,h⟩:=ae h
   simp(config:=cS)only[go_sem,eZt h2,eqF h3]
   refine ag (qq (by exact fun _ _ hr=>xQ hr) (by refine ⟨fun _=>?_,fun _=>?_⟩ <;> simp only [go_sem]) (fun _=>rfl) rfl g4) ?_
   cases h
   simp(config:=cS)only[go_sem]
 ·cases h
  simp(config:=cS)only[go_sem,eZf h2]
attribute [go_sem] Tryz.ntmps100 Tryz.results100
theorem Fq {n most:Int}{res:Bool}(h:mS n most=some res):al Tryz.prog 100 [.lit (.int .i64 n),.lit (.int .i64 most)] [] (.lit (.bool res)) []:=by
 refine ai (ra:=[]) (md:=mdT) hT (hi:=hi00) Tryz.func100 rfl rfl (by decide +kernel) (by simp) ?_
 unfold mS at h
 obtain ⟨h1,h⟩|⟨h1,h⟩:=af h
 ·cases h
  simp(config:=cS)only[go_sem,eqT h1]
 ·cases h
  simp(config:=cS)only[go_sem,eqF h1]
def mA (a:List Int):(Int × Int)→St
 | (b,c)=>⟨[(0,.sl (ab eI a)),(3,.lit (.int .i64 b)),(4,.lit (.int .i64 c))],[],2⟩
attribute [go_sem] mA
attribute [go_sem] Tryz.ntmps107 Tryz.results107
theorem zK {v0:List Int}{res:Int}(h:iM v0=some res):al Tryz.prog 107 [.sl (ab eI v0)] [] (.lit (.int .i64 res)) []:=by
 refine ai (ra:=[]) (md:=mdT) hT (hi:=hi00) Tryz.func107 rfl rfl (by decide +kernel) (by simp) ?_
 unfold iM at h
 obtain ⟨h1,h⟩|⟨h1,h⟩:=af h
 ·cases h
 ·obtain ⟨x01,g2,h⟩:=ae h
  obtain ⟨h4,h5⟩:=dg (k:=0) g2
  obtain ⟨q03,l6,h⟩:=ae h
  simp(config:=cS)only[go_sem,eqF h1,h4,h5]
  refine ar (m1:=.mk) (m2:=.mk) [.nf [0,3,4] []] (mA v0) l6 ?_ ?_
  ·simp(config:=cS)only[go_sem]
  ·intro nb7 sb7 bb7 b7 gb7
   obtain ⟨v3_1,v4_1⟩:=sb7
   unfold fQ at b7
   try dsimp only at b7
   obtain ⟨h8,b7⟩|⟨h8,b7⟩:=af b7
   ·obtain ⟨x02,g9,b7⟩:=ae b7
    obtain ⟨h10,h11,h12⟩:=ak g9
    cases b7
    simp(config:=cS)only[go_sem,eqT h8,h10,h11,h12]
    refine au gb7 ?_
    simp(config:=cS)only[go_sem]
   ·cases b7
    obtain rfl:=(aj gb7).symm
    try dsimp only at h
    cases h
    simp(config:=cS)only[go_sem,eqF h8]
def mB (a:List Int):(Int × Int)→St
 | (b,c)=>⟨[(0,.sl (ab eI a)),(3,.lit (.int .i64 b)),(4,.lit (.int .i64 c))],[],2⟩
attribute [go_sem] mB
attribute [go_sem] Tryz.ntmps108 Tryz.results108
theorem zL {v0:List Int}{res:Int}(h:iN v0=some res):al Tryz.prog 108 [.sl (ab eI v0)] [] (.lit (.int .i64 res)) []:=by
 refine ai (ra:=[]) (md:=mdT) hT (hi:=hi00) Tryz.func108 rfl rfl (by decide +kernel) (by simp) ?_
 unfold iN at h
 obtain ⟨h1,h⟩|⟨h1,h⟩:=af h
 ·cases h
 ·obtain ⟨x01,g2,h⟩:=ae h
  obtain ⟨h4,h5⟩:=dg (k:=0) g2
  obtain ⟨q03,l6,h⟩:=ae h
  simp(config:=cS)only[go_sem,eqF h1,h4,h5]
  refine ar (m1:=.mk) (m2:=.mk) [.nf [0,3,4] []] (mB v0) l6 ?_ ?_
  ·simp(config:=cS)only[go_sem]
  ·intro nb7 sb7 bb7 b7 gb7
   obtain ⟨v3_1,v4_1⟩:=sb7
   unfold fR at b7
   try dsimp only at b7
   obtain ⟨h8,b7⟩|⟨h8,b7⟩:=af b7
   ·obtain ⟨x02,g9,b7⟩:=ae b7
    obtain ⟨h10,h11,h12⟩:=ak g9
    cases b7
    simp(config:=cS)only[go_sem,eqT h8,h10,h11,h12]
    refine au gb7 ?_
    simp(config:=cS)only[go_sem]
   ·cases b7
    obtain rfl:=(aj gb7).symm
    try dsimp only at h
    cases h
    simp(config:=cS)only[go_sem,eqF h8]
def kN (b:Int)(c:List GTake)(d:Int):(Int × (List Int))→St
 | (e,a)=>⟨[(2,.lit (.int .i64 b)),(6,.ptr 384 1 0 0),(8,.ref 575 1 0 a.length),(16,.sl (ab GTake.enc c)),(17,.lit (.int .i64 d)),(18,.lit (.int .i64 e))],[(384,1,.var [.lit (.int .i64 0),.lit (.int .i64 0)]),(575,1,.row true (ab eI a))],2⟩
attribute [go_sem] kN
attribute [go_sem] Tryz.ntmps43 Tryz.results43
theorem ob {s:GShow}{list:List GTake}{tie:Int}{res:aK × Bool}(h:dz s list tie=some res):al Tryz.prog 43 [.agg (GShow.encS s),.sl (ab GTake.enc list),.lit (.int .i64 tie)] [] (.tup [.agg [.lit (.int .i64 res.1.low),.lit (.int .i64 res.1.high)],.lit (.bool res.2)]) []:=by
 refine ai (ra:=[]) (md:=mdT) hT (hi:=hi00) Tryz.func43 rfl rfl (by decide +kernel) (by simp) ?_
 unfold dz at h
 obtain ⟨r01,g1,h⟩:=ae h
 simp(config:=cS)only[go_sem]
 refine ag (lT g1) ?_
 obtain ⟨h2,h⟩|⟨h2,h⟩:=af h
 ·obtain ⟨q05,l3,h⟩:=ae h
  simp(config:=cS)only[go_sem,eZt h2]
  refine ar (m1:=.mk) (m2:=.mk) [.home 8,.nf [2,6,8,16,17,18] [384,575]] (kN tie list ((list.length:Nat):Int)) l3 ?_ ?_
  ·simp(config:=cS)only[go_sem]
  ·intro nb4 sb4 bb4 b4 gb4
   obtain ⟨v18_1,lengths_1⟩:=sb4
   unfold dH at b4
   try dsimp only at b4
   obtain ⟨h5,b4⟩|⟨h5,b4⟩:=af b4
   ·obtain ⟨x02,g6,b4⟩:=ae b4
    obtain ⟨h7,h8,h9⟩:=ak g6
    obtain ⟨h10,b4⟩|⟨h10,b4⟩:=af b4
    ·obtain ⟨h11,b4⟩:=am b4
     obtain ⟨h12,b4⟩:=am b4
     cases b4
     simp(config:=cS)only[go_sem,eqT h5,h7,h8,h9,eqT h10,eqT h11,eqT h12]
     refine au gb4 ?_
     simp(config:=cS)only[go_sem]
    ·cases b4
     simp(config:=cS)only[go_sem,eqT h5,h7,h8,h9,eqF h10]
     refine au gb4 ?_
     simp(config:=cS)only[go_sem]
   ·cases b4
    obtain rfl:=(aj gb4).symm
    try dsimp only at h
    obtain ⟨h14,h⟩|⟨h14,h⟩:=af h
    ·cases h
     simp(config:=cS)only[go_sem,eqF h5,eqT h14]
    ·obtain ⟨r03,g15,h⟩:=ae h
     simp(config:=cS)only[go_sem,eqF h5,eqF h14]
     refine ag (zK g15) ?_
     obtain ⟨r04,g16,h⟩:=ae h
     simp(config:=cS)only[go_sem]
     refine ag (zL g16) ?_
     cases h
     simp(config:=cS)only[go_sem]
 ·cases h
  simp(config:=cS)only[go_sem,eZf h2]
def lB (e:List GTake)(c f:Int)(g:List GNode)(h:List GTie)(i d:Int)(a:List GNode):(Int × (List GTie))→St
 | (j,b)=>⟨[(1,.sl (ab GTake.enc e)),(2,.lit (.int .i64 c)),(3,.ptr 192 1 0 0),(6,.ptr 384 1 0 0),(8,.ptr 512 1 0 0),(26,.lit (.int .i64 f)),(27,.lit (.int .i64 j))],[(192,1,.var [.sl (ab GNode.encS g),.sl (ab GTie.enc h),.lit (.int .i64 i)]),(384,1,.var [.lit (.slice none 0 0),.lit (.slice none 0 0),.lit (.int .i64 0)]),(512,1,.var [.ref 1472 1 0 a.length,.ref 1473 1 0 b.length,.lit (.int .i64 d)]),(1472,1,.row true (ab GNode.encO a)),(1473,1,.row true (ab GTie.enc b))],2⟩
attribute [go_sem] lB
@[go_sem] def hi39_9:DT:=.i2 0 (.i2 1 (.i2 2 (.i1 3 (.i1 4 (.i2 5 (.i2 6 (.i2 7 (.i2 8 (.i2 9 (.i2 10 (.i2 11 (.i2 12 (.i2 13 (.i2 14 (.i2 15 (.i2 16 (.i2 17 (.i2 18 (.i2 19 (.i2 20 (.i2 21 (.i2 22 (.i1 23 (.i1 24 (.i2 25 (.i2 26 (.i2 27 (.i2 28 (.i2 29 (.i0 30 [3,4,23,24] (.i2 31 (.i2 32 (.i2 33 .nil)))))))))))))))))))))))))))))))))
def hi39:Hint where
 acts:=fun _=>[]
 draws:=fun
  | 9=>⟨hi39_9,[[],[0],[],[],[3],[],[],[6],[],[6,7,8],[6,7,8,9],[6,7,8,9,10],[],[12],[],[12,13,14],[6,7,8,9,10,11,12,13,14,15],[],[17],[],[17,18,19],[17,18,19,20],[17,18,19,20,21],[],[23],[],[23,24,25],[17,18,19,20,21,22,23,24,25,26],[0,1,2,6,7,8,9,10,11,12,13,14,15,16,17,18,19,20,21,22],[0,1,2,6,7,8,9,10,11,12,13,14,15,16,17,18,19,20,21,22,28],[0,1,2,6,7,8,9,10,11,12,13,14,15,16,17,18,19,20,21,22,28,29],.range 31,.range 32,.range 33],[0,1,2,28,29,30,3,4,5,6,7,8,9,10,11,12,13,14,15,16,17,18,19,20,21,22,23,24,25,26,27,31,32,33]⟩
  | _=>⟨.nil,[],[]⟩
theorem UP (i:Nat):hi39.acts i=[]:=rfl
theorem UQ (i:Nat):hi39.views i=none:=rfl
attribute [go_sem] UP UQ Tryz.ntmps39 Tryz.results39
@[go_sem] theorem Yo:(hi39.draws 9).order=hi39_9:=rfl
theorem pT {s:GShow}{list:List GTake}{slack:Int}{res:GShow × Bool}(h:eO s list slack=some res):al Tryz.prog 39 [.agg (GShow.encS s),.sl (ab GTake.enc list),.lit (.int .i64 slack)] [] (.tup [.agg [.ref 20000 1 0 res.1.nodes.length,.ref 20001 1 0 res.1.ties.length,.lit (.int .i64 res.1.horizon)],.lit (.bool res.2)]) [(20000,1,.row true (ab GNode.encO res.1.nodes)),(20001,1,.row true (ab GTie.enc res.1.ties))]:=by
 refine ai (ra:=[.homeCell 384 0,.homeCell 384 1]) (md:=mdT) hT (hi:=hi39) Tryz.func39 rfl rfl (by decide +kernel) (by simp) ?_
 unfold eO at h
 obtain ⟨r01,g1,h⟩:=ae h
 simp(config:=cS)only[go_sem]
 refine ag (lT g1) ?_
 obtain ⟨h2,h⟩|⟨h2,h⟩:=af h
 ·obtain ⟨r02,g3,h⟩:=ae h
  simp(config:=cS)only[go_sem,eZt h2]
  refine ag (Fq g3) ?_
  obtain ⟨h4,h⟩|⟨h4,h⟩:=af h
  ·obtain ⟨r03,g5,h⟩:=ae h
   simp(config:=cS)only[go_sem,eZt h4]
   refine ag (oo g5) ?_
   obtain ⟨q07,l6,h⟩:=ae h
   simp(config:=cS)only[go_sem]
   refine ar (m1:=.mk) (m2:=.mk) [.nf [1,2,3,6,8,26,27] [192,384,512,1472,1473]] (lB list slack ((r03.ties.length:Nat):Int) s.nodes s.ties s.horizon r03.horizon r03.nodes) l6 ?_ ?_
   ·simp(config:=cS)only[go_sem]
   ·intro nb7 sb7 bb7 b7 gb7
    obtain ⟨v27_1,h1473_1⟩:=sb7
    unfold eN at b7
    try dsimp only at b7
    obtain ⟨h8,b7⟩|⟨h8,b7⟩:=af b7
    ·obtain ⟨r04,g9,b7⟩:=ae b7
     simp(config:=cS)only[go_sem,eqT h8]
     refine ag (ob g9) ?_
     obtain ⟨h10,b7⟩|⟨h10,b7⟩:=af b7
     ·obtain ⟨x05,g11,b7⟩:=ae b7
      obtain ⟨h12,h13,h14⟩:=ak g11
      obtain ⟨x06,g15,b7⟩:=ae b7
      obtain ⟨h16,h17,h18⟩:=ak g15
      cases b7
      simp(config:=cS)only[go_sem,eZt h10,h12,h13,h14,h16,h17,h18]
      refine au gb7 ?_
      simp(config:=cS)only[go_sem]
     ·cases b7
      simp(config:=cS)only[go_sem,eZf h10]
      refine au gb7 ?_
      simp(config:=cS)only[go_sem]
    ·cases b7
     obtain rfl:=(aj gb7).symm
     try dsimp only at h
     cases h
     simp(config:=cS)only[go_sem,eqF h8]
  ·cases h
   simp(config:=cS)only[go_sem,eZf h4]
 ·cases h
  simp(config:=cS)only[go_sem,eZf h2]
attribute [go_sem] Tryz.ntmps41 Tryz.results41
theorem rJ {t:GShow}{list:List GTake}{res:Bool}(h:dI t list=some res):al Tryz.prog 41 [.agg (GShow.encS t),.sl (ab GTake.enc list)] [] (.lit (.bool res)) []:=by
 refine ai (ra:=[]) (md:=mdT) hT (hi:=hi00) Tryz.func41 rfl rfl (by decide +kernel) (by simp) ?_
 unfold dI at h
 obtain ⟨r01,g1,h⟩:=ae h
 simp(config:=cS)only[go_sem]
 refine ag (lT g1) ?_
 cases h
 simp(config:=cS)only[go_sem]
def jB (f:List GNode)(a:Nat)(b:List AV)(c:List GNode)(d e:Int):St:=⟨[(1,.sl (ab GNode.encS f)),(2,.fn a b),(15,.sl (ab GNode.encS c)),(16,.lit (.int .i64 d)),(17,.lit (.int .i64 e))],[],2⟩
attribute [go_sem] jB
attribute [go_sem] Tryz.ntmps104 Tryz.results104
theorem rK {v0 v1:List GNode}{v2:GNode→GNode→Option Bool}{f_v2:Nat}{k_v2:List AV}(hp_v2:∀ y0 y1 r,v2 y0 y1=some r→al Tryz.prog f_v2 ([.agg (GNode.encS y0),.agg (GNode.encS y1)]++k_v2) [] (.lit (.bool r)) [])(hc_v2:KC k_v2)(hm_v2:∀ a,mdT f_v2 a=⟨[],false⟩)(hk_v2:spf f_v2=false){res:Bool}(h:dF v0 v1 v2=some res):al Tryz.prog 104 [.sl (ab GNode.encS v0),.sl (ab GNode.encS v1),.fn f_v2 k_v2] [] (.lit (.bool res)) []:=by
 refine ai (ra:=[]) (md:=mdT) hT (hi:=hi00) Tryz.func104 rfl rfl (by decide +kernel) (by simp) ?_
 unfold dF at h
 obtain ⟨h1,h⟩|⟨h1,h⟩:=af h
 ·obtain ⟨q04,l2,h⟩:=ae h
  simp(config:=cS)only[go_sem,hc_v2.1,hc_v2.2,hm_v2,hk_v2,eqT h1]
  refine ar (m1:=.mk) (m2:=.mk) [.nf [1,2,15,16,17] []] (jB v1 f_v2 k_v2 v0 ((v0.length:Nat):Int)) l2 ?_ ?_
  ·simp(config:=cS)only[go_sem,hc_v2.1,hc_v2.2,hm_v2,hk_v2,eqT h1]
  ·intro nb3 v17_1 bb3 b3 gb3
   unfold cd at b3
   try dsimp only at b3
   obtain ⟨h4,b3⟩|⟨h4,b3⟩:=af b3
   ·obtain ⟨x01,g5,b3⟩:=ae b3
    obtain ⟨h6,h7,h8⟩:=ak g5
    obtain ⟨x02,g9,b3⟩:=ae b3
    obtain ⟨h10,h11,h12⟩:=ak g9
    obtain ⟨r03,g13,b3⟩:=ae b3
    simp(config:=cS)only[go_sem,hc_v2.1,hc_v2.2,hm_v2,hk_v2,eqT h1,eqT h4,h6,h7,h8,h10,h11,h12]
    refine ag (hp_v2 _ _ _ g13) ?_
    obtain ⟨h14,b3⟩|⟨h14,b3⟩:=af b3
    ·cases b3
     simp(config:=cS)only[go_sem,hc_v2.1,hc_v2.2,hm_v2,hk_v2,eqT h1,eqT h4,h6,h7,h8,h10,h11,h12,eZt h14]
     refine au gb3 ?_
     simp(config:=cS)only[go_sem,hc_v2.1,hc_v2.2,hm_v2,hk_v2,eqT h1,eqT h4,h6,h7,h8,h10,h11,h12,eZt h14]
    ·cases b3
     obtain rfl:=(aj gb3).symm
     try dsimp only at h
     cases h
     simp(config:=cS)only[go_sem,hc_v2.1,hc_v2.2,hm_v2,hk_v2,eqT h1,eqT h4,h6,h7,h8,h10,h11,h12,eZf h14]
   ·cases b3
    obtain rfl:=(aj gb3).symm
    try dsimp only at h
    cases h
    simp(config:=cS)only[go_sem,hc_v2.1,hc_v2.2,hm_v2,hk_v2,eqT h1,eqF h4]
 ·cases h
  simp(config:=cS)only[go_sem,hc_v2.1,hc_v2.2,hm_v2,hk_v2,eqF h1]
attribute [go_sem] Tryz.ntmps105 Tryz.results105
theorem zM {a b:GNode}{res:Bool}(h:eb a b=some res):al Tryz.prog 105 [.agg (GNode.encS a),.agg (GNode.encS b)] [] (.lit (.bool res)) []:=by
 refine ai (ra:=[]) (md:=mdT) hT (hi:=hi00) Tryz.func105 rfl rfl (by decide +kernel) (by simp) ?_
 unfold eb at h
 obtain ⟨h1,h⟩|⟨h1,h⟩:=af h
 ·obtain ⟨r01,g2,h⟩:=ae h
  simp(config:=cS)only[go_sem,eqT h1]
  refine ag (ek g2) ?_
  obtain ⟨h3,h⟩|⟨h3,h⟩:=af h
  ·cases h
   simp(config:=cS)only[go_sem,eZt h3]
  ·cases h
   simp(config:=cS)only[go_sem,eZf h3]
 ·cases h
  simp(config:=cS)only[go_sem,eqF h1]
def lC (c d:List GTie)(a b:Int):St:=⟨[(0,.sl (ab GTie.enc c)),(1,.sl (ab GTie.enc d)),(12,.lit (.int .i64 a)),(13,.lit (.int .i64 b))],[],2⟩
attribute [go_sem] lC
@[go_sem] def hi106_6:DT:=.i2 0 (.i2 1 (.i2 2 (.i2 3 (.i2 4 (.i2 5 (.i2 6 (.i2 7 (.i2 8 .nil))))))))
def Gn:Hint where
 acts:=fun _=>[]
 draws:=fun
  | 6=>⟨hi106_6,[[],[],[0,1],[0,1,2],[],[],[4,5],[4,5,6],.range 8],.range 9⟩
  | _=>⟨.nil,[],[]⟩
theorem RX (i:Nat):Gn.acts i=[]:=rfl
theorem RY (i:Nat):Gn.views i=none:=rfl
attribute [go_sem] RX RY Tryz.ntmps106 Tryz.results106
@[go_sem] theorem Xi:(Gn.draws 6).order=hi106_6:=rfl
theorem vU {v0 v1:List GTie}{res:Bool}(h:gI v0 v1=some res):al Tryz.prog 106 [.sl (ab GTie.enc v0),.sl (ab GTie.enc v1)] [] (.lit (.bool res)) []:=by
 refine ai (ra:=[]) (md:=mdT) hT (hi:=Gn) Tryz.func106 rfl rfl (by decide +kernel) (by simp) ?_
 unfold gI at h
 obtain ⟨h1,h⟩|⟨h1,h⟩:=af h
 ·obtain ⟨q03,l2,h⟩:=ae h
  simp(config:=cS)only[go_sem,eqT h1]
  refine ar (m1:=.mk) (m2:=.mk) [.nf [0,1,12,13] []] (lC v0 v1 ((v0.length:Nat):Int)) l2 ?_ ?_
  ·simp(config:=cS)only[go_sem]
  ·intro nb3 v13_1 bb3 b3 gb3
   unfold db at b3
   try dsimp only at b3
   obtain ⟨h4,b3⟩|⟨h4,b3⟩:=af b3
   ·obtain ⟨x01,g5,b3⟩:=ae b3
    obtain ⟨h6,h7,h8⟩:=ak g5
    obtain ⟨x02,g9,b3⟩:=ae b3
    obtain ⟨h10,h11,h12⟩:=ak g9
    obtain ⟨h13,b3⟩|⟨h13,b3⟩:=af b3
    ·cases b3
     simp(config:=cS)only[go_sem,eqT h4,h6,h7,h8,h10,h11,h12,eZt h13]
     refine au gb3 ?_
     simp(config:=cS)only[go_sem]
    ·cases b3
     obtain rfl:=(aj gb3).symm
     try dsimp only at h
     cases h
     simp(config:=cS)only[go_sem,eqT h4,h6,h7,h8,h10,h11,h12,eZf h13]
   ·cases b3
    obtain rfl:=(aj gb3).symm
    try dsimp only at h
    cases h
    simp(config:=cS)only[go_sem,eqF h4]
 ·cases h
  simp(config:=cS)only[go_sem,eqF h1]
attribute [go_sem] Tryz.ntmps42 Tryz.results42
theorem zN {a b:GShow}{res:Bool}(h:iK a b=some res):al Tryz.prog 42 [.agg (GShow.encS a),.agg (GShow.encS b)] [] (.lit (.bool res)) []:=by
 refine ai (ra:=[]) (md:=mdT) hT (hi:=hi00) Tryz.func42 rfl rfl (by decide +kernel) (by simp) ?_
 unfold iK at h
 obtain ⟨r01,g1,h⟩:=ae h
 simp(config:=cS)only[go_sem]
 refine ag (rK (by exact fun _ _ _ hr=>zM hr) (by refine ⟨fun _=>?_,fun _=>?_⟩ <;> simp only [go_sem]) (fun _=>rfl) rfl g1) ?_
 obtain ⟨h2,h⟩|⟨h2,h⟩:=af h
 ·obtain ⟨r02,g3,h⟩:=ae h
  simp(config:=cS)only[go_sem,eZt h2]
  refine ag (vU g3) ?_
  obtain ⟨h4,h⟩|⟨h4,h⟩:=af h
  ·cases h
   simp(config:=cS)only[go_sem,eZt h2,eZt h4]
  ·cases h
   simp(config:=cS)only[go_sem,eZt h2,eZf h4]
 ·cases h
  simp(config:=cS)only[go_sem,eZf h2]
def kO (a:List GTie)(c:Int)(d:List GNode)(e:Int)(f:List GNode)(g:List GTie)(h:Int):(Int × (List ByteArray))→St
 | (i,b)=>⟨[(2,.ptr 128 1 0 0),(3,.ptr 192 1 0 0),(5,.ref 383 1 0 b.length),(36,.sl (ab GTie.enc a)),(37,.lit (.int .i64 c)),(38,.lit (.int .i64 i))],[(128,1,.var [.sl (ab GNode.encS d),.sl (ab GTie.enc a),.lit (.int .i64 e)]),(192,1,.var [.sl (ab GNode.encS f),.sl (ab GTie.enc g),.lit (.int .i64 h)]),(383,1,.row true (ab eS b))],2⟩
attribute [go_sem] kO
@[go_sem] def hi44_9:DT:=.i2 0 (.i1 1 (.i1 2 (.i1 3 (.i1 4 (.i1 5 (.i1 6 (.i1 7 (.i1 8 (.i1 9 (.i1 10 (.i1 11 (.i1 12 (.i1 13 (.i1 14 (.i2 15 (.i2 16 (.i1 18 (.i1 19 (.i0 17 [1,2,3,4,5,6,7,8,9,10,11,12,13,14,18,19] (.i0 20 [1,2,3,4,5,6,7,8,9,10,11,12,13,14] (.i2 21 (.i2 22 (.i2 23 (.i2 24 (.i2 25 .nil)))))))))))))))))))))))))
def hi44:Hint where
 acts:=fun _=>[]
 draws:=fun
  | 9=>⟨hi44_9,[[],[],[1],[],[3],[1,2,3,4],[1,2,3,4,5],[1,2,3,4,5,6],[],[8],[],[10],[8,9,10,11],[8,9,10,11,12],[8,9,10,11,12,13],[],[15],[15,16],[],[18],[15,16,17,18,19],[1,2,3,4,5,6,7,8,9,10,11,12,13,14,15,16,17,18,19,20],[1,2,3,4,5,6,7,8,9,10,11,12,13,14,15,16,17,18,19,20,21],[1,2,3,4,5,6,7,8,9,10,11,12,13,14,15,16,17,18,19,20,21,22],.range 24,.range 25],.range 26⟩
  | _=>⟨.nil,[],[]⟩
theorem UR (i:Nat):hi44.acts i=[]:=rfl
theorem US (i:Nat):hi44.views i=none:=rfl
attribute [go_sem] UR US Tryz.ntmps44 Tryz.results44
@[go_sem] theorem Yp:(hi44.draws 9).order=hi44_9:=rfl
theorem tX {s t:GShow}{res:List ByteArray}(h:ff s t=some res):al Tryz.prog 44 [.agg (GShow.encS s),.agg (GShow.encS t)] [] (.ref 20000 1 0 res.length) [(20000,1,.row true (ab eS res))]:=by
 refine ai (ra:=[.home 4]) (md:=mdT) hT (hi:=hi44) Tryz.func44 rfl rfl (by decide +kernel) (by simp) ?_
 unfold ff at h
 obtain ⟨r01,g1,h⟩:=ae h
 simp(config:=cS)only[go_sem]
 refine ag (gR g1) ?_
 obtain ⟨h2,h⟩|⟨h2,h⟩:=af h
 ·obtain ⟨r02,g3,h⟩:=ae h
  simp(config:=cS)only[go_sem,eZt h2]
  refine ag (gR g3) ?_
  obtain ⟨h4,h⟩|⟨h4,h⟩:=af h
  ·obtain ⟨h5,h⟩|⟨h5,h⟩:=af h
   ·obtain ⟨h6,h⟩|⟨h6,h⟩:=af h
    ·obtain ⟨q15,l7,h⟩:=ae h
     simp(config:=cS)only[go_sem,eZt h4,eqT h5,eqT h6]
     refine ar (m1:=.mk) (m2:=.mk) [.home 5,.nf [2,3,5,36,37,38] [128,192,383]] (kO s.ties ((s.ties.length:Nat):Int) s.nodes s.horizon t.nodes t.ties t.horizon) l7 ?_ ?_
     ·simp(config:=cS)only[go_sem]
     ·intro nb8 sb8 bb8 b8 gb8
      obtain ⟨v38_1,out_1⟩:=sb8
      unfold dJ at b8
      try dsimp only at b8
      obtain ⟨h9,b8⟩|⟨h9,b8⟩:=af b8
      ·obtain ⟨x03,g10,b8⟩:=ae b8
       obtain ⟨h11,h12,h13⟩:=ak g10
       obtain ⟨x04,g14,b8⟩:=ae b8
       obtain ⟨h15,h16,h17⟩:=ak g14
       obtain ⟨h18,b8⟩|⟨h18,b8⟩:=af b8
       ·obtain ⟨h19,b8⟩|⟨h19,b8⟩:=af b8
        ·obtain ⟨h20,b8⟩|⟨h20,b8⟩:=af b8
         ·cases b8
          simp(config:=cS)only[go_sem,eqT h9,h11,h12,h13,h15,h16,h17,eZt h18,eqT h19,eqT h20]
          refine au gb8 ?_
          simp(config:=cS)only[go_sem]
         ·obtain ⟨x05,g21,b8⟩:=ae b8
          obtain ⟨h22,h23,h24⟩:=ak g21
          obtain ⟨x06,g25,b8⟩:=ae b8
          obtain ⟨h26,h27,h28⟩:=ak g25
          obtain ⟨r07,g29,b8⟩:=ae b8
          simp(config:=cS)only[go_sem,eqT h9,h11,h12,h13,h15,h16,h17,eZt h18,eqT h19,eqF h20,h22,h23,h24,h26,h27,h28]
          refine ag (kF g29) ?_
          obtain ⟨r08,g30,b8⟩:=ae b8
          simp(config:=cS)only[go_sem]
          refine ag (kF g30) ?_
          obtain ⟨r09,g31,b8⟩:=ae b8
          simp(config:=cS)only[go_sem]
          refine ag (zo g31) ?_
          obtain ⟨h32,b8⟩:=am b8
          obtain ⟨h33,b8⟩:=am b8
          cases b8
          simp(config:=cS)only[go_sem,eqT h32,eqT h33]
          refine au gb8 ?_
          simp(config:=cS)only[go_sem]
        ·obtain ⟨x10,g34,b8⟩:=ae b8
         obtain ⟨h35,h36,h37⟩:=ak g34
         obtain ⟨x11,g38,b8⟩:=ae b8
         obtain ⟨h39,h40,h41⟩:=ak g38
         obtain ⟨r12,g42,b8⟩:=ae b8
         simp(config:=cS)only[go_sem,eqT h9,h11,h12,h13,h15,h16,h17,eZt h18,eqF h19,h35,h36,h37,h39,h40,h41]
         refine ag (kF g42) ?_
         obtain ⟨r13,g43,b8⟩:=ae b8
         simp(config:=cS)only[go_sem]
         refine ag (kF g43) ?_
         obtain ⟨r14,g44,b8⟩:=ae b8
         simp(config:=cS)only[go_sem]
         refine ag (zo g44) ?_
         obtain ⟨h45,b8⟩:=am b8
         obtain ⟨h46,b8⟩:=am b8
         cases b8
         simp(config:=cS)only[go_sem,eqT h45,eqT h46]
         refine au gb8 ?_
         simp(config:=cS)only[go_sem]
       ·cases b8
        simp(config:=cS)only[go_sem,eqT h9,h11,h12,h13,h15,h16,h17,eZf h18]
        refine au gb8 ?_
        simp(config:=cS)only[go_sem]
      ·cases b8
       obtain rfl:=(aj gb8).symm
       try dsimp only at h
       cases h
       simp(config:=cS)only[go_sem,eqF h9]
    ·cases h
     simp(config:=cS)only[go_sem,eZt h4,eqT h5,eqF h6]
   ·cases h
    simp(config:=cS)only[go_sem,eZt h4,eqF h5]
  ·cases h
   simp(config:=cS)only[go_sem,eZf h4]
 ·cases h
  simp(config:=cS)only[go_sem,eZf h2]
@[go_sem] def hi34_1:DT:=.i2 0 (.i2 1 (.i2 2 (.i2 3 (.i2 4 (.i1 6 (.i0 5 [6] (.i2 7 (.i2 8 (.i2 9 .nil)))))))))
def hi34:Hint where
 acts:=fun _=>[]
 draws:=fun
  | 1=>⟨hi34_1,[[],[],[0,1],[0,1,2],[0,1,2,3],.range 5,[0,1,2,3],.range 7,.range 8,.range 9],.range 10⟩
  | _=>⟨.nil,[],[]⟩
theorem UT (i:Nat):hi34.acts i=[]:=rfl
theorem UU (i:Nat):hi34.views i=none:=rfl
attribute [go_sem] UT UU Tryz.ntmps34 Tryz.results34
@[go_sem] theorem Yq:(hi34.draws 1).order=hi34_1:=rfl
theorem Fs {s:GShow}{v1:GState}{res:Bool}(h:kZ s v1=some res):al Tryz.prog 34 [.agg (GShow.encS s),.agg (GState.encS v1)] [] (.lit (.bool res)) []:=by
 refine ai (ra:=[]) (md:=mdT) hT (hi:=hi34) Tryz.func34 rfl rfl (by decide +kernel) (by simp) ?_
 unfold kZ at h
 obtain ⟨r01,g1,h⟩:=ae h
 simp(config:=cS)only[go_sem]
 refine ag (lV g1) ?_
 obtain ⟨h2,h⟩|⟨h2,h⟩:=af h
 ·obtain ⟨r02,g3,h⟩:=ae h
  simp(config:=cS)only[go_sem,eZt h2]
  refine ag (pw g3) ?_
  obtain ⟨r03,g4,h⟩:=ae h
  simp(config:=cS)only[go_sem,eZt h2]
  refine ag (mZ g4) ?_
  cases h
  simp(config:=cS)only[go_sem,eZt h2]
 ·cases h
  simp(config:=cS)only[go_sem,eZf h2]
@[go_sem] def hi32_1:DT:=.i1 0 (.i2 1 (.i0 2 [0] (.i2 3 (.i2 4 .nil))))
def hi32:Hint where
 acts:=fun _=>[]
 draws:=fun
  | 1=>⟨hi32_1,[[],[],[1],[0,1,2],[0,1,2,3]],.range 5⟩
  | _=>⟨.nil,[],[]⟩
theorem UV (i:Nat):hi32.acts i=[]:=rfl
theorem UW (i:Nat):hi32.views i=none:=rfl
attribute [go_sem] UV UW Tryz.ntmps32 Tryz.results32
@[go_sem] theorem Yr:(hi32.draws 1).order=hi32_1:=rfl
theorem rc {s:GShow}{res:Bool}(h:gk s=some res):al Tryz.prog 32 [.agg (GShow.encS s)] [] (.lit (.bool res)) []:=by
 refine ai (ra:=[]) (md:=mdT) hT (hi:=hi32) Tryz.func32 rfl rfl (by decide +kernel) (by simp) ?_
 unfold gk at h
 obtain ⟨r01,g1,h⟩:=ae h
 simp(config:=cS)only[go_sem]
 refine ag (ms g1) ?_
 obtain ⟨r02,g2,h⟩:=ae h
 simp(config:=cS)only[go_sem]
 refine ag (Fs g2) ?_
 cases h
 simp(config:=cS)only[go_sem]
def lD (f g h:Int)(a:List GNode)(b:List GTie)(e:List GTake)(c:List GNode)(d:List GTie)(i:Int):St:=⟨[(3,.ptr 192 1 0 0),(7,.ref 2432 1 0 e.length),(8,.ptr 512 1 0 0),(86,.ref 2432 1 0 e.length),(87,.lit (.int .i64 f)),(88,.lit (.int .i64 i))],[(192,1,.var [.ref 1280 1 0 a.length,.ref 1281 1 0 b.length,.lit (.int .i64 g)]),(1280,1,.row true (ab GNode.encO a)),(1281,1,.row true (ab GTie.enc b)),(2432,1,.row true (ab GTake.enc e)),(512,1,.var [.ref 2688 1 0 c.length,.ref 2689 1 0 d.length,.lit (.int .i64 h)]),(2688,1,.row true (ab GNode.encO c)),(2689,1,.row true (ab GTie.enc d))],2⟩
attribute [go_sem] lD
@[go_sem] def hi7_20:DT:=.i2 0 (.i2 1 (.i2 2 (.i2 3 (.i2 4 (.i2 5 (.i2 6 (.i2 7 (.i2 8 (.i2 9 (.i2 10 (.i2 11 (.i2 12 (.i2 13 (.i2 14 (.i2 15 (.i2 16 (.i2 17 (.i2 18 (.i2 19 (.i2 20 (.i2 21 (.i2 22 (.i2 23 (.i2 24 (.i2 25 (.i2 26 (.i2 27 (.i2 28 (.i2 29 (.i2 30 (.i2 31 (.i2 32 .nil))))))))))))))))))))))))))))))))
def hi7:Hint where
 acts:=fun _=>[]
 draws:=fun
  | 20=>⟨hi7_20,[[],[0],[0,1],[0,1,2],[0,1,2,3],[0,1,2],[0,1,2,5],.range 7,.range 8,.range 9,.range 10,.range 11,.range 10,[0,1,2,3,4,5,6,7,8,9,12],.range 14,.range 15,.range 16,.range 10,[0,1,2,3,4,5,6,7,8,9,17],.range 19,.range 20,.range 21,.range 22,.range 23,.range 22,[0,1,2,3,4,5,6,7,8,9,10,11,12,13,14,15,16,17,18,19,20,21,24],.range 26,.range 27,.range 28,.range 22,[0,1,2,3,4,5,6,7,8,9,10,11,12,13,14,15,16,17,18,19,20,21,29],.range 31,.range 32],.range 33⟩
  | _=>⟨.nil,[],[]⟩
theorem hi7a (i:Nat):hi7.acts i=[]:=rfl
theorem hi7v (i:Nat):hi7.views i=none:=rfl
attribute [go_sem] hi7a hi7v Tryz.ntmps7 Tryz.results7
@[go_sem] theorem Ys:(hi7.draws 20).order=hi7_20:=rfl
theorem vV {code:List Int}{res:Bool}(h:jt code=some res):al Tryz.prog 7 [.sl (ab (eK .u8) code)] [] (.lit (.bool res)) []:=by
 refine ai (ra:=[]) (md:=mdT) hT (hi:=hi7) Tryz.func7 rfl rfl (by decide +kernel) (by simp) ?_
 unfold jt at h
 obtain ⟨h1,h⟩|⟨h1,h⟩:=af h
 ·cases h
  simp(config:=cS)only[go_sem,eqT h1]
 ·obtain ⟨r01,g2,h⟩:=ae h
  simp(config:=cS)only[go_sem,eqF h1]
  refine ag (BP g2) ?_
  obtain ⟨r02,g3,h⟩:=ae h
  simp(config:=cS)only[go_sem]
  refine ag (Dx g3) ?_
  obtain ⟨r03,g4,h⟩:=ae h
  simp(config:=cS)only[go_sem]
  refine ag (xP g4) ?_
  obtain ⟨r04,g5,h⟩:=ae h
  simp(config:=cS)only[go_sem]
  refine ag (DD g5) ?_
  obtain ⟨r05,g6,h⟩:=ae h
  simp(config:=cS)only[go_sem]
  refine ag (Dt g6) ?_
  obtain ⟨r06,g7,h⟩:=ae h
  simp(config:=cS)only[go_sem]
  refine ag (pT g7) ?_
  obtain ⟨r07,g8,h⟩:=ae h
  simp(config:=cS)only[go_sem]
  refine ag (pT g8) ?_
  obtain ⟨h9,h⟩|⟨h9,h⟩:=af h
  ·obtain ⟨h10,h⟩|⟨h10,h⟩:=af h
   ·obtain ⟨h11,h⟩|⟨h11,h⟩:=af h
    ·obtain ⟨r08,g12,h⟩:=ae h
     simp(config:=cS)only[go_sem,eZt h9,eZt h10,eZt h11]
     refine ag (lT g12) ?_
     obtain ⟨h13,h⟩|⟨h13,h⟩:=af h
     ·obtain ⟨r09,g14,h⟩:=ae h
      simp(config:=cS)only[go_sem,eZt h13]
      refine ag (rJ g14) ?_
      obtain ⟨h15,h⟩|⟨h15,h⟩:=af h
      ·obtain ⟨r10,g16,h⟩:=ae h
       simp(config:=cS)only[go_sem,eZt h15]
       refine ag (zN g16) ?_
       obtain ⟨h17,h⟩|⟨h17,h⟩:=af h
       ·obtain ⟨h18,h⟩|⟨h18,h⟩:=af h
        ·obtain ⟨q17,l19,h⟩:=ae h
         simp(config:=cS)only[go_sem,eZt h17,eqT h18]
         refine ar (m1:=.mk) (m2:=.mk) [.nf [3,7,8,86,87,88] [192,1280,1281,2432,512,2688,2689]] (lD ((r05.length:Nat):Int) r01.horizon r06.1.horizon r01.nodes r01.ties r05 r06.1.nodes r06.1.ties) l19 ?_ ?_
         ·simp(config:=cS)only[go_sem]
         ·intro nb20 v88_1 bb20 b20 gb20
          unfold eP at b20
          try dsimp only at b20
          obtain ⟨h21,b20⟩|⟨h21,b20⟩:=af b20
          ·obtain ⟨x11,g22,b20⟩:=ae b20
           obtain ⟨h23,h24,h25⟩:=ak g22
           obtain ⟨h26,b20⟩|⟨h26,b20⟩:=af b20
           ·cases b20
            obtain rfl:=(aj gb20).symm
            try dsimp only at h
            cases h
            simp(config:=cS)only[go_sem,eqT h21,h23,h24,h25,eqT h26]
           ·obtain ⟨h28,b20⟩|⟨h28,b20⟩:=af b20
            ·cases b20
             obtain rfl:=(aj gb20).symm
             try dsimp only at h
             cases h
             simp(config:=cS)only[go_sem,eqT h21,h23,h24,h25,eqF h26,eqT h28]
            ·obtain ⟨r12,g30,b20⟩:=ae b20
             simp(config:=cS)only[go_sem,eqT h21,h23,h24,h25,eqF h26,eqF h28]
             refine ag (ob g30) ?_
             obtain ⟨h31,b20⟩|⟨h31,b20⟩:=af b20
             ·obtain ⟨h32,b20⟩|⟨h32,b20⟩:=af b20
              ·obtain ⟨x13,g33,b20⟩:=ae b20
               obtain ⟨h34,h35,h36⟩:=ak g33
               obtain ⟨h37,b20⟩|⟨h37,b20⟩:=af b20
               ·obtain ⟨h38,b20⟩|⟨h38,b20⟩:=af b20
                ·cases b20
                 simp(config:=cS)only[go_sem,eZt h31,eqT h32,h34,h35,h36,eqT h37,eqT h38]
                 refine au gb20 ?_
                 simp(config:=cS)only[go_sem]
                ·cases b20
                 obtain rfl:=(aj gb20).symm
                 try dsimp only at h
                 cases h
                 simp(config:=cS)only[go_sem,eZt h31,eqT h32,h34,h35,h36,eqT h37,eqF h38]
               ·cases b20
                obtain rfl:=(aj gb20).symm
                try dsimp only at h
                cases h
                simp(config:=cS)only[go_sem,eZt h31,eqT h32,h34,h35,h36,eqF h37]
              ·cases b20
               obtain rfl:=(aj gb20).symm
               try dsimp only at h
               cases h
               simp(config:=cS)only[go_sem,eZt h31,eqF h32]
             ·cases b20
              obtain rfl:=(aj gb20).symm
              try dsimp only at h
              cases h
              simp(config:=cS)only[go_sem,eZf h31]
          ·cases b20
           obtain rfl:=(aj gb20).symm
           try dsimp only at h
           obtain ⟨r14,g44,h⟩:=ae h
           simp(config:=cS)only[go_sem,eqF h21]
           refine ag (tX g44) ?_
           obtain ⟨h45,h⟩|⟨h45,h⟩:=af h
           ·obtain ⟨r15,g46,h⟩:=ae h
            simp(config:=cS)only[go_sem,eqT h45]
            refine ag (rc g46) ?_
            obtain ⟨h47,h⟩|⟨h47,h⟩:=af h
            ·obtain ⟨r16,g48,h⟩:=ae h
             simp(config:=cS)only[go_sem,eZt h47]
             refine ag (rc g48) ?_
             cases h
             simp(config:=cS)only[go_sem]
            ·cases h
             simp(config:=cS)only[go_sem,eZf h47]
           ·cases h
            simp(config:=cS)only[go_sem,eqF h45]
        ·cases h
         simp(config:=cS)only[go_sem,eZt h17,eqF h18]
       ·cases h
        simp(config:=cS)only[go_sem,eZf h17]
      ·cases h
       simp(config:=cS)only[go_sem,eZf h15]
     ·cases h
      simp(config:=cS)only[go_sem,eZf h13]
    ·cases h
     simp(config:=cS)only[go_sem,eZt h9,eZt h10,eZf h11]
   ·cases h
    simp(config:=cS)only[go_sem,eZt h9,eZf h10]
  ·cases h
   simp(config:=cS)only[go_sem,eZf h9]
end Go.Proofs.Qd
