/- Functions. -/
import Derived.Test.YtpodkllkinpfmaaGreatDoorXgFK0
set_option linter.all false
set_option maxRecDepth 100000
set_option maxHeartbeats 4000000
namespace Go.Proofs.Qg
open Go Tryz
def gx (c:Int)(d:List GEdge)(f g:Int):(Bool × Int × (List Int) × (List Bool))→St
 | (b,h,e,a)=>⟨[(2,.ptr 128 1 0 0),(6,.ref 1664 1 0 e.length),(7,.ref 1856 1 0 a.length),(8,.lit (.int .i64 c)),(9,.lit (.bool b)),(36,.sl (ab GEdge.enc d)),(37,.lit (.int .i64 f)),(38,.lit (.int .i64 h))],[(128,1,.var [.lit (.int .i64 g),.sl (ab GEdge.enc d)]),(1664,1,.row true (ab eI e)),(1856,1,.row true (ab eB a))],2⟩
attribute[go_sem] gx
def gy (d:Int)(e:List GEdge):(Int × (List Int) × (List Bool))→St
 | (b,c,a)=>⟨[(2,.ptr 128 1 0 0),(6,.ref 1664 1 0 c.length),(7,.ref 1856 1 0 a.length),(8,.lit (.int .i64 b))],[(128,1,.var [.lit (.int .i64 d),.sl (ab GEdge.enc e)]),(1664,1,.row true (ab eI c)),(1856,1,.row true (ab eB a))],2⟩
attribute[go_sem] gy
def gz (c:Int)(a:List Bool):(Int × (List Int))→St
 | (d,b)=>⟨[(6,.ref 1664 1 0 b.length),(7,.ref 1856 1 0 a.length),(89,.lit (.int .i64 c)),(90,.lit (.int .i64 d))],[(1664,1,.row true (ab eI b)),(1856,1,.row true (ab eB a))],2⟩
attribute[go_sem] gz
@[go_sem] def hi259_13:DT:=.r2 0 4 (.i1 4 (.i1 5 (.i2 6 (.i2 7 (.i0 8 [4,5] (.r2 9 3 .nil))))))
@[go_sem] def hi259_11:DT:=.r2 0 9 .nil
@[go_sem] def hi259_3:DT:=.i1 0 (.i1 1 (.i1 3 (.i1 4 (.fork (.i0 2 [3,4] (.i2 6 (.i0 5 [0,1] (.i2 7 .nil)))) (.i0 5 [0,1] (.i0 2 [3,4] (.i2 6 (.i2 7 .nil))))))))
def sS:Hint where
 acts:=fun _=>[]
 draws:=fun
  | 3=>⟨hi259_3,[[],[0],[0,1],[],[3],[3,4],[0,1,2],.range 7],.range 8⟩
  | 11=>⟨hi259_11,[[],[],[1],[0,1,2],[0,1,2,3],[],[5],.range 7,.range 8],.range 9⟩
  | 13=>⟨hi259_13,[[],[],[1],[],[],[4],[],[0,1,2,6],[0,1,2,6,7],.range 9,.range 10,.range 11],[0,1,2,6,7,8,3,4,5,9,10,11]⟩
  | _=>⟨.nil,[],[]⟩
theorem LE (i:Nat):sS.acts i=[]:=rfl
theorem LF (i:Nat):sS.views i=none:=rfl
attribute[go_sem] LE LF ntmps259 results259
@[go_sem] theorem OR:(sS.draws 3).order=hi259_3:=rfl
@[go_sem] theorem Ok:(sS.draws 11).order=hi259_11:=rfl
@[go_sem] theorem Ol:(sS.draws 13).order=hi259_13:=rfl
instance k259 {g:GGraph} {source:Int}:Ctr (bN g source) (fun (res:(List Int) × Bool)=>aj prog 259 [.agg [.lit (.int .i64 g.nodes),.sl (ab GEdge.enc g.edges)],.lit (.int .i64 source)] [] (.tup [.ref 20000 1 0 res.1.length,.lit (.bool res.2)]) [(20000,1,.row true (ab eI res.1))]):=⟨by
 intro res h0
 refine bd (ra:=[.home 4]) (md:=mdT) hT (hi:=sS) func259 rfl rfl (by decide +kernel) (by simp) ?_
 unfold bN at h0
 obtain⟨r01,g0,h0⟩:=ae h0
 simp(config:=cS)only[go_sem, *]
 have g0:=ctr g0
 refine am g0 ?_
 obtain⟨_,h0⟩|⟨_,h0⟩:=itB h0
 ·obtain⟨r02,g0,h0⟩:=ae h0
  simp(config:=cS)only[go_sem, *]
  have g0:=ctr g0
  refine am g0 ?_
  obtain⟨_,h0⟩|⟨_,h0⟩:=itB h0
  ·obtain⟨_,h0⟩:=ckP h0
   obtain⟨_,h0⟩:=ckP h0
   obtain⟨_,h0⟩:=ckP h0
   obtain⟨_,h0⟩:=ckP h0
   try simp(config:=cS)only[go_sem, *]
   refine pC ?_ ?_
   ·obtain⟨x03,_,_,_,h0⟩:=gtI h0
    obtain⟨q16,l0,h0⟩:=ae h0
    simp(config:=cS)only[go_sem, *]
    refine ah (m1:=.mk) (m2:=.mk) [.nf [2,6,7,8] [128,1664,1856]] (gy g.nodes g.edges) l0 ?_ ?_
    ·simp(config:=cS)only[go_sem, *]
    ·have k0:=h0
     clear h0 l0
     intro _ s0 _ h0 gb0
     obtain⟨round_1,out_1,known_1⟩:=s0
     unfold aO at h0
     try dsimp only at h0
     obtain⟨q15,l0,h0⟩:=ae h0
     simp(config:=cS)only[go_sem, *]
     refine ah (m1:=.mk) (m2:=.mk) [.nf [2,6,7,8,9,36,37,38] [128,1664,1856]] (gx round_1 g.edges ((g.edges.length:Nat):Int) g.nodes) l0 ?_ ?_
     ·simp(config:=cS)only[go_sem, *]
     ·have k0:=h0
      clear h0 l0
      intro _ s0 _ h0 gb0
      obtain⟨changed_2,v38_2,out_2,known_2⟩:=s0
      unfold bI at h0
      try dsimp only at h0
      obtain⟨_,h0⟩|⟨_,h0⟩:=itP h0
      ·exact run
      ·cases h0
       obtain rfl:=(aP gb0).symm
       clear gb0
       have h0:=k0
       clear k0
       try dsimp only at h0
       obtain⟨_,h0⟩|⟨_,h0⟩:=itB h0
       ·exact run
       ·cases h0
        obtain rfl:=(aP gb0).symm
        clear gb0
        have h0:=k0
        clear k0
        try dsimp only at h0
        obtain⟨q14,l0,h0⟩:=ae h0
        simp(config:=cS)only[go_sem, *]
        refine ah (m1:=.mk) (m2:=.mk) [.nf [6,7,89,90] [1664,1856]] (gz ((out_2.length:Nat):Int) known_2) l0 ?_ ?_
        ·simp(config:=cS)only[go_sem, *]
        ·have k0:=h0
         clear h0 l0
         intro _ s0 _ h0 gb0
         obtain⟨v90_3,out_3⟩:=s0
         unfold bA at h0
         try dsimp only at h0
         exact run
   ·obtain⟨x17,_,_,_,h0⟩:=gtI h0
    obtain⟨q30,l0,h0⟩:=ae h0
    simp(config:=cS)only[go_sem, *]
    refine ah (m1:=.mk) (m2:=.mk) [.nf [2,6,7,8] [128,1664,1856]] (gy g.nodes g.edges) l0 ?_ ?_
    ·simp(config:=cS)only[go_sem, *]
    ·have k0:=h0
     clear h0 l0
     intro _ s0 _ h0 gb0
     obtain⟨round_4,out_4,known_4⟩:=s0
     unfold aO at h0
     try dsimp only at h0
     obtain⟨q29,l0,h0⟩:=ae h0
     simp(config:=cS)only[go_sem, *]
     refine ah (m1:=.mk) (m2:=.mk) [.nf [2,6,7,8,9,36,37,38] [128,1664,1856]] (gx round_4 g.edges ((g.edges.length:Nat):Int) g.nodes) l0 ?_ ?_
     ·simp(config:=cS)only[go_sem, *]
     ·have k0:=h0
      clear h0 l0
      intro _ s0 _ h0 gb0
      obtain⟨changed_5,v38_5,out_5,known_5⟩:=s0
      unfold bI at h0
      try dsimp only at h0
      obtain⟨_,h0⟩|⟨_,h0⟩:=itP h0
      ·exact run
      ·cases h0
       obtain rfl:=(aP gb0).symm
       clear gb0
       have h0:=k0
       clear k0
       try dsimp only at h0
       obtain⟨_,h0⟩|⟨_,h0⟩:=itB h0
       ·exact run
       ·cases h0
        obtain rfl:=(aP gb0).symm
        clear gb0
        have h0:=k0
        clear k0
        try dsimp only at h0
        obtain⟨q28,l0,h0⟩:=ae h0
        simp(config:=cS)only[go_sem, *]
        refine ah (m1:=.mk) (m2:=.mk) [.nf [6,7,89,90] [1664,1856]] (gz ((out_5.length:Nat):Int) known_5) l0 ?_ ?_
        ·simp(config:=cS)only[go_sem, *]
        ·have k0:=h0
         clear h0 l0
         intro _ s0 _ h0 gb0
         obtain⟨v90_6,out_6⟩:=s0
         unfold bA at h0
         try dsimp only at h0
         exact run
  ·exact run
 ·exact run⟩
attribute[go_sem] ntmps260 results260 ntmps264 results264 ntmps263 results263 ntmps70 results70 ntmps178 results178 ntmps179 results179 ntmps180 results180 ntmps16 results16 ntmps17 results17 ntmps78 results78 ntmps77 results77 ntmps76 results76 ntmps18 results18 ntmps19 results19 ntmps20 results20
instance k260 {n:Int}:Ctr (gm n) (fun (res:Int)=>aj prog 260 [.lit (.int .i64 n)] [] (.lit (.int .i64 res)) []):=⟨by
 intro res h0
 refine co (hi:=hi00) func260 rfl rfl ?_
 unfold gm at h0
 exact run⟩
def kE (i d b:Int)(e:List GEdge)(c:List Int):(Int × (List Int))→St
 | (f,a)=>⟨[(1,.ptr 64 1 0 0),(2,.ptr 128 1 0 0),(4,.ptr 256 1 0 0),(5,.lit (.int .i64 i)),(32,.ref 1664 1 0 c.length),(33,.lit (.int .i64 d)),(34,.lit (.int .i64 f))],[(64,1,.var [.lit (.int .i64 b),.sl (ab GEdge.enc e)]),(128,1,.var [.lit (.int .i64 0),.lit (.slice none 0 0)]),(256,1,.var [.lit (.int .i64 b),.ref 100016385 1 0 a.length]),(100016385,1,.row true (ab eI a)),(1664,1,.row true (ab eI c))],2⟩
attribute[go_sem] kE
def kF (b:Int)(c:List GEdge):(Int × (List Int))→St
 | (i,a)=>⟨[(1,.ptr 64 1 0 0),(2,.ptr 128 1 0 0),(4,.ptr 256 1 0 0),(5,.lit (.int .i64 i))],[(64,1,.var [.lit (.int .i64 b),.sl (ab GEdge.enc c)]),(128,1,.var [.lit (.int .i64 0),.lit (.slice none 0 0)]),(256,1,.var [.lit (.int .i64 b),.ref 100016385 1 0 a.length]),(100016385,1,.row true (ab eI a))],2⟩
attribute[go_sem] kF
@[go_sem] def hi174_13:DT:=.i1 0 (.i1 1 (.i2 2 (.i0 3 [0,1] (.i0 4 [0,1] (.r2 5 3 .nil)))))
def AS:Hint where
 acts:=fun _=>[]
 draws:=fun
  | 13=>⟨hi174_13,[[],[0],[],[2],[2,3],.range 5,.range 6,.range 7],.range 8⟩
  | _=>⟨.nil,[],[]⟩
theorem LG (i:Nat):AS.acts i=[]:=rfl
theorem LH (i:Nat):AS.views i=none:=rfl
attribute[go_sem] LG LH ntmps174 results174
@[go_sem] theorem Om:(AS.draws 13).order=hi174_13:=rfl
instance k174 {g:GGraph}:Ctr (gn g) (fun (res:ay × Bool)=>aj prog 174 [.agg [.lit (.int .i64 g.nodes),.sl (ab GEdge.enc g.edges)]] [] (.tup [.agg [.lit (.int .i64 res.1.size),.ref 20000 1 0 res.1.cells.length],.lit (.bool res.2)]) [(20000,1,.row true (ab eI res.1.cells))]):=⟨by
 intro res h0
 refine bd (ra:=[.homeCell 128 1]) (md:=mdT) hT (hi:=AS) func174 rfl rfl (by decide +kernel) (by simp) ?_
 unfold gn at h0
 obtain⟨r01,g0,h0⟩:=ae h0
 simp(config:=cS)only[go_sem, *]
 have g0:=ctr g0
 refine am g0 ?_
 obtain⟨_,h0⟩|⟨_,h0⟩:=itB h0
 ·obtain⟨q06,l0,h0⟩:=ae h0
  simp(config:=cS)only[go_sem, *]
  refine ah (m1:=.mk) (m2:=.mk) [.homeCell 256 1,.nf [1,2,4,5] [64,128,256,100016385]] (kF g.nodes g.edges) l0 ?_ ?_
  ·simp(config:=cS)only[go_sem, *]
  ·have k0:=h0
   clear h0 l0
   intro _ s0 _ h0 gb0
   obtain⟨i_1,h100016385_1⟩:=s0
   unfold gB at h0
   try dsimp only at h0
   obtain⟨_,h0⟩|⟨_,h0⟩:=itP h0
   ·obtain⟨r02,g0,h0⟩:=ae h0
    simp(config:=cS)only[go_sem, *]
    have g0:=ctr g0
    refine am g0 ?_
    obtain⟨_,h0⟩|⟨_,h0⟩:=itB h0
    ·obtain⟨q05,l0,h0⟩:=ae h0
     simp(config:=cS)only[go_sem, *]
     refine ah (m1:=.mk) (m2:=.mk) [.homeCell 256 1,.nf [1,2,4,5,32,33,34] [64,128,256,100016385,1664]] (kE i_1 ((r02.1.length:Nat):Int) g.nodes g.edges r02.1) l0 ?_ ?_
     ·simp(config:=cS)only[go_sem, *]
     ·have k0:=h0
      clear h0 l0
      intro _ s0 _ h0 gb0
      obtain⟨v34_2,h100016385_2⟩:=s0
      unfold gA at h0
      try dsimp only at h0
      exact run
    ·exact run
   ·exact run
 ·exact run⟩
def ms (a:List Int)(b c d:Int):St:=⟨[(1,.ptr 64 1 0 0),(25,.sl (ab eI a)),(26,.lit (.int .i64 b)),(27,.lit (.int .i64 d))],[(64,1,.var [.lit (.int .i64 c),.sl (ab eI a)])],2⟩
attribute[go_sem] ms
@[go_sem] def hi262_6:DT:=.r2 0 21 .nil
def AU:Hint where
 acts:=fun _=>[]
 draws:=fun
  | 6=>⟨hi262_6,[[],[0],[0,1],[0,1,2],[0,1,2,3],.range 5,.range 6,.range 7,.range 7,[0,1,2,3,4,5,6,8],.range 10,.range 7,.range 7,[0,1,2,3,4,5,6,12],[0,1,2,3,4,5,6,11,12,13],.range 15,.range 16,.range 17,.range 18,.range 19,.range 20],.range 21⟩
  | _=>⟨.nil,[],[]⟩
theorem LI (i:Nat):AU.acts i=[]:=rfl
theorem LJ (i:Nat):AU.views i=none:=rfl
attribute[go_sem] LI LJ ntmps262 results262
@[go_sem] theorem OT:(AU.draws 6).order=hi262_6:=rfl
instance k262 {t:ay}:Ctr (iP t) (fun (res:Bool)=>aj prog 262 [.agg [.lit (.int .i64 t.size),.sl (ab eI t.cells)]] [] (.lit (.bool res)) []):=⟨by
 intro res h0
 refine co (hi:=AU) func262 rfl rfl ?_
 unfold iP at h0
 obtain⟨_,h0⟩|⟨_,h0⟩:=itP h0
 ·exact run
 ·obtain⟨_,h0⟩|⟨_,h0⟩:=itP h0
  ·exact run
  ·obtain⟨_,h0⟩|⟨_,h0⟩:=itP h0
   ·obtain⟨q02,l0,h0⟩:=ae h0
    simp(config:=cS)only[go_sem, *]
    refine ah (m1:=.mk) (m2:=.mk) [.nf [1,25,26,27] [64]] (ms t.cells ((t.cells.length:Nat):Int) t.size) l0 ?_ ?_
    ·simp(config:=cS)only[go_sem, *]
    ·have k0:=h0
     clear h0 l0
     intro _ v27_1 _ h0 gb0
     unfold eJ at h0
     try dsimp only at h0
     exact run
   ·exact run⟩
instance k264 {t:ay} {i:Int} {k:Int}:Ctr (gp t i k) (fun (res:Int)=>aj prog 264 [.agg [.lit (.int .i64 t.size),.sl (ab eI t.cells)],.lit (.int .i64 i),.lit (.int .i64 k)] [] (.lit (.int .i64 res)) []):=⟨by
 intro res h0
 refine co (hi:=hi00) func264 rfl rfl ?_
 unfold gp at h0
 exact run⟩
instance k263 {i:ap} {ok:Bool}:Ctr (kx i ok) (fun (res:ap × Bool)=>aj prog 263 [.agg [.lit (.int .i64 i.low),.lit (.int .i64 i.high)],.lit (.bool ok)] [] (.tup [.agg [.lit (.int .i64 res.1.low),.lit (.int .i64 res.1.high)],.lit (.bool res.2)]) []):=⟨by
 intro res h0
 refine co (hi:=hi00) func263 rfl rfl ?_
 unfold kx at h0
 exact run⟩
@[go_sem] def hi176_3:DT:=.r2 0 3 (.i1 5 (.i2 6 (.i2 7 (.i0 3 [5] (.i2 4 (.r2 8 7 .nil))))))
def AW:Hint where
 acts:=fun _=>[]
 draws:=fun
  | 3=>⟨hi176_3,[[],[],[],[0,1,2],[0,1,2,3],[],[],[],[0,1,2,3,5,6,7],.range 9,.range 10,.range 11,.range 11,.range 13,.range 14],.range 15⟩
  | _=>⟨.nil,[],[]⟩
theorem LK (i:Nat):AW.acts i=[]:=rfl
theorem LL (i:Nat):AW.views i=none:=rfl
attribute[go_sem] LK LL ntmps176 results176
@[go_sem] theorem OU:(AW.draws 3).order=hi176_3:=rfl
instance k176 {t:ay} {i:Int} {k:Int}:Ctr (ev t i k) (fun (res:ap × Bool)=>aj prog 176 [.agg [.lit (.int .i64 t.size),.sl (ab eI t.cells)],.lit (.int .i64 i),.lit (.int .i64 k)] [] (.tup [.agg [.lit (.int .i64 res.1.low),.lit (.int .i64 res.1.high)],.lit (.bool res.2)]) []):=⟨by
 intro res h0
 refine co (hi:=AW) func176 rfl rfl ?_
 unfold ev at h0
 exact run⟩
instance k70 {s:ag} {event:Int}:Ctr (df s event) (fun (res:ap × Bool)=>aj prog 70 [.agg [.lit (.int .i64 s.events),.sl (ab GLink.enc s.links)],.lit (.int .i64 event)] [] (.tup [.agg [.lit (.int .i64 res.1.low),.lit (.int .i64 res.1.high)],.lit (.bool res.2)]) []):=⟨by
 intro res h0
 refine co (hi:=hi00) func70 rfl rfl ?_
 unfold df at h0
 exact run⟩
instance k178 {n:Int}:Ctr (fq n) (fun (res:ByteArray)=>aj prog 178 [.lit (.int .i64 n)] [] (.lit (.string res)) []):=⟨by
 intro res h0
 refine co (hi:=hi00) func178 rfl rfl ?_
 unfold fq at h0
 exact run⟩
@[go_sem] def hi71_3:DT:=.i2 0 (.i2 1 (.i1 4 (.i1 5 (.i0 2 [4,5] (.i2 3 (.r2 6 3 .nil))))))
def hi71:Hint where
 acts:=fun _=>[]
 draws:=fun
  | 3=>⟨hi71_3,[[],[0],[0,1],[0,1,2],[],[4],[0,1,2,4,5],.range 7,.range 8],.range 9⟩
  | _=>⟨.nil,[],[]⟩
theorem MO (i:Nat):hi71.acts i=[]:=rfl
theorem MP (i:Nat):hi71.views i=none:=rfl
attribute[go_sem] MO MP ntmps71 results71
@[go_sem] theorem Pb:(hi71.draws 3).order=hi71_3:=rfl
instance k71 {i:ap}:Ctr (bl i) (fun (res:ByteArray)=>aj prog 71 [.agg [.lit (.int .i64 i.low),.lit (.int .i64 i.high)]] [] (.lit (.string res)) []):=⟨by
 intro res h0
 refine co (hi:=hi71) func71 rfl rfl ?_
 unfold bl at h0
 obtain⟨r01,g0,h0⟩:=ae h0
 simp(config:=cS)only[go_sem, *]
 have g0:=ctr g0
 refine am g0 ?_
 obtain⟨_,h0⟩|⟨_,h0⟩:=itB h0
 ·obtain⟨r02,g0,h0⟩:=ae h0
  simp(config:=cS)only[go_sem, *]
  have g0:=ctr g0
  refine am g0 ?_
  obtain⟨_,h0⟩:=ckP h0
  obtain⟨r03,g0,h0⟩:=ae h0
  simp(config:=cS)only[go_sem, *]
  have g0:=ctr g0
  refine am g0 ?_
  obtain⟨a1,h0⟩:=ckP h0
  try simp(config:=cS)only[go_sem]at a1
  exact run
 ·exact run⟩
def kd (b:List GNode)(g:Int)(h:List GTie)(i:Int)(d e:List Int)(f:Int)(a:List GLink):(Int × (List ByteArray))→St
 | (j,c)=>⟨[(2,.ptr 128 1 0 0),(3,.ptr 192 1 0 0),(5,.ptr 320 1 0 0),(7,.ref 511 1 0 c.length),(23,.sl (ab GNode.encS b)),(24,.lit (.int .i64 g)),(25,.lit (.int .i64 j))],[(128,1,.var [.sl (ab GNode.encS b),.sl (ab GTie.enc h),.lit (.int .i64 i)]),(192,1,.var [.sl (ab eI d),.sl (ab eI e)]),(320,1,.var [.lit (.int .i64 f),.ref 1216 1 0 a.length]),(1216,1,.row true (ab GLink.enc a)),(511,1,.row true (ab eS c))],2⟩
attribute[go_sem] kd
@[go_sem] def hi14_10:DT:=.i2 0 (.i1 1 (.i1 2 (.i2 3 (.i2 4 (.i0 5 [1,2] (.r2 6 4 .nil))))))
def hi14:Hint where
 acts:=fun _=>[]
 draws:=fun
  | 10=>⟨hi14_10,[[],[],[1],[1,2],[],[4],[1,2,3,4,5],[1,2,3,4,5,6],.range 8,.range 9],.range 10⟩
  | _=>⟨.nil,[],[]⟩
theorem MQ (i:Nat):hi14.acts i=[]:=rfl
theorem MR (i:Nat):hi14.views i=none:=rfl
attribute[go_sem] MQ MR ntmps14 results14
@[go_sem] theorem OV:(hi14.draws 10).order=hi14_10:=rfl
instance k14 {s:GShow} {v1:GChoice}:Ctr (dT s v1) (fun (res:List ByteArray)=>aj prog 14 [.agg (GShow.encS s),.agg [.sl (ab eI v1.lengths),.sl (ab eI v1.values)]] [] (.ref 20000 1 0 res.length) [(20000,1,.row true (ab eS res))]):=⟨by
 intro res h0
 refine bd (ra:=[.home 4]) (md:=mdT) hT (hi:=hi14) func14 rfl rfl (by decide +kernel) (by simp) ?_
 unfold dT at h0
 obtain⟨r01,g0,h0⟩:=ae h0
 simp(config:=cS)only[go_sem, *]
 have g0:=ctr g0
 refine am g0 ?_
 obtain⟨_,h0⟩|⟨_,h0⟩:=itB h0
 ·obtain⟨r02,g0,h0⟩:=ae h0
  simp(config:=cS)only[go_sem, *]
  have g0:=ctr g0
  refine am g0 ?_
  obtain⟨q07,l0,h0⟩:=ae h0
  simp(config:=cS)only[go_sem, *]
  refine ah (m1:=.mk) (m2:=.mk) [.home 7,.nf [2,3,5,7,23,24,25] [128,192,320,1216,511]] (kd s.nodes ((s.nodes.length:Nat):Int) s.ties s.horizon v1.lengths v1.values r02.1.events r02.1.links) l0 ?_ ?_
  ·simp(config:=cS)only[go_sem, *]
  ·have k0:=h0
   clear h0 l0
   intro _ s0 _ h0 gb0
   obtain⟨v25_1,out_1⟩:=s0
   unfold cH at h0
   try dsimp only at h0
   obtain⟨_,h0⟩|⟨_,h0⟩:=itP h0
   ·obtain⟨x03,_,_,_,h0⟩:=gtI h0
    obtain⟨r04,g0,h0⟩:=ae h0
    simp(config:=cS)only[go_sem, *]
    have g0:=ctr g0
    refine am g0 ?_
    obtain⟨_,h0⟩|⟨_,h0⟩:=itB h0
    ·obtain⟨r05,g0,h0⟩:=ae h0
     simp(config:=cS)only[go_sem, *]
     have g0:=ctr g0
     refine am g0 ?_
     obtain⟨_,h0⟩:=ckP h0
     obtain⟨r06,g0,h0⟩:=ae h0
     simp(config:=cS)only[go_sem, *]
     have g0:=ctr g0
     refine am g0 ?_
     obtain⟨a1,h0⟩:=ckP h0
     try simp(config:=cS)only[go_sem]at a1
     exact run
    ·exact run
   ·exact run
 ·exact run⟩
def kO (a b:List ByteArray)(i:Int):St:=⟨[(0,.sl (ab eS a)),(1,.sl (ab eS b)),(5,.lit (.int .i64 i))],[],2⟩
attribute[go_sem] kO
@[go_sem] def hi15_6:DT:=.r2 0 9 .nil
def hi15:Hint where
 acts:=fun _=>[]
 draws:=fun
  | 6=>⟨hi15_6,[[],[],[0,1],[0,1,2],[],[],[4,5],[4,5,6],.range 8],.range 9⟩
  | _=>⟨.nil,[],[]⟩
theorem MS (i:Nat):hi15.acts i=[]:=rfl
theorem MT (i:Nat):hi15.views i=none:=rfl
attribute[go_sem] MS MT ntmps15 results15
@[go_sem] theorem Pc:(hi15.draws 6).order=hi15_6:=rfl
instance k15 {a:List ByteArray} {b:List ByteArray}:Ctr (dB a b) (fun (res:Bool)=>aj prog 15 [.sl (ab eS a),.sl (ab eS b)] [] (.lit (.bool res)) []):=⟨by
 intro res h0
 refine co (hi:=hi15) func15 rfl rfl ?_
 unfold dB at h0
 obtain⟨_,h0⟩|⟨_,h0⟩:=itP h0
 ·obtain⟨q03,l0,h0⟩:=ae h0
  simp(config:=cS)only[go_sem, *]
  refine ah (m1:=.mk) (m2:=.mk) [.nf [0,1,5] []] (kO a b) l0 ?_ ?_
  ·simp(config:=cS)only[go_sem, *]
  ·have k0:=h0
   clear h0 l0
   intro _ i_1 _ h0 gb0
   unfold eV at h0
   try dsimp only at h0
   exact run
 ·exact run⟩
def mQ (a b:List Int)(i:Int):St:=⟨[(0,.sl (ab eI a)),(1,.sl (ab eI b)),(5,.lit (.int .i64 i))],[],2⟩
attribute[go_sem] mQ
@[go_sem] def hi74_6:DT:=.r2 0 9 .nil
def hi74:Hint where
 acts:=fun _=>[]
 draws:=fun
  | 6=>⟨hi74_6,[[],[],[0,1],[0,1,2],[],[],[4,5],[4,5,6],.range 8],.range 9⟩
  | _=>⟨.nil,[],[]⟩
theorem MU (i:Nat):hi74.acts i=[]:=rfl
theorem MV (i:Nat):hi74.views i=none:=rfl
attribute[go_sem] MU MV ntmps74 results74
@[go_sem] theorem Pd:(hi74.draws 6).order=hi74_6:=rfl
instance k74 {a:List Int} {b:List Int}:Ctr (fV a b) (fun (res:Bool)=>aj prog 74 [.sl (ab eI a),.sl (ab eI b)] [] (.lit (.bool res)) []):=⟨by
 intro res h0
 refine co (hi:=hi74) func74 rfl rfl ?_
 unfold fV at h0
 obtain⟨_,h0⟩|⟨_,h0⟩:=itP h0
 ·obtain⟨q03,l0,h0⟩:=ae h0
  simp(config:=cS)only[go_sem, *]
  refine ah (m1:=.mk) (m2:=.mk) [.nf [0,1,5] []] (mQ a b) l0 ?_ ?_
  ·simp(config:=cS)only[go_sem, *]
  ·have k0:=h0
   clear h0 l0
   intro _ i_1 _ h0 gb0
   unfold fv at h0
   try dsimp only at h0
   exact run
 ·exact run⟩
instance k179 {a:GNode} {b:GNode}:Ctr (jA a b) (fun (res:Bool)=>aj prog 179 [.agg (GNode.encS a),.agg (GNode.encS b)] [] (.lit (.bool res)) []):=⟨by
 intro res h0
 refine co (hi:=hi00) func179 rfl rfl ?_
 unfold jA at h0
 exact run⟩
def mu (a b:List GNode)(i:Int):St:=⟨[(0,.sl (ab GNode.encS a)),(1,.sl (ab GNode.encS b)),(5,.lit (.int .i64 i))],[],2⟩
attribute[go_sem] mu
@[go_sem] def hi72_6:DT:=.r2 0 10 .nil
def hi72:Hint where
 acts:=fun _=>[]
 draws:=fun
  | 6=>⟨hi72_6,[[],[],[0,1],[0,1,2],[],[],[4,5],[4,5,6],.range 8,.range 9],.range 10⟩
  | _=>⟨.nil,[],[]⟩
theorem MW (i:Nat):hi72.acts i=[]:=rfl
theorem MX (i:Nat):hi72.views i=none:=rfl
attribute[go_sem] MW MX ntmps72 results72
@[go_sem] theorem Pe:(hi72.draws 6).order=hi72_6:=rfl
instance k72 {a:List GNode} {b:List GNode}:Ctr (iQ a b) (fun (res:Bool)=>aj prog 72 [.sl (ab GNode.encS a),.sl (ab GNode.encS b)] [] (.lit (.bool res)) []):=⟨by
 intro res h0
 refine co (hi:=hi72) func72 rfl rfl ?_
 unfold iQ at h0
 obtain⟨_,h0⟩|⟨_,h0⟩:=itP h0
 ·obtain⟨q04,l0,h0⟩:=ae h0
  simp(config:=cS)only[go_sem, *]
  refine ah (m1:=.mk) (m2:=.mk) [.nf [0,1,5] []] (mu a b) l0 ?_ ?_
  ·simp(config:=cS)only[go_sem, *]
  ·have k0:=h0
   clear h0 l0
   intro _ i_1 _ h0 gb0
   unfold gq at h0
   try dsimp only at h0
   exact run
 ·exact run⟩
instance k180 {a:GTie} {b:GTie}:Ctr (my a b) (fun (res:Bool)=>aj prog 180 [.agg (GTie.enc a),.agg (GTie.enc b)] [] (.lit (.bool res)) []):=⟨by
 intro res h0
 refine co (hi:=hi00) func180 rfl rfl ?_
 unfold my at h0
 exact run⟩
def mR (a b:List GTie)(i:Int):St:=⟨[(0,.sl (ab GTie.enc a)),(1,.sl (ab GTie.enc b)),(5,.lit (.int .i64 i))],[],2⟩
attribute[go_sem] mR
@[go_sem] def hi73_6:DT:=.r2 0 10 .nil
def hi73:Hint where
 acts:=fun _=>[]
 draws:=fun
  | 6=>⟨hi73_6,[[],[],[0,1],[0,1,2],[],[],[4,5],[4,5,6],.range 8,.range 9],.range 10⟩
  | _=>⟨.nil,[],[]⟩
theorem MY (i:Nat):hi73.acts i=[]:=rfl
theorem MZ (i:Nat):hi73.views i=none:=rfl
attribute[go_sem] MY MZ ntmps73 results73
@[go_sem] theorem Pf:(hi73.draws 6).order=hi73_6:=rfl
instance k73 {a:List GTie} {b:List GTie}:Ctr (jB a b) (fun (res:Bool)=>aj prog 73 [.sl (ab GTie.enc a),.sl (ab GTie.enc b)] [] (.lit (.bool res)) []):=⟨by
 intro res h0
 refine co (hi:=hi73) func73 rfl rfl ?_
 unfold jB at h0
 obtain⟨_,h0⟩|⟨_,h0⟩:=itP h0
 ·obtain⟨q04,l0,h0⟩:=ae h0
  simp(config:=cS)only[go_sem, *]
  refine ah (m1:=.mk) (m2:=.mk) [.nf [0,1,5] []] (mR a b) l0 ?_ ?_
  ·simp(config:=cS)only[go_sem, *]
  ·have k0:=h0
   clear h0 l0
   intro _ i_1 _ h0 gb0
   unfold gW at h0
   try dsimp only at h0
   exact run
 ·exact run⟩
instance k16 {a:GShow} {b:GShow}:Ctr (jC a b) (fun (res:Bool)=>aj prog 16 [.agg (GShow.encS a),.agg (GShow.encS b)] [] (.lit (.bool res)) []):=⟨by
 intro res h0
 refine co (hi:=hi00) func16 rfl rfl ?_
 unfold jC at h0
 exact run⟩
instance k17 {a:GChoice} {b:GChoice}:Ctr (il a b) (fun (res:Bool)=>aj prog 17 [.agg [.sl (ab eI a.lengths),.sl (ab eI a.values)],.agg [.sl (ab eI b.lengths),.sl (ab eI b.values)]] [] (.lit (.bool res)) []):=⟨by
 intro res h0
 refine co (hi:=hi00) func17 rfl rfl ?_
 unfold il at h0
 exact run⟩
def lD  : (Int × ByteArray)→St
 | (k,a)=>⟨[(0,.lit (.int .i64 k)),(3,.lit (.string a))],[],2⟩
attribute[go_sem] lD
instance k78 {k:Int}:Ctr (cv k) (fun (res:ByteArray)=>aj prog 78 [.lit (.int .i64 k)] [] (.lit (.string res)) []):=⟨by
 intro res h0
 refine co (hi:=hi00) func78 rfl rfl ?_
 unfold cv at h0
 obtain⟨_,h0⟩|⟨_,h0⟩:=itP h0
 ·exact run
 ·obtain⟨q01,l0,h0⟩:=ae h0
  simp(config:=cS)only[go_sem, *]
  refine ah (m1:=.mk) (m2:=.mk) [.nf [0,3] []] (lD) l0 ?_ ?_
  ·simp(config:=cS)only[go_sem, *]
  ·have k0:=h0
   clear h0 l0
   intro _ s0 _ h0 gb0
   obtain⟨k_1,out_1⟩:=s0
   unfold dU at h0
   try dsimp only at h0
   exact run⟩
def lE (b:Bool)  : (Int × Int × (List Int))→St
 | (k,i,a)=>⟨[(0,.ref 10000 0 0 a.length),(1,.lit (.int .i64 k)),(5,.lit (.int .i64 i))],[(10000,0,.row b (ab eI a))],2⟩
attribute[go_sem] lE
theorem mv {a:List Int}{k:Int}{zb0:Bool}{res:Int × (List Int)}(h0:ew a k=some res):aj prog 77 [.ref 10000 0 0 a.length,.lit (.int .i64 k)] [(10000,0,.row zb0 (ab eI a))] (.lit (.int .i64 res.1)) [(10000,0,.row zb0 (ab eI res.2))]:=by
 refine co (hi:=hi00) func77 rfl rfl ?_
 unfold ew at h0
 obtain⟨q02,l0,h0⟩:=ae h0
 simp(config:=cS)only[go_sem, *]
 refine ah (m1:=.mk) (m2:=.mk) [.nf [0,1,5] [10000]] (lE zb0) l0 ?_ ?_
 ·simp(config:=cS)only[go_sem, *]
 ·have k0:=h0
  clear h0 l0
  intro _ s0 _ h0 gb0
  obtain⟨k_1,i_1,a_1⟩:=s0
  unfold fK at h0
  try dsimp only at h0
  exact run
def kP (b:Bool)  : (Int × Int × (List GNode))→St
 | (k,i,a)=>⟨[(0,.ref 10000 0 0 a.length),(1,.lit (.int .i64 k)),(5,.lit (.int .i64 i))],[(10000,0,.row b (ab GNode.encO a))],2⟩
attribute[go_sem] kP
def hi75:Hint where
 acts:=fun _=>[]
 views:=fun
  | 6=>some (4,1)
  | _=>none
 draws:=fun
  | _=>⟨.nil,[],[]⟩
theorem Na (i:Nat):hi75.acts i=[]:=rfl
@[go_sem] theorem Pg:hi75.views 0=none:=rfl
@[go_sem] theorem Ph:hi75.views 1=none:=rfl
@[go_sem] theorem Pi:hi75.views 2=none:=rfl
@[go_sem] theorem Pj:hi75.views 4=none:=rfl
@[go_sem] theorem Pk:hi75.views 5=none:=rfl
@[go_sem] theorem Pl:hi75.views 6=some (4,1):=rfl
@[go_sem] theorem Pm:hi75.views 7=none:=rfl
@[go_sem] theorem Pn:hi75.views 8=none:=rfl
@[go_sem] theorem Po:hi75.views 3=none:=rfl
@[go_sem] theorem Pp:hi75.views 9=none:=rfl
attribute[go_sem] Na ntmps75 results75
theorem uN {a:List GNode}{k:Int}{zb0:Bool}{res:Int × (List GNode)}(h0:gX a k=some res):aj prog 75 [.ref 10000 0 0 a.length,.lit (.int .i64 k)] [(10000,0,.row zb0 (ab GNode.encO a))] (.lit (.int .i64 res.1)) [(10000,0,.row zb0 (ab GNode.encO res.2))]:=by
 refine co (hi:=hi75) func75 rfl rfl ?_
 unfold gX at h0
 obtain⟨q06,l0,h0⟩:=ae h0
 simp(config:=cS)only[go_sem, *]
 refine ah (m1:=.mk) (m2:=.mk) [.nf [0,1,5] [10000]] (kP zb0) l0 ?_ ?_
 ·simp(config:=cS)only[go_sem, *]
 ·have k0:=h0
  clear h0 l0
  intro _ s0 _ h0 gb0
  obtain⟨k_1,i_1,a_1⟩:=s0
  unfold eW at h0
  try dsimp only at h0
  obtain⟨_,h0⟩|⟨_,h0⟩:=itP h0
  ·obtain⟨r01,g0,h0⟩:=ae h0
   simp(config:=cS)only[go_sem, *]
   have g0:=ctr g0
   refine am g0 ?_
   obtain⟨x02,_,_,_,h0⟩:=gtI h0
   obtain⟨x03,_,_,_,h0⟩:=gtI h0
   obtain⟨r04,g0,h0⟩:=ae h0
   obtain⟨a0,h0⟩:=fS h0
   simp(config:=cS)only[go_sem, *]
   refine GU a0 (by simp only[go_sem]) (mv g0) ?_
   exact run
  ·exact run
def lF (b:Bool)  : (Int × Int × (List GTie))→St
 | (k,i,a)=>⟨[(0,.ref 10000 0 0 a.length),(1,.lit (.int .i64 k)),(5,.lit (.int .i64 i))],[(10000,0,.row b (ab GTie.enc a))],2⟩
attribute[go_sem] lF
theorem wV {a:List GTie}{k:Int}{zb0:Bool}{res:Int × (List GTie)}(h0:im a k=some res):aj prog 76 [.ref 10000 0 0 a.length,.lit (.int .i64 k)] [(10000,0,.row zb0 (ab GTie.enc a))] (.lit (.int .i64 res.1)) [(10000,0,.row zb0 (ab GTie.enc res.2))]:=by
 refine co (hi:=hi00) func76 rfl rfl ?_
 unfold im at h0
 obtain⟨q06,l0,h0⟩:=ae h0
 simp(config:=cS)only[go_sem, *]
 refine ah (m1:=.mk) (m2:=.mk) [.nf [0,1,5] [10000]] (lF zb0) l0 ?_ ?_
 ·simp(config:=cS)only[go_sem, *]
 ·have k0:=h0
  clear h0 l0
  intro _ s0 _ h0 gb0
  obtain⟨k_1,i_1,a_1⟩:=s0
  unfold fL at h0
  try dsimp only at h0
  exact run
theorem wW {a:GShow}{k:Int}{zb0 zb1:Bool}{res:Int × (List GNode) × (List GTie)}(h0:io a k=some res):aj prog 18 [.agg [.ref 10000 0 0 a.nodes.length,.ref 10001 0 0 a.ties.length,.lit (.int .i64 a.horizon)],.lit (.int .i64 k)] [(10000,0,.row zb0 (ab GNode.encO a.nodes)),(10001,0,.row zb1 (ab GTie.enc a.ties))] (.lit (.int .i64 res.1)) [(10000,0,.row zb0 (ab GNode.encO res.2.1)),(10001,0,.row zb1 (ab GTie.enc res.2.2))]:=by
 refine co (hi:=hi00) func18 rfl rfl ?_
 unfold io at h0
 obtain⟨r01,g0,h0⟩:=ae h0
 simp(config:=cS)only[go_sem, *]
 refine am (uN g0) ?_
 obtain⟨r02,g0,h0⟩:=ae h0
 simp(config:=cS)only[go_sem, *]
 refine am (wV g0) ?_
 exact run
theorem tb {a:GChoice}{k:Int}{zb0 zb1:Bool}{res:Int × (List Int) × (List Int)}(h0:gr a k=some res):aj prog 19 [.agg [.ref 10000 0 0 a.lengths.length,.ref 10001 0 0 a.values.length],.lit (.int .i64 k)] [(10000,0,.row zb0 (ab eI a.lengths)),(10001,0,.row zb1 (ab eI a.values))] (.lit (.int .i64 res.1)) [(10000,0,.row zb0 (ab eI res.2.1)),(10001,0,.row zb1 (ab eI res.2.2))]:=by
 refine co (hi:=hi00) func19 rfl rfl ?_
 unfold gr at h0
 obtain⟨r01,g0,h0⟩:=ae h0
 simp(config:=cS)only[go_sem, *]
 refine am (mv g0) ?_
 obtain⟨r02,g0,h0⟩:=ae h0
 simp(config:=cS)only[go_sem, *]
 refine am (mv g0) ?_
 exact run
def ke (b:Bool)  : (Int × Int × (List ByteArray))→St
 | (k,i,a)=>⟨[(0,.ref 10000 0 0 a.length),(1,.lit (.int .i64 k)),(5,.lit (.int .i64 i))],[(10000,0,.row b (ab eS a))],2⟩
attribute[go_sem] ke
theorem rl {a:List ByteArray}{k:Int}{zb0:Bool}{res:Int × (List ByteArray)}(h0:fM a k=some res):aj prog 20 [.ref 10000 0 0 a.length,.lit (.int .i64 k)] [(10000,0,.row zb0 (ab eS a))] (.lit (.int .i64 res.1)) [(10000,0,.row zb0 (ab eS res.2))]:=by
 refine co (hi:=hi00) func20 rfl rfl ?_
 unfold fM at h0
 obtain⟨q03,l0,h0⟩:=ae h0
 simp(config:=cS)only[go_sem, *]
 refine ah (m1:=.mk) (m2:=.mk) [.nf [0,1,5] [10000]] (ke zb0) l0 ?_ ?_
 ·simp(config:=cS)only[go_sem, *]
 ·have k0:=h0
  clear h0 l0
  intro _ s0 _ h0 gb0
  obtain⟨k_1,i_1,a_1⟩:=s0
  unfold dV at h0
  try dsimp only at h0
  exact run
def kf (a:List ByteArray):(Int × Int)→St
 | (k,i)=>⟨[(0,.sl (ab eS a)),(1,.lit (.int .i64 k)),(5,.lit (.int .i64 i))],[],2⟩
attribute[go_sem] kf
@[go_sem] def hi21_4:DT:=.i2 0 (.i2 1 (.i1 2 (.i1 3 (.i2 4 (.i0 5 [2,3] (.i2 6 .nil))))))
def hi21:Hint where
 acts:=fun _=>[]
 draws:=fun
  | 4=>⟨hi21_4,[[],[],[0,1],[0,1,2],[],[4],.range 6],.range 7⟩
  | _=>⟨.nil,[],[]⟩
theorem Nb (i:Nat):hi21.acts i=[]:=rfl
theorem Nc (i:Nat):hi21.views i=none:=rfl
attribute[go_sem] Nb Nc ntmps21 results21
@[go_sem] theorem Pq:(hi21.draws 4).order=hi21_4:=rfl
instance k21 {a:List ByteArray} {k:Int}:Ctr (dX a k) (fun (res:Int)=>aj prog 21 [.sl (ab eS a),.lit (.int .i64 k)] [] (.lit (.int .i64 res)) []):=⟨by
 intro res h0
 refine co (hi:=hi21) func21 rfl rfl ?_
 unfold dX at h0
 obtain⟨q03,l0,h0⟩:=ae h0
 simp(config:=cS)only[go_sem, *]
 refine ah (m1:=.mk) (m2:=.mk) [.nf [0,1,5] []] (kf a) l0 ?_ ?_
 ·simp(config:=cS)only[go_sem, *]
 ·have k0:=h0
  clear h0 l0
  intro _ s0 _ h0 gb0
  obtain⟨k_1,i_1⟩:=s0
  unfold dW at h0
  try dsimp only at h0
  exact run⟩
@[go_sem] def hi3_31:DT:=.i2 0 (.i1 2 (.i0 1 [2] (.r2 3 3 .nil)))
@[go_sem] def hi3_16:DT:=.i1 0 (.i2 1 (.i0 2 [0] (.i2 3 (.i2 4 .nil))))
@[go_sem] def hi3_14:DT:=.i1 0 (.i2 1 (.i0 2 [0] (.i2 3 (.i2 4 .nil))))
@[go_sem] def hi3_8:DT:=.i2 0 (.i1 2 (.i0 1 [2] (.r2 3 3 .nil)))
def hi3:Hint where
 acts:=fun _=>[]
 draws:=fun
  | 8=>⟨hi3_8,[[],[0],[],[0,1,2],[0,1,2,3],.range 5],.range 6⟩
  | 14=>⟨hi3_14,[[],[],[1],[0,1,2],[0,1,2,3]],.range 5⟩
  | 16=>⟨hi3_16,[[],[],[1],[0,1,2],[0,1,2,3]],.range 5⟩
  | 31=>⟨hi3_31,[[],[0],[],[0,1,2],[0,1,2,3],.range 5],.range 6⟩
  | _=>⟨.nil,[],[]⟩
theorem hi3a (i:Nat):hi3.acts i=[]:=rfl
theorem hi3v (i:Nat):hi3.views i=none:=rfl
attribute[go_sem] hi3a hi3v ntmps3 results3
@[go_sem] theorem PS:(hi3.draws 8).order=hi3_8:=rfl
@[go_sem] theorem Pr:(hi3.draws 14).order=hi3_14:=rfl
@[go_sem] theorem Ps:(hi3.draws 16).order=hi3_16:=rfl
@[go_sem] theorem Pt:(hi3.draws 31).order=hi3_31:=rfl
theorem ob {aS:GShow}{aC:GChoice}{res:Bool}(h0:dZ aS aC=some res):aj prog 3 [.agg (GShow.encS aS),.agg [.sl (ab eI aC.lengths),.sl (ab eI aC.values)]] [] (.lit (.bool res)) []:=by
 refine co (hi:=hi3) func3 rfl rfl ?_
 unfold dZ at h0
 obtain⟨r01,g0,h0⟩:=ae h0
 simp(config:=cS)only[go_sem, *]
 have g0:=ctr g0
 refine am g0 ?_
 obtain⟨_,h0⟩|⟨_,h0⟩:=itP h0
 ·exact run
 ·obtain⟨r02,g0,h0⟩:=ae h0
  simp(config:=cS)only[go_sem, *]
  have g0:=ctr g0
  refine am g0 ?_
  obtain⟨_,h0⟩|⟨_,h0⟩:=itP h0
  ·exact run
  ·obtain⟨r03,g0,h0⟩:=ae h0
   simp(config:=cS)only[go_sem, *]
   have g0:=ctr g0
   refine am g0 ?_
   obtain⟨r04,g0,h0⟩:=ae h0
   simp(config:=cS)only[go_sem, *]
   have g0:=ctr g0
   refine am g0 ?_
   obtain⟨r05,g0,h0⟩:=ae h0
   simp(config:=cS)only[go_sem, *]
   have g0:=ctr g0
   refine am g0 ?_
   obtain⟨r06,g0,h0⟩:=ae h0
   simp(config:=cS)only[go_sem, *]
   have g0:=ctr g0
   refine am g0 ?_
   obtain⟨r07,g0,h0⟩:=ae h0
   simp(config:=cS)only[go_sem, *]
   have g0:=ctr g0
   refine am g0 ?_
   obtain⟨r08,g0,h0⟩:=ae h0
   simp(config:=cS)only[go_sem, *]
   have g0:=ctr g0
   refine am g0 ?_
   obtain⟨r09,g0,h0⟩:=ae h0
   simp(config:=cS)only[go_sem, *]
   have g0:=ctr g0
   refine am g0 ?_
   obtain⟨_,h0⟩|⟨_,h0⟩:=itB h0
   ·obtain⟨r10,g0,h0⟩:=ae h0
    simp(config:=cS)only[go_sem, *]
    have g0:=ctr g0
    refine am g0 ?_
    obtain⟨r11,g0,h0⟩:=ae h0
    simp(config:=cS)only[go_sem, *]
    have g0:=ctr g0
    refine am g0 ?_
    obtain⟨_,h0⟩|⟨_,h0⟩:=itB h0
    ·obtain⟨r12,g0,h0⟩:=ae h0
     simp(config:=cS)only[go_sem, *]
     have g0:=ctr g0
     refine am g0 ?_
     obtain⟨r13,g0,h0⟩:=ae h0
     simp(config:=cS)only[go_sem, *]
     have g0:=ctr g0
     refine am g0 ?_
     obtain⟨_,h0⟩|⟨_,h0⟩:=itB h0
     ·obtain⟨r14,g0,h0⟩:=ae h0
      simp(config:=cS)only[go_sem, *]
      refine am (wW g0) ?_
      obtain⟨r15,g0,h0⟩:=ae h0
      simp(config:=cS)only[go_sem, *]
      refine am (tb g0) ?_
      obtain⟨_,h0⟩|⟨_,h0⟩:=itP h0
      ·exact run
      ·obtain⟨r16,g0,h0⟩:=ae h0
       simp(config:=cS)only[go_sem, *]
       have g0:=ctr g0
       refine am g0 ?_
       obtain⟨_,h0⟩|⟨_,h0⟩:=itB h0
       ·obtain⟨r17,g0,h0⟩:=ae h0
        simp(config:=cS)only[go_sem, *]
        refine am (rl g0) ?_
        exact run
       ·exact run
     ·exact run
    ·exact run
   ·exact run
end Go.Proofs.Qg
