/- Functions. -/
import Derived.Test.YtpkcmjnlnbddbaaGreatDoorXdFK2
set_option linter.all false
set_option maxRecDepth 100000
set_option maxHeartbeats 4000000
namespace Go.Proofs.Qd
open Go
def oG (i j:List Int):(Int × Int × Bool × (List GNode) × (List GTie) × (List Int) × (List Int) × (List aw))→St
 | (f,g,h,a,b,c,d,e)=>⟨[(3,.ptr 192 1 0 0),(4,.ptr 256 1 0 0),(6,.ptr 384 1 0 0)],[(192,1,.var [.sl (ab eI i),.sl (ab eI j)]),(256,1,.var [.lit (.slice none 0 0),.lit (.slice none 0 0),.lit (.int .i64 0),.lit (.int .i64 0),.lit (.slice none 0 0),.lit (.slice none 0 0),.lit (.bool false),.lit (.slice none 0 0)]),(384,1,.var [.ref 704 1 0 a.length,.ref 705 1 0 b.length,.lit (.int .i64 f),.lit (.int .i64 g),.ref 706 1 0 c.length,.ref 707 1 0 d.length,.lit (.bool h),.ref 708 1 0 e.length]),(704,1,.row true (ab GNode.encO a)),(705,1,.row true (ab GTie.enc b)),(706,1,.row true (ab eI c)),(707,1,.row true (ab eI d)),(708,1,.row true (ab aw.encO e))],2⟩
attribute [go_sem] oG
@[go_sem] def hi27_4:DT:=.i1 0 (.i1 1 (.i1 2 (.i1 3 (.i1 4 (.i1 5 (.i1 7 (.i1 8 (.fork (.i0 6 [0,7,8] (.fork (.i2 9 (.i2 10 (.i2 11 (.i2 12 (.i2 13 (.i0 14 [0,1,2,3,4,5,7,8] (.i2 15 (.i2 16 (.i2 17 .nil))))))))) (.i0 14 [0,1,2,3,4,5,7,8] (.i2 9 (.i2 10 (.i2 11 (.i2 12 (.i2 13 (.i2 15 (.i2 16 (.i2 17 .nil))))))))))) (.i0 14 [0,1,2,3,4,5,7,8] (.i0 6 [0,7,8] (.i2 9 (.i2 10 (.i2 11 (.i2 12 (.i2 13 (.i2 15 (.i2 16 (.i2 17 .nil))))))))))))))))))
def hi27:Hint where
 acts:=fun _=>[]
 draws:=fun
  | 4=>⟨hi27_4,[[],[],[1],[],[3],[],[1,2,3,4,5],[],[7],.range 9,.range 10,.range 11,.range 11,.range 11,[],[0,1,2,3,4,5,6,7,8,9,10,11,14],[0,1,2,3,4,5,6,7,8,9,10,11,12,14,15],.range 17],[0,1,2,3,4,5,6,7,8,9,10,11,14,16,12,13,15,17]⟩
  | _=>⟨.nil,[],[]⟩
theorem VC (i:Nat):hi27.acts i=[]:=rfl
theorem VD (i:Nat):hi27.views i=none:=rfl
attribute [go_sem] VC VD Tryz.ntmps27 Tryz.results27
@[go_sem] theorem YO:(hi27.draws 4).order=hi27_4:=rfl
theorem DD {d:GDesk}{v1:GChoice}{res:GDesk × Int}(h:kg d v1=some res):al Tryz.prog 27 [.agg (GDesk.encS d),.agg [.sl (ab eI v1.lengths),.sl (ab eI v1.values)]] [] (.tup [.agg [.ref 20000 1 0 res.1.show_.nodes.length,.ref 20001 1 0 res.1.show_.ties.length,.lit (.int .i64 res.1.show_.horizon),.lit (.int .i64 res.1.state.now),.ref 20002 1 0 res.1.state.times.length,.ref 20003 1 0 res.1.state.values.length,.lit (.bool res.1.lazy),.ref 20004 1 0 res.1.log.length],.lit (.int .i64 res.2)]) [(20000,1,.row true (ab GNode.encO res.1.show_.nodes)),(20001,1,.row true (ab GTie.enc res.1.show_.ties)),(20002,1,.row true (ab eI res.1.state.times)),(20003,1,.row true (ab eI res.1.state.values)),(20004,1,.row true (ab aw.encO res.1.log))]:=by
 refine ai (ra:=[.homeCell 256 0,.homeCell 256 1,.homeCell 256 4,.homeCell 256 5,.homeCell 256 7]) (md:=mdT) hT (hi:=hi27) Tryz.func27 rfl rfl (by decide +kernel) (by simp) ?_
 unfold kg at h
 obtain ⟨r01,g1,h⟩:=ae h
 simp(config:=cS)only[go_sem]
 refine ag (se g1) ?_
 obtain ⟨r02,g2,h⟩:=ae h
 simp(config:=cS)only[go_sem]
 refine ag (uO g2) ?_
 obtain ⟨h3,h⟩|⟨h3,h⟩:=af h
 ·obtain ⟨r03,g4,h⟩:=ae h
  simp(config:=cS)only[go_sem,eZt h3]
  refine ag (sd g4) ?_
  obtain ⟨h5,h⟩|⟨h5,h⟩:=af h
  ·obtain ⟨q09,l6,h⟩:=ae h
   simp(config:=cS)only[go_sem,eZt h3,eZt h5]
   refine ar (m1:=.mk) (m2:=.mk) [.nfp [3,4,6] [(192,192),(256,256),(384,384),(2112,704),(704,704),(2113,705),(705,705),(2114,706),(706,706),(2115,707),(707,707),(2116,708),(708,708)] []] (oG v1.lengths v1.values) l6 ?_ ?_
   ·simp(config:=cS)only[go_sem,eZt h3,eZt h5]
   ·intro nb7 sb7 bb7 b7 gb7
    obtain ⟨out_2_1,out_3_1,out_6_1,h704_1,h705_1,h706_1,h707_1,h708_1⟩:=sb7
    unfold jL at b7
    try dsimp only at b7
    try simp(config:=cS)only[go_sem,eZt h3,eZt h5]
    refine eX ?_ ?_
    ·obtain ⟨r04,g8,b7⟩:=ae b7
     simp(config:=cS)only[go_sem,eZt h3,eZt h5]
     refine ag (ro g8) ?_
     try simp(config:=cS)only[go_sem,eZt h3,eZt h5]
     refine eX ?_ ?_
     ·obtain ⟨r05,g9,b7⟩:=ae b7
      simp(config:=cS)only[go_sem,eZt h3,eZt h5]
      refine ag (oF g9) ?_
      obtain ⟨h10,b7⟩|⟨h10,b7⟩:=af b7
      ·cases b7
       simp(config:=cS)only[go_sem,eZt h3,eZt h5,eqT h10]
       refine au gb7 ?_
       simp(config:=cS)only[go_sem,eZt h3,eZt h5,eqT h10]
      ·cases b7
       obtain rfl:=(aj gb7).symm
       try dsimp only at h
       cases h
       simp(config:=cS)only[go_sem,eZt h3,eZt h5,eqF h10]
     ·obtain ⟨r06,g12,b7⟩:=ae b7
      simp(config:=cS)only[go_sem,eZt h3,eZt h5]
      refine ag (oF g12) ?_
      obtain ⟨h13,b7⟩|⟨h13,b7⟩:=af b7
      ·cases b7
       simp(config:=cS)only[go_sem,eZt h3,eZt h5,eqT h13]
       refine au gb7 ?_
       simp(config:=cS)only[go_sem,eZt h3,eZt h5,eqT h13]
      ·cases b7
       obtain rfl:=(aj gb7).symm
       try dsimp only at h
       cases h
       simp(config:=cS)only[go_sem,eZt h3,eZt h5,eqF h13]
    ·obtain ⟨r07,g15,b7⟩:=ae b7
     simp(config:=cS)only[go_sem,eZt h3,eZt h5]
     refine ag (ro g15) ?_
     obtain ⟨r08,g16,b7⟩:=ae b7
     simp(config:=cS)only[go_sem,eZt h3,eZt h5]
     refine ag (oF g16) ?_
     obtain ⟨h17,b7⟩|⟨h17,b7⟩:=af b7
     ·cases b7
      simp(config:=cS)only[go_sem,eZt h3,eZt h5,eqT h17]
      refine au gb7 ?_
      simp(config:=cS)only[go_sem,eZt h3,eZt h5,eqT h17]
     ·cases b7
      obtain rfl:=(aj gb7).symm
      try dsimp only at h
      cases h
      simp(config:=cS)only[go_sem,eZt h3,eZt h5,eqF h17]
  ·cases h
   simp(config:=cS)only[go_sem,eZt h3,eZf h5]
 ·cases h
  simp(config:=cS)only[go_sem,eZf h3]
attribute [go_sem] Tryz.ntmps99 Tryz.results99
attribute [go_sem] Tryz.ntmps36 Tryz.results36
attribute [go_sem] Tryz.ntmps59 Tryz.results59
@[go_sem] def hi61_1:DT:=.i2 0 (.i2 1 (.i2 2 (.i2 3 (.i2 4 (.i2 5 (.i2 6 (.i2 7 (.i2 8 (.i2 9 (.i2 10 .nil))))))))))
def hi61:Hint where
 acts:=fun _=>[]
 draws:=fun
  | 1=>⟨hi61_1,[[],[0],[],[0,1,2],[0,1,2,3],.range 5,[],[6],.range 8,.range 9,.range 10],.range 11⟩
  | _=>⟨.nil,[],[]⟩
theorem VE (i:Nat):hi61.acts i=[]:=rfl
theorem VG (i:Nat):hi61.views i=none:=rfl
attribute [go_sem] VE VG Tryz.ntmps61 Tryz.results61
@[go_sem] theorem YP:(hi61.draws 1).order=hi61_1:=rfl
attribute [go_sem] Tryz.ntmps203 Tryz.results203
attribute [go_sem] Tryz.ntmps110 Tryz.results110
theorem kF {n:Int}{res:ByteArray}(h:dh n=some res):al Tryz.prog 110 [.lit (.int .i64 n)] [] (.lit (.string res)) []:=by
 refine ai (ra:=[]) (md:=mdT) hT (hi:=hi00) Tryz.func110 rfl rfl (by decide +kernel) (by simp) ?_
 unfold dh at h
 obtain ⟨r01,g1,h⟩:=ae h
 simp(config:=cS)only[go_sem]
 refine ag (Ez g1) ?_
 cases h
 simp(config:=cS)only[go_sem]
attribute [go_sem] Tryz.ntmps109 Tryz.results109
theorem zo {l:List ByteArray}{by_ res:ByteArray}(h:jx l by_=some res):al Tryz.prog 109 [.sl (ab eS l),.lit (.string by_)] [] (.lit (.string res)) []:=by
 refine ai (ra:=[]) (md:=mdT) hT (hi:=hi00) Tryz.func109 rfl rfl (by decide +kernel) (by simp) ?_
 unfold jx at h
 obtain ⟨r01,g1,h⟩:=ae h
 simp(config:=cS)only[go_sem]
 refine ag (EA g1) ?_
 cases h
 simp(config:=cS)only[go_sem]
@[go_sem] def hi204_5:DT:=.i2 0 (.i1 1 (.i1 2 (.i1 3 (.i1 4 (.i1 5 (.i1 6 (.i1 7 (.i1 8 (.i1 9 (.i1 10 (.i1 11 (.i1 12 (.i1 13 (.i1 14 (.i2 15 (.i2 16 (.i1 18 (.i1 19 (.i0 17 [1,2,3,4,5,6,7,8,9,10,11,12,13,14,18,19] (.i0 20 [1,2,3,4,5,6,7,8,9,10,11,12,13,14] (.i2 21 (.i2 22 (.i2 23 .nil)))))))))))))))))))))))
def KQ:Hint where
 acts:=fun _=>[]
 draws:=fun
  | 5=>⟨hi204_5,[[],[],[1],[],[3],[1,2,3,4],[1,2,3,4,5],[1,2,3,4,5,6],[],[8],[],[10],[8,9,10,11],[8,9,10,11,12],[8,9,10,11,12,13],[],[15],[15,16],[],[18],[15,16,17,18,19],.range 21,.range 22,.range 23],.range 24⟩
  | _=>⟨.nil,[],[]⟩
theorem TJ (i:Nat):KQ.acts i=[]:=rfl
theorem TL (i:Nat):KQ.views i=none:=rfl
attribute [go_sem] TJ TL Tryz.ntmps204 Tryz.results204
@[go_sem] theorem XX:(KQ.draws 5).order=hi204_5:=rfl
def uj (d:List GNode)(g:Int)(h:List GTie)(i:Int)(e f:List Int):(Int × Int × (List aN) × (List ByteArray))→St
 | (j,c,a,b)=>⟨[(2,.ptr 128 1 0 0),(3,.ptr 192 1 0 0),(4,.ptr 256 1 0 0),(6,.ptr 384 1 0 0),(7,.ptr 448 1 0 0),(8,.fn 203 [.ptr 384 1 0 0,.ptr 448 1 0 0]),(28,.sl (ab GNode.encS d)),(29,.lit (.int .i64 g)),(30,.lit (.int .i64 j))],[(128,1,.var [.sl (ab GNode.encS d),.sl (ab GTie.enc h),.lit (.int .i64 i)]),(192,1,.var [.sl (ab eI e),.sl (ab eI f)]),(256,1,.var [.lit (.int .i64 0),.lit (.slice none 0 0)]),(384,1,.var [.lit (.int .i64 c),.ref 100024577 1 0 a.length]),(100024577,1,.row true (ab aN.enc a)),(448,1,.var [.ref 100028672 1 0 b.length]),(100028672,1,.row true (ab eS b))],2⟩
attribute [go_sem] uj
def uk (e:List GTie)(h:Int)(i:List GNode)(j:Int)(f g c:List Int):(Int × Int × (List aN) × (List ByteArray))→St
 | (k,d,a,b)=>⟨[(2,.ptr 128 1 0 0),(3,.ptr 192 1 0 0),(4,.ptr 256 1 0 0),(6,.ptr 384 1 0 0),(7,.ptr 448 1 0 0),(8,.fn 203 [.ptr 384 1 0 0,.ptr 448 1 0 0]),(11,.ref 3136 1 0 c.length),(51,.sl (ab GTie.enc e)),(52,.lit (.int .i64 h)),(53,.lit (.int .i64 k))],[(128,1,.var [.sl (ab GNode.encS i),.sl (ab GTie.enc e),.lit (.int .i64 j)]),(192,1,.var [.sl (ab eI f),.sl (ab eI g)]),(256,1,.var [.lit (.int .i64 0),.lit (.slice none 0 0)]),(384,1,.var [.lit (.int .i64 d),.ref 100024577 1 0 a.length]),(100024577,1,.row true (ab aN.enc a)),(448,1,.var [.ref 100028672 1 0 b.length]),(100028672,1,.row true (ab eS b)),(3136,1,.row true (ab eI c))],2⟩
attribute [go_sem] uk
def ul (d:Int)(h:List GNode)(i:List GTie)(j:Int)(e f:List Int):(Int × Int × (List aN) × (List ByteArray))→St
 | (g,c,a,b)=>⟨[(2,.ptr 128 1 0 0),(3,.ptr 192 1 0 0),(4,.ptr 256 1 0 0),(6,.ptr 384 1 0 0),(7,.ptr 448 1 0 0),(8,.fn 203 [.ptr 384 1 0 0,.ptr 448 1 0 0]),(100,.lit (.int .i64 d)),(101,.lit (.int .i64 g))],[(128,1,.var [.sl (ab GNode.encS h),.sl (ab GTie.enc i),.lit (.int .i64 j)]),(192,1,.var [.sl (ab eI e),.sl (ab eI f)]),(256,1,.var [.lit (.int .i64 0),.lit (.slice none 0 0)]),(384,1,.var [.lit (.int .i64 c),.ref 100024577 1 0 a.length]),(100024577,1,.row true (ab aN.enc a)),(448,1,.var [.ref 100028672 1 0 b.length]),(100028672,1,.row true (ab eS b))],2⟩
attribute [go_sem] ul
def um (i:Int)(c:List GNode)(f:Int)(d:List Int)(g:Int)(l:List GTie)(m:Int)(h j:List Int)(n:ByteArray)(o:Int):(Int × Int × (List aN) × (List ByteArray))→St
 | (k,e,a,b)=>⟨[(2,.ptr 128 1 0 0),(3,.ptr 192 1 0 0),(4,.ptr 256 1 0 0),(6,.ptr 384 1 0 0),(7,.ptr 448 1 0 0),(8,.fn 203 [.ptr 384 1 0 0,.ptr 448 1 0 0]),(17,.lit (.int .i64 i)),(18,.ptr 1152 1 0 0),(114,.sl (ab GNode.encS c)),(115,.lit (.int .i64 f)),(116,.lit (.int .i64 i)),(122,.sl (ab eI d)),(123,.lit (.int .i64 g)),(124,.lit (.int .i64 k))],[(128,1,.var [.sl (ab GNode.encS c),.sl (ab GTie.enc l),.lit (.int .i64 m)]),(192,1,.var [.sl (ab eI h),.sl (ab eI j)]),(256,1,.var [.lit (.int .i64 0),.lit (.slice none 0 0)]),(384,1,.var [.lit (.int .i64 e),.ref 100024577 1 0 a.length]),(100024577,1,.row true (ab aN.enc a)),(448,1,.var [.ref 100028672 1 0 b.length]),(100028672,1,.row true (ab eS b)),(1152,1,.var [.lit (.string n),.sl (ab eI d),.lit (.int .i64 o)])],2⟩
attribute [go_sem] um
def un (c:List GNode)(e:Int)(i:List GTie)(j:Int)(f g:List Int):(Int × Int × (List aN) × (List ByteArray))→St
 | (h,d,a,b)=>⟨[(2,.ptr 128 1 0 0),(3,.ptr 192 1 0 0),(4,.ptr 256 1 0 0),(6,.ptr 384 1 0 0),(7,.ptr 448 1 0 0),(8,.fn 203 [.ptr 384 1 0 0,.ptr 448 1 0 0]),(114,.sl (ab GNode.encS c)),(115,.lit (.int .i64 e)),(116,.lit (.int .i64 h))],[(128,1,.var [.sl (ab GNode.encS c),.sl (ab GTie.enc i),.lit (.int .i64 j)]),(192,1,.var [.sl (ab eI f),.sl (ab eI g)]),(256,1,.var [.lit (.int .i64 0),.lit (.slice none 0 0)]),(384,1,.var [.lit (.int .i64 d),.ref 100024577 1 0 a.length]),(100024577,1,.row true (ab aN.enc a)),(448,1,.var [.ref 100028672 1 0 b.length]),(100028672,1,.row true (ab eS b))],2⟩
attribute [go_sem] un
@[go_sem] def hi130_38:DT:=.i2 0 (.i1 1 (.i0 2 [1] (.i2 3 .nil)))
@[go_sem] def hi130_35:DT:=.i2 0 (.i2 1 (.i2 2 (.i2 3 (.i2 4 (.i2 5 (.i2 6 (.i2 7 (.i2 8 (.i2 9 (.i2 10 (.i2 11 (.i2 12 (.i2 13 (.i2 14 .nil))))))))))))))
@[go_sem] def hi130_34:DT:=.i1 0 (.i2 1 (.i0 2 [0] (.i2 3 (.i2 4 .nil))))
@[go_sem] def hi130_19:DT:=.i2 0 (.i1 1 (.i1 2 (.i1 3 (.i1 4 (.i2 5 (.i2 6 (.i2 7 (.i2 8 (.i0 9 [1,2,3,4] (.i2 10 .nil))))))))))
@[go_sem] def hi130_17:DT:=.i1 0 (.i1 1 (.i2 2 (.i2 3 (.i0 4 [0,1] (.i2 5 (.i2 6 (.i2 7 .nil)))))))
@[go_sem] def hi130_15:DT:=.i2 0 (.i2 1 (.i2 2 (.i2 3 (.i2 4 (.i2 5 .nil)))))
def bq:Hint where
 acts:=fun i=>match i with | 8=>[.homeCell 384 1,.homeCell 448 0] | _=>[]
 draws:=fun
  | 15=>⟨hi130_15,[[],[0],[],[2],[0,1],.range 5],[0,1,3,4,2,5]⟩
  | 17=>⟨hi130_17,[[],[0],[],[],[2,3],.range 5,.range 6,.range 7],.range 8⟩
  | 19=>⟨hi130_19,[[],[],[1],[],[3],[],[],[],[],[7,8],.range 10],.range 11⟩
  | 34=>⟨hi130_34,[[],[],[1],[0,1,2],[0,1,2,3]],.range 5⟩
  | 35=>⟨hi130_35,[[],[],[],[],[3],[],[3,4,5],[3,4,5,6],[3,4,5,6,7],[3,4,5,6,7,8],[3,4,5,6,7,8,9],[],[11],[3,4,5,6,7,8,9,10,11,12],.range 14],.range 15⟩
  | 38=>⟨hi130_38,[[],[],[0],[0,1,2]],[0,2,1,3]⟩
  | _=>⟨.nil,[],[]⟩
@[go_sem] theorem XY:bq.acts 0=[]:=rfl
@[go_sem] theorem XZ:bq.acts 1=[]:=rfl
@[go_sem] theorem Ya:bq.acts 2=[]:=rfl
@[go_sem] theorem Yb:bq.acts 3=[]:=rfl
@[go_sem] theorem Yc:bq.acts 4=[]:=rfl
@[go_sem] theorem Yd:bq.acts 5=[]:=rfl
@[go_sem] theorem Ye:bq.acts 6=[]:=rfl
@[go_sem] theorem Yf:bq.acts 7=[]:=rfl
@[go_sem] theorem Yg:bq.acts 8=[.homeCell 384 1,.homeCell 448 0]:=rfl
@[go_sem] theorem Yh:bq.acts 9=[]:=rfl
@[go_sem] theorem Wu:bq.acts 10=[]:=rfl
@[go_sem] theorem Wv:bq.acts 11=[]:=rfl
@[go_sem] theorem Ww:bq.acts 12=[]:=rfl
@[go_sem] theorem Wx:bq.acts 13=[]:=rfl
@[go_sem] theorem Wy:bq.acts 14=[]:=rfl
@[go_sem] theorem Wz:bq.acts 15=[]:=rfl
@[go_sem] theorem WA:bq.acts 16=[]:=rfl
@[go_sem] theorem WB:bq.acts 17=[]:=rfl
@[go_sem] theorem WC:bq.acts 18=[]:=rfl
@[go_sem] theorem WD:bq.acts 19=[]:=rfl
@[go_sem] theorem WE:bq.acts 20=[]:=rfl
@[go_sem] theorem WF:bq.acts 21=[]:=rfl
@[go_sem] theorem WG:bq.acts 22=[]:=rfl
@[go_sem] theorem WH:bq.acts 23=[]:=rfl
@[go_sem] theorem WI:bq.acts 24=[]:=rfl
@[go_sem] theorem WJ:bq.acts 25=[]:=rfl
@[go_sem] theorem WK:bq.acts 26=[]:=rfl
@[go_sem] theorem WL:bq.acts 27=[]:=rfl
@[go_sem] theorem WM:bq.acts 28=[]:=rfl
@[go_sem] theorem WN:bq.acts 29=[]:=rfl
@[go_sem] theorem WO:bq.acts 30=[]:=rfl
@[go_sem] theorem WP:bq.acts 31=[]:=rfl
@[go_sem] theorem WQ:bq.acts 32=[]:=rfl
@[go_sem] theorem WR:bq.acts 33=[]:=rfl
@[go_sem] theorem WS:bq.acts 34=[]:=rfl
@[go_sem] theorem WT:bq.acts 35=[]:=rfl
@[go_sem] theorem WU:bq.acts 36=[]:=rfl
@[go_sem] theorem WV:bq.acts 37=[]:=rfl
@[go_sem] theorem WW:bq.acts 38=[]:=rfl
theorem TM (i:Nat):bq.views i=none:=rfl
attribute [go_sem] TM Tryz.ntmps130 Tryz.results130
@[go_sem] theorem WX:(bq.draws 15).order=hi130_15:=rfl
@[go_sem] theorem WY:(bq.draws 17).order=hi130_17:=rfl
@[go_sem] theorem WZ:(bq.draws 19).order=hi130_19:=rfl
@[go_sem] theorem Xa:(bq.draws 34).order=hi130_34:=rfl
@[go_sem] theorem Xb:(bq.draws 35).order=hi130_35:=rfl
@[go_sem] theorem Xc:(bq.draws 38).order=hi130_38:=rfl
def oT (c:List aN)(a:Nat)(b:List AV)(d e:Int):St:=⟨[(0,.sl (ab aN.enc c)),(1,.fn a b),(7,.lit (.int .i64 d)),(8,.lit (.int .i64 e))],[],2⟩
attribute [go_sem] oT
attribute [go_sem] Tryz.ntmps209 Tryz.results209
attribute [go_sem] Tryz.ntmps205 Tryz.results205
attribute [go_sem] Tryz.ntmps207 Tryz.results207
attribute [go_sem] Tryz.ntmps206 Tryz.results206
attribute [go_sem] Tryz.ntmps131 Tryz.results131
attribute [go_sem] Tryz.ntmps62 Tryz.results62
attribute [go_sem] Tryz.ntmps208 Tryz.results208
attribute [go_sem] Tryz.ntmps132 Tryz.results132
attribute [go_sem] Tryz.ntmps211 Tryz.results211
@[go_sem] def hi210_1:DT:=.i2 0 (.i2 1 (.i2 2 (.i2 3 (.i2 4 (.i2 5 (.i2 6 (.i2 7 (.i2 8 (.i2 9 (.i2 10 (.i2 11 (.i2 12 (.i2 13 (.i2 14 (.i2 15 .nil)))))))))))))))
def KR:Hint where
 acts:=fun _=>[]
 draws:=fun
  | 1=>⟨hi210_1,[[],[0],[],[],[3],[2,3,4],[2,3,4,5],[],[],[8],[7,8,9],[7,8,9,10],[2,3,4,5,6,7,8,9,10,11],.range 13,.range 14,.range 15],.range 16⟩
  | _=>⟨.nil,[],[]⟩
theorem TN (i:Nat):KR.acts i=[]:=rfl
theorem TO (i:Nat):KR.views i=none:=rfl
attribute [go_sem] TN TO Tryz.ntmps210 Tryz.results210
@[go_sem] theorem Yi:(KR.draws 1).order=hi210_1:=rfl
attribute [go_sem] Tryz.ntmps133 Tryz.results133
attribute [go_sem] Tryz.ntmps63 Tryz.results63
def tx (d:List Int)(e:Int)(f:List GNode)(g:List GTie)(h:Int)(b c:List Int):(Int × (List Int))→St
 | (i,a)=>⟨[(3,.ptr 192 1 0 0),(4,.ptr 256 1 0 0),(7,.ref 1600 1 0 a.length),(26,.sl (ab eI d)),(27,.lit (.int .i64 e)),(28,.lit (.int .i64 i))],[(192,1,.var [.sl (ab GNode.encS f),.sl (ab GTie.enc g),.lit (.int .i64 h)]),(256,1,.var [.sl (ab eI b),.sl (ab eI c)]),(1600,1,.row true (ab eI a))],2⟩
attribute [go_sem] tx
attribute [go_sem] Tryz.ntmps15 Tryz.results15
def qe (a:Bool)(b:Int)(c:List GNode)(d:List GTie)(e n:Int):St:=⟨[(1,.lit (.bool a)),(2,.ptr 128 1 0 0),(5,.lit (.int .i64 n)),(6,.lit (.int .i64 b))],[(128,1,.var [.sl (ab GNode.encS c),.sl (ab GTie.enc d),.lit (.int .i64 e)])],2⟩
attribute [go_sem] qe
attribute [go_sem] Tryz.ntmps20 Tryz.results20
def ve (a b:List Int)(i:Int):St:=⟨[(0,.sl (ab eI a)),(1,.sl (ab eI b)),(5,.lit (.int .i64 i))],[],2⟩
attribute [go_sem] ve
@[go_sem] def hi18_6:DT:=.i2 0 (.i2 1 (.i2 2 (.i2 3 (.i2 4 (.i2 5 (.i2 6 (.i2 7 (.i2 8 .nil))))))))
def hi18:Hint where
 acts:=fun _=>[]
 draws:=fun
  | 6=>⟨hi18_6,[[],[],[0,1],[0,1,2],[],[],[4,5],[4,5,6],.range 8],.range 9⟩
  | _=>⟨.nil,[],[]⟩
theorem VH (i:Nat):hi18.acts i=[]:=rfl
theorem VI (i:Nat):hi18.views i=none:=rfl
attribute [go_sem] VH VI Tryz.ntmps18 Tryz.results18
@[go_sem] theorem YQ:(hi18.draws 6).order=hi18_6:=rfl
attribute [go_sem] Tryz.ntmps134 Tryz.results134
def uo (a b:List GNode)(i:Int):St:=⟨[(0,.sl (ab GNode.encS a)),(1,.sl (ab GNode.encS b)),(5,.lit (.int .i64 i))],[],2⟩
attribute [go_sem] uo
@[go_sem] def hi64_6:DT:=.i2 0 (.i2 1 (.i2 2 (.i2 3 (.i2 4 (.i2 5 (.i2 6 (.i2 7 (.i2 8 (.i2 9 .nil)))))))))
def hi64:Hint where
 acts:=fun _=>[]
 draws:=fun
  | 6=>⟨hi64_6,[[],[],[0,1],[0,1,2],[],[],[4,5],[4,5,6],.range 8,.range 9],.range 10⟩
  | _=>⟨.nil,[],[]⟩
theorem VJ (i:Nat):hi64.acts i=[]:=rfl
theorem VK (i:Nat):hi64.views i=none:=rfl
attribute [go_sem] VJ VK Tryz.ntmps64 Tryz.results64
@[go_sem] theorem YR:(hi64.draws 6).order=hi64_6:=rfl
attribute [go_sem] Tryz.ntmps135 Tryz.results135
def vf (a b:List GTie)(i:Int):St:=⟨[(0,.sl (ab GTie.enc a)),(1,.sl (ab GTie.enc b)),(5,.lit (.int .i64 i))],[],2⟩
attribute [go_sem] vf
@[go_sem] def hi65_6:DT:=.i2 0 (.i2 1 (.i2 2 (.i2 3 (.i2 4 (.i2 5 (.i2 6 (.i2 7 (.i2 8 (.i2 9 .nil)))))))))
def hi65:Hint where
 acts:=fun _=>[]
 draws:=fun
  | 6=>⟨hi65_6,[[],[],[0,1],[0,1,2],[],[],[4,5],[4,5,6],.range 8,.range 9],.range 10⟩
  | _=>⟨.nil,[],[]⟩
theorem VL (i:Nat):hi65.acts i=[]:=rfl
theorem VM (i:Nat):hi65.views i=none:=rfl
attribute [go_sem] VL VM Tryz.ntmps65 Tryz.results65
@[go_sem] theorem YS:(hi65.draws 6).order=hi65_6:=rfl
attribute [go_sem] Tryz.ntmps16 Tryz.results16
@[go_sem] def hi4_10:DT:=.i1 0 (.i2 1 (.i0 2 [0] (.i2 3 (.i2 4 .nil))))
def hi4:Hint where
 acts:=fun _=>[]
 draws:=fun
  | 10=>⟨hi4_10,[[],[],[1],[0,1,2],[0,1,2,3]],.range 5⟩
  | _=>⟨.nil,[],[]⟩
theorem hi4a (i:Nat):hi4.acts i=[]:=rfl
theorem hi4v (i:Nat):hi4.views i=none:=rfl
attribute [go_sem] hi4a hi4v Tryz.ntmps4 Tryz.results4
@[go_sem] theorem YT:(hi4.draws 10).order=hi4_10:=rfl
attribute [go_sem] Tryz.ntmps236 Tryz.results236
def tz (b:List Int)(c:Int):(Int × (List ByteArray))→St
 | (d,a)=>⟨[(3,.ref 255 1 0 a.length),(6,.sl (ab eI b)),(7,.lit (.int .i64 c)),(8,.lit (.int .i64 d))],[(255,1,.row true (ab eS a))],2⟩
attribute [go_sem] tz
attribute [go_sem] Tryz.ntmps153 Tryz.results153
@[go_sem] def hi77_1:DT:=.i2 0 (.i2 1 (.i1 3 (.i1 4 (.i1 6 (.i1 7 (.i1 9 (.i1 10 (.i0 2 [3,4,6,7,9,10] (.i0 5 [6,7,9,10] (.i0 8 [9,10] (.i2 11 (.i2 12 (.i2 13 (.i2 14 .nil))))))))))))))
def hi77:Hint where
 acts:=fun _=>[]
 draws:=fun
  | 1=>⟨hi77_1,[[],[0],[0,1],[],[3],.range 5,[],[6],.range 8,[],[9],.range 11,.range 12,.range 13,.range 14],.range 15⟩
  | _=>⟨.nil,[],[]⟩
theorem VN (i:Nat):hi77.acts i=[]:=rfl
theorem VO (i:Nat):hi77.views i=none:=rfl
attribute [go_sem] VN VO Tryz.ntmps77 Tryz.results77
@[go_sem] theorem YU:(hi77.draws 1).order=hi77_1:=rfl
end Go.Proofs.Qd
