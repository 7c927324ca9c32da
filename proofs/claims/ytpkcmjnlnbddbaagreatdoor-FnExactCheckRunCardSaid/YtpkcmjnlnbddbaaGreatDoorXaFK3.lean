/- Functions. -/
import Derived.Test.YtpkcmjnlnbddbaaGreatDoorXaFK2
set_option linter.all false
set_option maxRecDepth 100000
set_option maxHeartbeats 4000000
namespace Go.Proofs.Qa
open Go
def pl (i j:List Int):(Int × Int × Bool × (List GNode) × (List GTie) × (List Int) × (List Int) × (List aw))→St
 | (f,g,h,a,b,c,d,e)=>⟨[(3,.ptr 192 1 0 0),(4,.ptr 256 1 0 0),(6,.ptr 384 1 0 0)],[(192,1,.var [.sl (ab eI i),.sl (ab eI j)]),(256,1,.var [.lit (.slice none 0 0),.lit (.slice none 0 0),.lit (.int .i64 0),.lit (.int .i64 0),.lit (.slice none 0 0),.lit (.slice none 0 0),.lit (.bool false),.lit (.slice none 0 0)]),(384,1,.var [.ref 704 1 0 a.length,.ref 705 1 0 b.length,.lit (.int .i64 f),.lit (.int .i64 g),.ref 706 1 0 c.length,.ref 707 1 0 d.length,.lit (.bool h),.ref 708 1 0 e.length]),(704,1,.row true (ab GNode.encO a)),(705,1,.row true (ab GTie.enc b)),(706,1,.row true (ab eI c)),(707,1,.row true (ab eI d)),(708,1,.row true (ab aw.encO e))],2⟩
attribute [go_sem] pl
@[go_sem] def hi27_4:DT:=.i1 0 (.i1 1 (.i1 2 (.i1 3 (.i1 4 (.i1 5 (.i1 7 (.i1 8 (.fork (.i0 6 [0,7,8] (.fork (.i2 9 (.i2 10 (.i2 11 (.i2 12 (.i2 13 (.i0 14 [0,1,2,3,4,5,7,8] (.i2 15 (.i2 16 (.i2 17 .nil))))))))) (.i0 14 [0,1,2,3,4,5,7,8] (.i2 9 (.i2 10 (.i2 11 (.i2 12 (.i2 13 (.i2 15 (.i2 16 (.i2 17 .nil))))))))))) (.i0 14 [0,1,2,3,4,5,7,8] (.i0 6 [0,7,8] (.i2 9 (.i2 10 (.i2 11 (.i2 12 (.i2 13 (.i2 15 (.i2 16 (.i2 17 .nil))))))))))))))))))
def hi27:Hint where
 acts:=fun _=>[]
 draws:=fun
  | 4=>⟨hi27_4,[[],[],[1],[],[3],[],[1,2,3,4,5],[],[7],.range 9,.range 10,.range 11,.range 11,.range 11,[],[0,1,2,3,4,5,6,7,8,9,10,11,14],[0,1,2,3,4,5,6,7,8,9,10,11,12,14,15],.range 17],[0,1,2,3,4,5,6,7,8,9,10,11,14,16,12,13,15,17]⟩
  | _=>⟨.nil,[],[]⟩
theorem Ms (i:Nat):hi27.acts i=[]:=rfl
theorem Mt (i:Nat):hi27.views i=none:=rfl
attribute [go_sem] Ms Mt Tryz.ntmps27 Tryz.results27
@[go_sem] theorem Po:(hi27.draws 4).order=hi27_4:=rfl
attribute [go_sem] Tryz.ntmps99 Tryz.results99
attribute [go_sem] Tryz.ntmps36 Tryz.results36
attribute [go_sem] Tryz.ntmps59 Tryz.results59
theorem mR {s:GShow}{v1:GChoice}{res:Bool}(h:dY s v1=some res):ar Tryz.prog 59 [.agg (GShow.encS s),.agg [.sl (ab eI v1.lengths),.sl (ab eI v1.values)]] [] (.lit (.bool res)) []:=by
 refine am (ra:=[]) (md:=mdT) hT (hi:=hi00) Tryz.func59 rfl rfl (by decide +kernel) (by simp) ?_
 unfold dY at h
 obtain ⟨r01,g1,h⟩:=ae h
 simp(config:=cS)only[go_sem]
 refine ah (yO g1) ?_
 obtain ⟨h2,h⟩|⟨h2,h⟩:=af h
 ·obtain ⟨r02,g3,h⟩:=ae h
  simp(config:=cS)only[go_sem,eZt h2]
  refine ah (vW g3) ?_
  cases h
  simp(config:=cS)only[go_sem]
 ·cases h
  simp(config:=cS)only[go_sem,eZf h2]
@[go_sem] def hi61_1:DT:=.i2 0 (.i2 1 (.i2 2 (.i2 3 (.i2 4 (.i2 5 (.i2 6 (.i2 7 (.i2 8 (.i2 9 (.i2 10 .nil))))))))))
def hi61:Hint where
 acts:=fun _=>[]
 draws:=fun
  | 1=>⟨hi61_1,[[],[0],[],[0,1,2],[0,1,2,3],.range 5,[],[6],.range 8,.range 9,.range 10],.range 11⟩
  | _=>⟨.nil,[],[]⟩
theorem Mu (i:Nat):hi61.acts i=[]:=rfl
theorem Mv (i:Nat):hi61.views i=none:=rfl
attribute [go_sem] Mu Mv Tryz.ntmps61 Tryz.results61
@[go_sem] theorem Pp:(hi61.draws 1).order=hi61_1:=rfl
theorem eQ {s:GShow}{v1:GChoice}{node:Int}{res:Bool}(h:bN s v1 node=some res):ar Tryz.prog 61 [.agg (GShow.encS s),.agg [.sl (ab eI v1.lengths),.sl (ab eI v1.values)],.lit (.int .i64 node)] [] (.lit (.bool res)) []:=by
 refine am (ra:=[]) (md:=mdT) hT (hi:=hi61) Tryz.func61 rfl rfl (by decide +kernel) (by simp) ?_
 unfold bN at h
 obtain ⟨x01,g1,h⟩:=ae h
 obtain ⟨h2,h3,h4⟩:=ao g1
 obtain ⟨r02,g5,h⟩:=ae h
 simp(config:=cS)only[go_sem,h2,h3,h4]
 refine ah (si g5) ?_
 cases h
 simp(config:=cS)only[go_sem]
attribute [go_sem] Tryz.ntmps203 Tryz.results203
theorem eh {from_ to low high:Int}{reason:ByteArray}{out:ai}{reasons:List ByteArray}{res:ai × (List ByteArray)}(h:bw from_ to low high reason out reasons=some res):ar Tryz.prog 203 [.lit (.int .i64 from_),.lit (.int .i64 to),.lit (.int .i64 low),.lit (.int .i64 high),.lit (.string reason),.ptr 10000 0 0 0,.ptr 10002 0 0 0] [(10000,0,.var [.lit (.int .i64 out.events),.ref 10001 0 0 out.links.length]),(10001,0,.row true (ab GLink.enc out.links)),(10002,0,.var [.ref 10003 0 0 reasons.length]),(10003,0,.row true (ab eS reasons))] (.tup []) [(10000,0,.var [.lit (.int .i64 res.1.events),.ref 20000 1 0 res.1.links.length]),(10002,0,.var [.ref 20001 1 0 res.2.length]),(20000,1,.row true (ab GLink.enc res.1.links)),(20001,1,.row true (ab eS res.2))]:=by
 refine am (ra:=[]) (md:=mdT) hT (hi:=hi00) Tryz.func203 rfl rfl (by decide +kernel) (by simp) ?_
 unfold bw at h
 obtain ⟨h1,h⟩:=aM h
 obtain ⟨h2,h⟩:=aM h
 obtain ⟨h3,h⟩:=aM h
 obtain ⟨h4,h⟩:=aM h
 cases h
 simp(config:=cS)only[go_sem,eqT h1,eqT h2,eqT h3,eqT h4]
attribute [go_sem] Tryz.ntmps110 Tryz.results110
theorem gu {n:Int}{res:ByteArray}(h:bZ n=some res):ar Tryz.prog 110 [.lit (.int .i64 n)] [] (.lit (.string res)) []:=by
 refine am (ra:=[]) (md:=mdT) hT (hi:=hi00) Tryz.func110 rfl rfl (by decide +kernel) (by simp) ?_
 unfold bZ at h
 obtain ⟨r01,g1,h⟩:=ae h
 simp(config:=cS)only[go_sem]
 refine ah (xZ g1) ?_
 cases h
 simp(config:=cS)only[go_sem]
attribute [go_sem] Tryz.ntmps109 Tryz.results109
theorem tG {l:List ByteArray}{by_ res:ByteArray}(h:fL l by_=some res):ar Tryz.prog 109 [.sl (ab eS l),.lit (.string by_)] [] (.lit (.string res)) []:=by
 refine am (ra:=[]) (md:=mdT) hT (hi:=hi00) Tryz.func109 rfl rfl (by decide +kernel) (by simp) ?_
 unfold fL at h
 obtain ⟨r01,g1,h⟩:=ae h
 simp(config:=cS)only[go_sem]
 refine ah (ya g1) ?_
 cases h
 simp(config:=cS)only[go_sem]
@[go_sem] def hi204_5:DT:=.i2 0 (.i1 1 (.i1 2 (.i1 3 (.i1 4 (.i1 5 (.i1 6 (.i1 7 (.i1 8 (.i1 9 (.i1 10 (.i1 11 (.i1 12 (.i1 13 (.i1 14 (.i2 15 (.i2 16 (.i1 18 (.i1 19 (.i0 17 [1,2,3,4,5,6,7,8,9,10,11,12,13,14,18,19] (.i0 20 [1,2,3,4,5,6,7,8,9,10,11,12,13,14] (.i2 21 (.i2 22 (.i2 23 .nil)))))))))))))))))))))))
def zT:Hint where
 acts:=fun _=>[]
 draws:=fun
  | 5=>⟨hi204_5,[[],[],[1],[],[3],[1,2,3,4],[1,2,3,4,5],[1,2,3,4,5,6],[],[8],[],[10],[8,9,10,11],[8,9,10,11,12],[8,9,10,11,12,13],[],[15],[15,16],[],[18],[15,16,17,18,19],.range 21,.range 22,.range 23],.range 24⟩
  | _=>⟨.nil,[],[]⟩
theorem KW (i:Nat):zT.acts i=[]:=rfl
theorem KX (i:Nat):zT.views i=none:=rfl
attribute [go_sem] KW KX Tryz.ntmps204 Tryz.results204
@[go_sem] theorem OD:(zT.draws 5).order=hi204_5:=rfl
theorem om {s:GShow}{i:Int}{res:ByteArray}(h:eT s i=some res):ar Tryz.prog 204 [.agg (GShow.encS s),.lit (.int .i64 i)] [] (.lit (.string res)) []:=by
 refine am (ra:=[]) (md:=mdT) hT (hi:=zT) Tryz.func204 rfl rfl (by decide +kernel) (by simp) ?_
 unfold eT at h
 obtain ⟨x01,g1,h⟩:=ae h
 obtain ⟨h2,h3,h4⟩:=ao g1
 obtain ⟨h5,h⟩|⟨h5,h⟩:=af h
 ·obtain ⟨x02,g6,h⟩:=ae h
  obtain ⟨h7,h8,h9⟩:=ao g6
  obtain ⟨x03,g10,h⟩:=ae h
  obtain ⟨h11,h12,h13⟩:=ao g10
  obtain ⟨r04,g14,h⟩:=ae h
  simp(config:=cS)only[go_sem,h2,h3,h4,eZt h5,h7,h8,h9,h11,h12,h13]
  refine ah (gu g14) ?_
  obtain ⟨r05,g15,h⟩:=ae h
  simp(config:=cS)only[go_sem]
  refine ah (gu g15) ?_
  obtain ⟨r06,g16,h⟩:=ae h
  simp(config:=cS)only[go_sem]
  refine ah (tG g16) ?_
  cases h
  simp(config:=cS)only[go_sem]
 ·obtain ⟨x07,g17,h⟩:=ae h
  obtain ⟨h18,h19,h20⟩:=ao g17
  obtain ⟨x08,g21,h⟩:=ae h
  obtain ⟨h22,h23,h24⟩:=ao g21
  obtain ⟨r09,g25,h⟩:=ae h
  simp(config:=cS)only[go_sem,h2,h3,h4,eZf h5,h18,h19,h20,h22,h23,h24]
  refine ah (gu g25) ?_
  obtain ⟨r10,g26,h⟩:=ae h
  simp(config:=cS)only[go_sem]
  refine ah (gu g26) ?_
  obtain ⟨r11,g27,h⟩:=ae h
  simp(config:=cS)only[go_sem]
  refine ah (tG g27) ?_
  cases h
  simp(config:=cS)only[go_sem]
def jU (d:List GNode)(g:Int)(h:List GTie)(i:Int)(e f:List Int):(Int × Int × (List GLink) × (List ByteArray))→St
 | (j,c,a,b)=>⟨[(2,.ptr 128 1 0 0),(3,.ptr 192 1 0 0),(4,.ptr 256 1 0 0),(6,.ptr 384 1 0 0),(7,.ptr 448 1 0 0),(8,.fn 203 [.ptr 384 1 0 0,.ptr 448 1 0 0]),(28,.sl (ab GNode.encS d)),(29,.lit (.int .i64 g)),(30,.lit (.int .i64 j))],[(128,1,.var [.sl (ab GNode.encS d),.sl (ab GTie.enc h),.lit (.int .i64 i)]),(192,1,.var [.sl (ab eI e),.sl (ab eI f)]),(256,1,.var [.lit (.int .i64 0),.lit (.slice none 0 0)]),(384,1,.var [.lit (.int .i64 c),.ref 100024577 1 0 a.length]),(100024577,1,.row true (ab GLink.enc a)),(448,1,.var [.ref 100028672 1 0 b.length]),(100028672,1,.row true (ab eS b))],2⟩
attribute [go_sem] jU
def jV (e:List GTie)(h:Int)(i:List GNode)(j:Int)(f g c:List Int):(Int × Int × (List GLink) × (List ByteArray))→St
 | (k,d,a,b)=>⟨[(2,.ptr 128 1 0 0),(3,.ptr 192 1 0 0),(4,.ptr 256 1 0 0),(6,.ptr 384 1 0 0),(7,.ptr 448 1 0 0),(8,.fn 203 [.ptr 384 1 0 0,.ptr 448 1 0 0]),(11,.ref 3136 1 0 c.length),(51,.sl (ab GTie.enc e)),(52,.lit (.int .i64 h)),(53,.lit (.int .i64 k))],[(128,1,.var [.sl (ab GNode.encS i),.sl (ab GTie.enc e),.lit (.int .i64 j)]),(192,1,.var [.sl (ab eI f),.sl (ab eI g)]),(256,1,.var [.lit (.int .i64 0),.lit (.slice none 0 0)]),(384,1,.var [.lit (.int .i64 d),.ref 100024577 1 0 a.length]),(100024577,1,.row true (ab GLink.enc a)),(448,1,.var [.ref 100028672 1 0 b.length]),(100028672,1,.row true (ab eS b)),(3136,1,.row true (ab eI c))],2⟩
attribute [go_sem] jV
def jW (d:Int)(h:List GNode)(i:List GTie)(j:Int)(e f:List Int):(Int × Int × (List GLink) × (List ByteArray))→St
 | (g,c,a,b)=>⟨[(2,.ptr 128 1 0 0),(3,.ptr 192 1 0 0),(4,.ptr 256 1 0 0),(6,.ptr 384 1 0 0),(7,.ptr 448 1 0 0),(8,.fn 203 [.ptr 384 1 0 0,.ptr 448 1 0 0]),(100,.lit (.int .i64 d)),(101,.lit (.int .i64 g))],[(128,1,.var [.sl (ab GNode.encS h),.sl (ab GTie.enc i),.lit (.int .i64 j)]),(192,1,.var [.sl (ab eI e),.sl (ab eI f)]),(256,1,.var [.lit (.int .i64 0),.lit (.slice none 0 0)]),(384,1,.var [.lit (.int .i64 c),.ref 100024577 1 0 a.length]),(100024577,1,.row true (ab GLink.enc a)),(448,1,.var [.ref 100028672 1 0 b.length]),(100028672,1,.row true (ab eS b))],2⟩
attribute [go_sem] jW
def jX (i:Int)(c:List GNode)(f:Int)(d:List Int)(g:Int)(l:List GTie)(m:Int)(h j:List Int)(n:ByteArray)(o:Int):(Int × Int × (List GLink) × (List ByteArray))→St
 | (k,e,a,b)=>⟨[(2,.ptr 128 1 0 0),(3,.ptr 192 1 0 0),(4,.ptr 256 1 0 0),(6,.ptr 384 1 0 0),(7,.ptr 448 1 0 0),(8,.fn 203 [.ptr 384 1 0 0,.ptr 448 1 0 0]),(17,.lit (.int .i64 i)),(18,.ptr 1152 1 0 0),(114,.sl (ab GNode.encS c)),(115,.lit (.int .i64 f)),(116,.lit (.int .i64 i)),(122,.sl (ab eI d)),(123,.lit (.int .i64 g)),(124,.lit (.int .i64 k))],[(128,1,.var [.sl (ab GNode.encS c),.sl (ab GTie.enc l),.lit (.int .i64 m)]),(192,1,.var [.sl (ab eI h),.sl (ab eI j)]),(256,1,.var [.lit (.int .i64 0),.lit (.slice none 0 0)]),(384,1,.var [.lit (.int .i64 e),.ref 100024577 1 0 a.length]),(100024577,1,.row true (ab GLink.enc a)),(448,1,.var [.ref 100028672 1 0 b.length]),(100028672,1,.row true (ab eS b)),(1152,1,.var [.lit (.string n),.sl (ab eI d),.lit (.int .i64 o)])],2⟩
attribute [go_sem] jX
def jY (c:List GNode)(e:Int)(i:List GTie)(j:Int)(f g:List Int):(Int × Int × (List GLink) × (List ByteArray))→St
 | (h,d,a,b)=>⟨[(2,.ptr 128 1 0 0),(3,.ptr 192 1 0 0),(4,.ptr 256 1 0 0),(6,.ptr 384 1 0 0),(7,.ptr 448 1 0 0),(8,.fn 203 [.ptr 384 1 0 0,.ptr 448 1 0 0]),(114,.sl (ab GNode.encS c)),(115,.lit (.int .i64 e)),(116,.lit (.int .i64 h))],[(128,1,.var [.sl (ab GNode.encS c),.sl (ab GTie.enc i),.lit (.int .i64 j)]),(192,1,.var [.sl (ab eI f),.sl (ab eI g)]),(256,1,.var [.lit (.int .i64 0),.lit (.slice none 0 0)]),(384,1,.var [.lit (.int .i64 d),.ref 100024577 1 0 a.length]),(100024577,1,.row true (ab GLink.enc a)),(448,1,.var [.ref 100028672 1 0 b.length]),(100028672,1,.row true (ab eS b))],2⟩
attribute [go_sem] jY
@[go_sem] def hi130_38:DT:=.i2 0 (.i1 1 (.i0 2 [1] (.i2 3 .nil)))
@[go_sem] def hi130_35:DT:=.i2 0 (.i2 1 (.i2 2 (.i2 3 (.i2 4 (.i2 5 (.i2 6 (.i2 7 (.i2 8 (.i2 9 (.i2 10 (.i2 11 (.i2 12 (.i2 13 (.i2 14 .nil))))))))))))))
@[go_sem] def hi130_34:DT:=.i1 0 (.i2 1 (.i0 2 [0] (.i2 3 (.i2 4 .nil))))
@[go_sem] def hi130_19:DT:=.i2 0 (.i1 1 (.i1 2 (.i1 3 (.i1 4 (.i2 5 (.i2 6 (.i2 7 (.i2 8 (.i0 9 [1,2,3,4] (.i2 10 .nil))))))))))
@[go_sem] def hi130_17:DT:=.i1 0 (.i1 1 (.i2 2 (.i2 3 (.i0 4 [0,1] (.i2 5 (.i2 6 (.i2 7 .nil)))))))
@[go_sem] def hi130_15:DT:=.i2 0 (.i2 1 (.i2 2 (.i2 3 (.i2 4 (.i2 5 .nil)))))
def aQ:Hint where
 acts:=fun i=>match i with | 8=>[.homeCell 384 1,.homeCell 448 0] | _=>[]
 draws:=fun
  | 15=>⟨hi130_15,[[],[0],[],[2],[0,1],.range 5],[0,1,3,4,2,5]⟩
  | 17=>⟨hi130_17,[[],[0],[],[],[2,3],.range 5,.range 6,.range 7],.range 8⟩
  | 19=>⟨hi130_19,[[],[],[1],[],[3],[],[],[],[],[7,8],.range 10],.range 11⟩
  | 34=>⟨hi130_34,[[],[],[1],[0,1,2],[0,1,2,3]],.range 5⟩
  | 35=>⟨hi130_35,[[],[],[],[],[3],[],[3,4,5],[3,4,5,6],[3,4,5,6,7],[3,4,5,6,7,8],[3,4,5,6,7,8,9],[],[11],[3,4,5,6,7,8,9,10,11,12],.range 14],.range 15⟩
  | 38=>⟨hi130_38,[[],[],[0],[0,1,2]],[0,2,1,3]⟩
  | _=>⟨.nil,[],[]⟩
@[go_sem] theorem OE:aQ.acts 0=[]:=rfl
@[go_sem] theorem OF:aQ.acts 1=[]:=rfl
@[go_sem] theorem OG:aQ.acts 2=[]:=rfl
@[go_sem] theorem OH:aQ.acts 3=[]:=rfl
@[go_sem] theorem OI:aQ.acts 4=[]:=rfl
@[go_sem] theorem OJ:aQ.acts 5=[]:=rfl
@[go_sem] theorem OK:aQ.acts 6=[]:=rfl
@[go_sem] theorem OL:aQ.acts 7=[]:=rfl
@[go_sem] theorem OM:aQ.acts 8=[.homeCell 384 1,.homeCell 448 0]:=rfl
@[go_sem] theorem ON:aQ.acts 9=[]:=rfl
@[go_sem] theorem Nc:aQ.acts 10=[]:=rfl
@[go_sem] theorem Nd:aQ.acts 11=[]:=rfl
@[go_sem] theorem Nf:aQ.acts 12=[]:=rfl
@[go_sem] theorem Ng:aQ.acts 13=[]:=rfl
@[go_sem] theorem Nh:aQ.acts 14=[]:=rfl
@[go_sem] theorem Ni:aQ.acts 15=[]:=rfl
@[go_sem] theorem Nj:aQ.acts 16=[]:=rfl
@[go_sem] theorem Nk:aQ.acts 17=[]:=rfl
@[go_sem] theorem Nl:aQ.acts 18=[]:=rfl
@[go_sem] theorem Nm:aQ.acts 19=[]:=rfl
@[go_sem] theorem Nn:aQ.acts 20=[]:=rfl
@[go_sem] theorem No:aQ.acts 21=[]:=rfl
@[go_sem] theorem Np:aQ.acts 22=[]:=rfl
@[go_sem] theorem Nq:aQ.acts 23=[]:=rfl
@[go_sem] theorem Nr:aQ.acts 24=[]:=rfl
@[go_sem] theorem Ns:aQ.acts 25=[]:=rfl
@[go_sem] theorem Nt:aQ.acts 26=[]:=rfl
@[go_sem] theorem Nu:aQ.acts 27=[]:=rfl
@[go_sem] theorem Nv:aQ.acts 28=[]:=rfl
@[go_sem] theorem Nw:aQ.acts 29=[]:=rfl
@[go_sem] theorem Nx:aQ.acts 30=[]:=rfl
@[go_sem] theorem Ny:aQ.acts 31=[]:=rfl
@[go_sem] theorem Nz:aQ.acts 32=[]:=rfl
@[go_sem] theorem NA:aQ.acts 33=[]:=rfl
@[go_sem] theorem NB:aQ.acts 34=[]:=rfl
@[go_sem] theorem NC:aQ.acts 35=[]:=rfl
@[go_sem] theorem ND:aQ.acts 36=[]:=rfl
@[go_sem] theorem NE:aQ.acts 37=[]:=rfl
@[go_sem] theorem NF:aQ.acts 38=[]:=rfl
theorem KY (i:Nat):aQ.views i=none:=rfl
attribute [go_sem] KY Tryz.ntmps130 Tryz.results130
@[go_sem] theorem NG:(aQ.draws 15).order=hi130_15:=rfl
@[go_sem] theorem NH:(aQ.draws 17).order=hi130_17:=rfl
@[go_sem] theorem NI:(aQ.draws 19).order=hi130_19:=rfl
@[go_sem] theorem NJ:(aQ.draws 34).order=hi130_34:=rfl
@[go_sem] theorem NK:(aQ.draws 35).order=hi130_35:=rfl
@[go_sem] theorem NL:(aQ.draws 38).order=hi130_38:=rfl
theorem xp {s:GShow}{v1:GChoice}{res:ai × (List ByteArray)}(h:gh s v1=some res):ar Tryz.prog 130 [.agg (GShow.encS s),.agg [.sl (ab eI v1.lengths),.sl (ab eI v1.values)]] [] (.tup [.agg [.lit (.int .i64 res.1.events),.ref 20000 1 0 res.1.links.length],.ref 20001 1 0 res.2.length]) [(20000,1,.row true (ab GLink.enc res.1.links)),(20001,1,.row true (ab eS res.2))]:=by
 refine am (ra:=[.homeCell 256 1,.home 5]) (md:=mdT) hT (hi:=aQ) Tryz.func130 rfl rfl (by decide +kernel) (by simp) ?_
 unfold gh at h
 obtain ⟨q27,l1,h⟩:=ae h
 simp(config:=cS)only[go_sem]
 refine ay (m1:=.mk) (m2:=.mk) [.homeCell 384 1,.homeCell 448 0,.nfp [2,3,4,6,7,8,28,29,30] [(128,128),(192,192),(256,256),(384,384),(2944,100024577),(100024577,100024577),(448,448),(2945,100028672),(100028672,100028672)] []] (jU s.nodes ((s.nodes.length:Nat):Int) s.ties s.horizon v1.lengths v1.values) l1 ?_ ?_
 ·simp(config:=cS)only[go_sem]
 ·intro nb2 sb2 bb2 b2 gb2
  obtain ⟨v30_1,out_0_1,h100024577_1,h100028672_1⟩:=sb2
  unfold eu at b2
  try dsimp only at b2
  obtain ⟨h3,b2⟩|⟨h3,b2⟩:=af b2
  ·obtain ⟨x01,g4,b2⟩:=ae b2
   obtain ⟨h5,h6,h7⟩:=ao g4
   obtain ⟨r02,g8,b2⟩:=ae b2
   simp(config:=cS)only[go_sem,eqT h3,h5,h6,h7]
   refine ah (eQ g8) ?_
   obtain ⟨h9,b2⟩|⟨h9,b2⟩:=af b2
   ·obtain ⟨h10,b2⟩:=aM b2
    obtain ⟨r03,g11,b2⟩:=ae b2
    simp(config:=cS)only[go_sem,eZt h9,eqT h10]
    refine ah (eh g11) ?_
    cases b2
    simp(config:=cS)only[go_sem]
    refine az gb2 ?_
    simp(config:=cS)only[go_sem]
   ·cases b2
    simp(config:=cS)only[go_sem,eZf h9]
    refine az gb2 ?_
    simp(config:=cS)only[go_sem]
  ·cases b2
   obtain rfl:=(ak gb2).symm
   try dsimp only at h
   obtain ⟨r04,g13,h⟩:=ae h
   simp(config:=cS)only[go_sem,eqF h3]
   refine ah (mQ g13) ?_
   obtain ⟨q26,l14,h⟩:=ae h
   simp(config:=cS)only[go_sem]
   refine ay (m1:=.mk) (m2:=.mk) [.nfp [2,3,4,6,7,8,11,51,52,53] [(128,128),(192,192),(256,256),(384,384),(6144,100024577),(100024577,100024577),(448,448),(6145,100028672),(100028672,100028672),(3136,3136)] []] (jV s.ties ((s.ties.length:Nat):Int) s.nodes s.horizon v1.lengths v1.values r04) l14 ?_ ?_
   ·simp(config:=cS)only[go_sem]
   ·intro nb15 sb15 bb15 b15 gb15
    obtain ⟨v53_2,out_0_2,h100024577_2,h100028672_2⟩:=sb15
    unfold ev at b15
    try dsimp only at b15
    obtain ⟨h16,b15⟩|⟨h16,b15⟩:=af b15
    ·obtain ⟨x05,g17,b15⟩:=ae b15
     obtain ⟨h18,h19,h20⟩:=ao g17
     obtain ⟨r06,g21,b15⟩:=ae b15
     simp(config:=cS)only[go_sem,eqT h16,h18,h19,h20]
     refine ah (eQ g21) ?_
     obtain ⟨h22,b15⟩|⟨h22,b15⟩:=af b15
     ·obtain ⟨r07,g23,b15⟩:=ae b15
      simp(config:=cS)only[go_sem,eZt h22]
      refine ah (eQ g23) ?_
      obtain ⟨h24,b15⟩|⟨h24,b15⟩:=af b15
      ·obtain ⟨h25,b15⟩|⟨h25,b15⟩:=af b15
       ·obtain ⟨r08,g26,b15⟩:=ae b15
        simp(config:=cS)only[go_sem,eZt h24,eZt h25]
        refine ah (kY g26) ?_
        obtain ⟨x09,g27,b15⟩:=ae b15
        obtain ⟨h28,h29,h30⟩:=ao g27
        obtain ⟨r10,g31,b15⟩:=ae b15
        simp(config:=cS)only[go_sem,h28,h29,h30]
        refine ah (om g31) ?_
        obtain ⟨r11,g32,b15⟩:=ae b15
        simp(config:=cS)only[go_sem]
        refine ah (eh g32) ?_
        cases b15
        simp(config:=cS)only[go_sem]
        refine az gb15 ?_
        simp(config:=cS)only[go_sem]
       ·obtain ⟨r12,g33,b15⟩:=ae b15
        simp(config:=cS)only[go_sem,eZt h24,eZf h25]
        refine ah (om g33) ?_
        obtain ⟨r13,g34,b15⟩:=ae b15
        simp(config:=cS)only[go_sem]
        refine ah (eh g34) ?_
        cases b15
        simp(config:=cS)only[go_sem]
        refine az gb15 ?_
        simp(config:=cS)only[go_sem]
      ·cases b15
       simp(config:=cS)only[go_sem,eZf h24]
       refine az gb15 ?_
       simp(config:=cS)only[go_sem]
     ·cases b15
      simp(config:=cS)only[go_sem,eZf h22]
      refine az gb15 ?_
      simp(config:=cS)only[go_sem]
    ·cases b15
     obtain rfl:=(ak gb15).symm
     try dsimp only at h
     obtain ⟨q25,l36,h⟩:=ae h
     simp(config:=cS)only[go_sem,eqF h16]
     refine ay (m1:=.mk) (m2:=.mk) [.nfp [2,3,4,6,7,8,100,101] [(128,128),(192,192),(256,256),(384,384),(7104,100024577),(100024577,100024577),(448,448),(7105,100028672),(100028672,100028672)] []] (jW ((s.nodes.length:Nat):Int) s.nodes s.ties s.horizon v1.lengths v1.values) l36 ?_ ?_
     ·simp(config:=cS)only[go_sem]
     ·intro nb37 sb37 bb37 b37 gb37
      obtain ⟨v101_3,out_0_3,h100024577_3,h100028672_3⟩:=sb37
      unfold ew at b37
      try dsimp only at b37
      obtain ⟨h38,b37⟩|⟨h38,b37⟩:=af b37
      ·obtain ⟨r14,g39,b37⟩:=ae b37
       simp(config:=cS)only[go_sem,eqT h38]
       refine ah (eQ g39) ?_
       obtain ⟨h40,b37⟩|⟨h40,b37⟩:=af b37
       ·cases b37
        simp(config:=cS)only[go_sem,eZt h40]
        refine az gb37 ?_
        simp(config:=cS)only[go_sem]
       ·obtain ⟨r15,g41,b37⟩:=ae b37
        simp(config:=cS)only[go_sem,eZf h40]
        refine ah (eh g41) ?_
        cases b37
        simp(config:=cS)only[go_sem]
        refine az gb37 ?_
        simp(config:=cS)only[go_sem]
      ·cases b37
       obtain rfl:=(ak gb37).symm
       try dsimp only at h
       obtain ⟨q24,l43,h⟩:=ae h
       simp(config:=cS)only[go_sem,eqF h38]
       refine ay (m1:=.mk) (m2:=.mk) [.nf [2,3,4,6,7,8,114,115,116] [128,192,256,384,100024577,448,100028672]] (jY s.nodes ((s.nodes.length:Nat):Int) s.ties s.horizon v1.lengths v1.values) l43 ?_ ?_
       ·simp(config:=cS)only[go_sem]
       ·intro nb44 sb44 bb44 b44 gb44
        obtain ⟨v116_4,out_0_4,h100024577_4,h100028672_4⟩:=sb44
        unfold ey at b44
        try dsimp only at b44
        obtain ⟨h45,b44⟩|⟨h45,b44⟩:=af b44
        ·obtain ⟨x16,g46,b44⟩:=ae b44
         obtain ⟨h47,h48,h49⟩:=ao g46
         obtain ⟨q23,l50,b44⟩:=ae b44
         simp(config:=cS)only[go_sem,eqT h45,h47,h48,h49]
         refine ay (m1:=.mk) (m2:=.mk) [.nfp [2,3,4,6,7,8,17,18,114,115,116,122,123,124] [(128,128),(192,192),(256,256),(384,384),(9600,100024577),(100024577,100024577),(448,448),(9601,100028672),(100028672,100028672),(1152,1152)] []] (jX v116_4 s.nodes ((s.nodes.length:Nat):Int) x16.label ((x16.label.length:Nat):Int) s.ties s.horizon v1.lengths v1.values x16.name x16.watch) l50 ?_ ?_
         ·simp(config:=cS)only[go_sem]
         ·intro nb51 sb51 bb51 b51 gb51
          obtain ⟨v124_5,out_0_5,h100024577_5,h100028672_5⟩:=sb51
          unfold ex at b51
          try dsimp only at b51
          obtain ⟨h52,b51⟩|⟨h52,b51⟩:=af b51
          ·obtain ⟨x17,g53,b51⟩:=ae b51
           obtain ⟨h54,h55,h56⟩:=ao g53
           obtain ⟨r18,g57,b51⟩:=ae b51
           simp(config:=cS)only[go_sem,eqT h52,h54,h55,h56]
           refine ah (eQ g57) ?_
           obtain ⟨h58,b51⟩|⟨h58,b51⟩:=af b51
           ·obtain ⟨r19,g59,b51⟩:=ae b51
            simp(config:=cS)only[go_sem,eZt h58]
            refine ah (gB g59) ?_
            obtain ⟨r20,g60,b51⟩:=ae b51
            simp(config:=cS)only[go_sem]
            refine ah (iv g60) ?_
            obtain ⟨x21,g61,b51⟩:=ae b51
            obtain ⟨h62,h63,h64⟩:=ao g61
            obtain ⟨h65,b51⟩:=aM b51
            obtain ⟨h66,b51⟩:=aM b51
            try simp(config:=cS)only[go_sem] at h66
            obtain ⟨h67,b51⟩:=aM b51
            try simp(config:=cS)only[go_sem] at h67
            obtain ⟨r22,g68,b51⟩:=ae b51
            simp(config:=cS)only[go_sem,eqF h3,eqF h16,eqF h38,eqT h45,h47,h48,h49,eqT h52,h54,h55,h56,eZt h58,h62,h63,h64,eqT h65,eqT h66,eqT h67]
            refine ah (eh g68) ?_
            cases b51
            simp(config:=cS)only[go_sem]
            refine az gb51 ?_
            simp(config:=cS)only[go_sem]
           ·cases b51
            simp(config:=cS)only[go_sem,eZf h58]
            refine az gb51 ?_
            simp(config:=cS)only[go_sem]
          ·cases b51
           obtain rfl:=(ak gb51).symm
           try dsimp only at b44
           cases b44
           simp(config:=cS)only[go_sem,eqF h52]
           refine az gb44 ?_
           simp(config:=cS)only[go_sem]
        ·cases b44
         obtain rfl:=(ak gb44).symm
         try dsimp only at h
         cases h
         simp(config:=cS)only[go_sem,eqF h45]
def fN (c:List GLink)(a:Nat)(b:List AV)(d e:Int):St:=⟨[(0,.sl (ab GLink.enc c)),(1,.fn a b),(7,.lit (.int .i64 d)),(8,.lit (.int .i64 e))],[],2⟩
attribute [go_sem] fN
attribute [go_sem] Tryz.ntmps209 Tryz.results209
theorem iG {v0:List GLink}{v1:GLink→Option Bool}{f_v1:Nat}{k_v1:List AV}(hp_v1:∀ y0 r,v1 y0=some r→ar Tryz.prog f_v1 ([.agg (GLink.enc y0)]++k_v1) [] (.lit (.bool r)) [])(hc_v1:KC k_v1)(hm_v1:∀ a,mdT f_v1 a=⟨[],false⟩)(hk_v1:spf f_v1=false){res:Int}(h:bG v0 v1=some res):ar Tryz.prog 209 [.sl (ab GLink.enc v0),.fn f_v1 k_v1] [] (.lit (.int .i64 res)) []:=by
 refine am (ra:=[]) (md:=mdT) hT (hi:=hi00) Tryz.func209 rfl rfl (by decide +kernel) (by simp) ?_
 unfold bG at h
 obtain ⟨q03,l1,h⟩:=ae h
 simp(config:=cS)only[go_sem,hc_v1.1,hc_v1.2,hm_v1,hk_v1]
 refine ay (m1:=.mk) (m2:=.mk) [.nf [0,1,7,8] []] (fN v0 f_v1 k_v1 ((v0.length:Nat):Int)) l1 ?_ ?_
 ·simp(config:=cS)only[go_sem]
 ·intro nb2 v8_1 bb2 b2 gb2
  unfold bn at b2
  try dsimp only at b2
  obtain ⟨h3,b2⟩|⟨h3,b2⟩:=af b2
  ·obtain ⟨x01,g4,b2⟩:=ae b2
   obtain ⟨h5,h6,h7⟩:=ao g4
   obtain ⟨r02,g8,b2⟩:=ae b2
   simp(config:=cS)only[go_sem,eqT h3,h5,h6,h7]
   refine ah (hp_v1 _ _ g8) ?_
   obtain ⟨h9,b2⟩|⟨h9,b2⟩:=af b2
   ·cases b2
    obtain rfl:=(ak gb2).symm
    try dsimp only at h
    cases h
    simp(config:=cS)only[go_sem,eZt h9]
   ·cases b2
    simp(config:=cS)only[go_sem,eZf h9]
    refine az gb2 ?_
    simp(config:=cS)only[go_sem]
  ·cases b2
   obtain rfl:=(ak gb2).symm
   try dsimp only at h
   cases h
   simp(config:=cS)only[go_sem,eqF h3]
attribute [go_sem] Tryz.ntmps205 Tryz.results205
theorem ls {v0:List GLink}{v1:GLink→Option Bool}{f_v1:Nat}{k_v1:List AV}(hp_v1:∀ y0 r,v1 y0=some r→ar Tryz.prog f_v1 ([.agg (GLink.enc y0)]++k_v1) [] (.lit (.bool r)) [])(hc_v1:KC k_v1)(hm_v1:∀ a,mdT f_v1 a=⟨[],false⟩)(hk_v1:spf f_v1=false){res:Bool}(h:bJ v0 v1=some res):ar Tryz.prog 205 [.sl (ab GLink.enc v0),.fn f_v1 k_v1] [] (.lit (.bool res)) []:=by
 refine am (ra:=[]) (md:=mdT) hT (hi:=hi00) Tryz.func205 rfl rfl (by decide +kernel) (by simp) ?_
 unfold bJ at h
 obtain ⟨r01,g1,h⟩:=ae h
 simp(config:=cS)only[go_sem,hc_v1.1,hc_v1.2,hm_v1,hk_v1]
 refine ah (iG hp_v1 hc_v1 hm_v1 hk_v1 g1) ?_
 cases h
 simp(config:=cS)only[go_sem]
attribute [go_sem] Tryz.ntmps207 Tryz.results207
theorem lw {i:aB}{res:Bool}(h:dl i=some res):ar Tryz.prog 207 [.agg [.lit (.int .i64 i.low),.lit (.int .i64 i.high)]] [] (.lit (.bool res)) []:=by
 refine am (ra:=[]) (md:=mdT) hT (hi:=hi00) Tryz.func207 rfl rfl (by decide +kernel) (by simp) ?_
 unfold dl at h
 obtain ⟨h1,h⟩|⟨h1,h⟩:=af h
 ·obtain ⟨h2,h⟩|⟨h2,h⟩:=af h
  ·obtain ⟨h3,h⟩|⟨h3,h⟩:=af h
   ·obtain ⟨h4,h⟩|⟨h4,h⟩:=af h
    ·cases h
     simp(config:=cS)only[go_sem,eqT h1,eqT h2,eqT h3,eqT h4]
    ·cases h
     simp(config:=cS)only[go_sem,eqT h1,eqT h2,eqT h3,eqF h4]
   ·cases h
    simp(config:=cS)only[go_sem,eqT h1,eqT h2,eqF h3]
  ·cases h
   simp(config:=cS)only[go_sem,eqT h1,eqF h2]
 ·cases h
  simp(config:=cS)only[go_sem,eqF h1]
attribute [go_sem] Tryz.ntmps206 Tryz.results206
theorem qJ {l:GLink}{s:ai}{res:Bool}(h:dS l s=some res):ar Tryz.prog 206 [.agg (GLink.enc l),.loc [.lit (.int .i64 s.events),.sl (ab GLink.enc s.links)]] [] (.lit (.bool res)) []:=by
 refine am (ra:=[]) (md:=mdT) hT (hi:=hi00) Tryz.func206 rfl rfl (by decide +kernel) (by simp) ?_
 unfold dS at h
 obtain ⟨r01,g1,h⟩:=ae h
 simp(config:=cS)only[go_sem]
 refine ah (iV g1) ?_
 obtain ⟨h2,h⟩|⟨h2,h⟩:=af h
 ·obtain ⟨r02,g3,h⟩:=ae h
  simp(config:=cS)only[go_sem,eZt h2]
  refine ah (iV g3) ?_
  obtain ⟨h4,h⟩|⟨h4,h⟩:=af h
  ·obtain ⟨r03,g5,h⟩:=ae h
   simp(config:=cS)only[go_sem,eZt h4]
   refine ah (lw g5) ?_
   cases h
   simp(config:=cS)only[go_sem]
  ·cases h
   simp(config:=cS)only[go_sem,eZf h4]
 ·cases h
  simp(config:=cS)only[go_sem,eZf h2]
attribute [go_sem] Tryz.ntmps131 Tryz.results131
theorem mS {s:ai}{res:Bool}(h:dZ s=some res):ar Tryz.prog 131 [.agg [.lit (.int .i64 s.events),.sl (ab GLink.enc s.links)]] [] (.lit (.bool res)) []:=by
 refine am (ra:=[]) (md:=mdT) hT (hi:=hi00) Tryz.func131 rfl rfl (by decide +kernel) (by simp) ?_
 unfold dZ at h
 obtain ⟨h1,h⟩|⟨h1,h⟩:=af h
 ·cases h
  simp(config:=cS)only[go_sem,eqT h1]
 ·obtain ⟨h2,h⟩|⟨h2,h⟩:=af h
  ·cases h
   simp(config:=cS)only[go_sem,eqF h1,eqT h2]
  ·obtain ⟨h3,h⟩|⟨h3,h⟩:=af h
   ·cases h
    simp(config:=cS)only[go_sem,eqF h1,eqF h2,eqT h3]
   ·obtain ⟨r01,g4,h⟩:=ae h
    simp(config:=cS)only[go_sem,eqF h1,eqF h2,eqF h3]
    refine ah (ls (by exact fun _ _ hr=>qJ hr) (by refine ⟨fun _=>?_,fun _=>?_⟩ <;> simp only [go_sem]) (fun _=>rfl) rfl g4) ?_
    cases h
    simp(config:=cS)only[go_sem]
attribute [go_sem] Tryz.ntmps62 Tryz.results62
theorem qK {s:GShow}{v1:GChoice}{res:ai × Bool}(h:dT s v1=some res):ar Tryz.prog 62 [.agg (GShow.encS s),.agg [.sl (ab eI v1.lengths),.sl (ab eI v1.values)]] [] (.tup [.agg [.lit (.int .i64 res.1.events),.ref 20000 1 0 res.1.links.length],.lit (.bool res.2)]) [(20000,1,.row true (ab GLink.enc res.1.links))]:=by
 refine am (ra:=[.homeCell 256 1]) (md:=mdT) hT (hi:=hi00) Tryz.func62 rfl rfl (by decide +kernel) (by simp) ?_
 unfold dT at h
 obtain ⟨r01,g1,h⟩:=ae h
 simp(config:=cS)only[go_sem]
 refine ah (mR g1) ?_
 obtain ⟨h2,h⟩|⟨h2,h⟩:=af h
 ·obtain ⟨r02,g3,h⟩:=ae h
  simp(config:=cS)only[go_sem,eZt h2]
  refine ah (xp g3) ?_
  obtain ⟨r03,g4,h⟩:=ae h
  simp(config:=cS)only[go_sem]
  refine ah (mS g4) ?_
  obtain ⟨h5,h⟩|⟨h5,h⟩:=af h
  ·cases h
   simp(config:=cS)only[go_sem,eZt h5]
  ·cases h
   simp(config:=cS)only[go_sem,eZf h5]
 ·cases h
  simp(config:=cS)only[go_sem,eZf h2]
attribute [go_sem] Tryz.ntmps208 Tryz.results208
theorem qL {n:Int}{res:Bool}(h:fD n=some res):ar Tryz.prog 208 [.lit (.int .i64 n)] [] (.lit (.bool res)) []:=by
 refine am (ra:=[]) (md:=mdT) hT (hi:=hi00) Tryz.func208 rfl rfl (by decide +kernel) (by simp) ?_
 unfold fD at h
 obtain ⟨h1,h⟩|⟨h1,h⟩:=af h
 ·cases h
  simp(config:=cS)only[go_sem,eqT h1]
 ·cases h
  simp(config:=cS)only[go_sem,eqF h1]
attribute [go_sem] Tryz.ntmps132 Tryz.results132
theorem mT {s:ai}{times:List Int}{res:Bool}(h:ea s times=some res):ar Tryz.prog 132 [.agg [.lit (.int .i64 s.events),.sl (ab GLink.enc s.links)],.sl (ab eI times)] [] (.lit (.bool res)) []:=by
 refine am (ra:=[]) (md:=mdT) hT (hi:=hi00) Tryz.func132 rfl rfl (by decide +kernel) (by simp) ?_
 unfold ea at h
 obtain ⟨r01,g1,h⟩:=ae h
 simp(config:=cS)only[go_sem]
 refine ah (mS g1) ?_
 obtain ⟨h2,h⟩|⟨h2,h⟩:=af h
 ·obtain ⟨h3,h⟩|⟨h3,h⟩:=af h
  ·obtain ⟨r02,g4,h⟩:=ae h
   simp(config:=cS)only[go_sem,eZt h2,eqT h3]
   refine ah (cX (by exact fun _ _ hr=>qL hr) (by refine ⟨fun _=>?_,fun _=>?_⟩ <;> simp only [go_sem]) (fun _=>rfl) rfl g4) ?_
   cases h
   simp(config:=cS)only[go_sem]
  ·cases h
   simp(config:=cS)only[go_sem,eZt h2,eqF h3]
 ·cases h
  simp(config:=cS)only[go_sem,eZf h2]
attribute [go_sem] Tryz.ntmps211 Tryz.results211
theorem vY {i:aB}{n:Int}{res:Bool}(h:fE i n=some res):ar Tryz.prog 211 [.agg [.lit (.int .i64 i.low),.lit (.int .i64 i.high)],.lit (.int .i64 n)] [] (.lit (.bool res)) []:=by
 refine am (ra:=[]) (md:=mdT) hT (hi:=hi00) Tryz.func211 rfl rfl (by decide +kernel) (by simp) ?_
 unfold fE at h
 obtain ⟨r01,g1,h⟩:=ae h
 simp(config:=cS)only[go_sem]
 refine ah (lw g1) ?_
 obtain ⟨h2,h⟩|⟨h2,h⟩:=af h
 ·obtain ⟨h3,h⟩|⟨h3,h⟩:=af h
  ·obtain ⟨h4,h⟩|⟨h4,h⟩:=af h
   ·cases h
    simp(config:=cS)only[go_sem,eZt h2,eqT h3,eqT h4]
   ·cases h
    simp(config:=cS)only[go_sem,eZt h2,eqT h3,eqF h4]
  ·obtain ⟨h5,h⟩|⟨h5,h⟩:=af h
   ·obtain ⟨h6,h⟩|⟨h6,h⟩:=af h
    ·cases h
     simp(config:=cS)only[go_sem,eZt h2,eqF h3,eqT h5,eqT h6]
    ·cases h
     simp(config:=cS)only[go_sem,eZt h2,eqF h3,eqT h5,eqF h6]
   ·cases h
    simp(config:=cS)only[go_sem,eZt h2,eqF h3,eqF h5]
 ·cases h
  simp(config:=cS)only[go_sem,eZf h2]
@[go_sem] def hi210_1:DT:=.i2 0 (.i2 1 (.i2 2 (.i2 3 (.i2 4 (.i2 5 (.i2 6 (.i2 7 (.i2 8 (.i2 9 (.i2 10 (.i2 11 (.i2 12 (.i2 13 (.i2 14 (.i2 15 .nil)))))))))))))))
def zU:Hint where
 acts:=fun _=>[]
 draws:=fun
  | 1=>⟨hi210_1,[[],[0],[],[],[3],[2,3,4],[2,3,4,5],[],[],[8],[7,8,9],[7,8,9,10],[2,3,4,5,6,7,8,9,10,11],.range 13,.range 14,.range 15],.range 16⟩
  | _=>⟨.nil,[],[]⟩
theorem KZ (i:Nat):zU.acts i=[]:=rfl
theorem La (i:Nat):zU.views i=none:=rfl
attribute [go_sem] KZ La Tryz.ntmps210 Tryz.results210
@[go_sem] theorem OO:(zU.draws 1).order=hi210_1:=rfl
theorem pm {l:GLink}{times:List Int}{res:Bool}(h:eG l times=some res):ar Tryz.prog 210 [.agg (GLink.enc l),.loc [.sl (ab eI times)]] [] (.lit (.bool res)) []:=by
 refine am (ra:=[]) (md:=mdT) hT (hi:=zU) Tryz.func210 rfl rfl (by decide +kernel) (by simp) ?_
 unfold eG at h
 obtain ⟨x01,g1,h⟩:=ae h
 obtain ⟨h2,h3,h4⟩:=ao g1
 obtain ⟨x02,g5,h⟩:=ae h
 obtain ⟨h6,h7,h8⟩:=ao g5
 obtain ⟨r03,g9,h⟩:=ae h
 simp(config:=cS)only[go_sem,h2,h3,h4,h6,h7,h8]
 refine ah (vY g9) ?_
 cases h
 simp(config:=cS)only[go_sem]
attribute [go_sem] Tryz.ntmps133 Tryz.results133
theorem sj {s:ai}{times:List Int}{res:Int}(h:ez s times=some res):ar Tryz.prog 133 [.agg [.lit (.int .i64 s.events),.sl (ab GLink.enc s.links)],.sl (ab eI times)] [] (.lit (.int .i64 res)) []:=by
 refine am (ra:=[]) (md:=mdT) hT (hi:=hi00) Tryz.func133 rfl rfl (by decide +kernel) (by simp) ?_
 unfold ez at h
 obtain ⟨r01,g1,h⟩:=ae h
 simp(config:=cS)only[go_sem]
 refine ah (mT g1) ?_
 obtain ⟨h2,h⟩|⟨h2,h⟩:=af h
 ·obtain ⟨r02,g3,h⟩:=ae h
  simp(config:=cS)only[go_sem,eZt h2]
  refine ah (iG (by exact fun _ _ hr=>pm hr) (by refine ⟨fun _=>?_,fun _=>?_⟩ <;> simp only [go_sem]) (fun _=>rfl) rfl g3) ?_
  cases h
  simp(config:=cS)only[go_sem]
 ·cases h
  simp(config:=cS)only[go_sem,eZf h2]
attribute [go_sem] Tryz.ntmps63 Tryz.results63
theorem sk {s:ai}{times:List Int}{res:Bool}(h:eA s times=some res):ar Tryz.prog 63 [.agg [.lit (.int .i64 s.events),.sl (ab GLink.enc s.links)],.sl (ab eI times)] [] (.lit (.bool res)) []:=by
 refine am (ra:=[]) (md:=mdT) hT (hi:=hi00) Tryz.func63 rfl rfl (by decide +kernel) (by simp) ?_
 unfold eA at h
 obtain ⟨r01,g1,h⟩:=ae h
 simp(config:=cS)only[go_sem]
 refine ah (mT g1) ?_
 obtain ⟨h2,h⟩|⟨h2,h⟩:=af h
 ·obtain ⟨x02,g3,h⟩:=ae h
  obtain ⟨h5,h6⟩:=oJ (k:=0) g3
  obtain ⟨h7,h⟩|⟨h7,h⟩:=af h
  ·obtain ⟨r03,g8,h⟩:=ae h
   simp(config:=cS)only[go_sem,eZt h2,h5,h6,eqT h7]
   refine ah (sj g8) ?_
   cases h
   simp(config:=cS)only[go_sem]
  ·cases h
   simp(config:=cS)only[go_sem,eZt h2,h5,h6,eqF h7]
 ·cases h
  simp(config:=cS)only[go_sem,eZf h2]
def jv (d:List Int)(e:Int)(f:List GNode)(g:List GTie)(h:Int)(b c:List Int):(Int × (List Int))→St
 | (i,a)=>⟨[(3,.ptr 192 1 0 0),(4,.ptr 256 1 0 0),(7,.ref 1600 1 0 a.length),(26,.sl (ab eI d)),(27,.lit (.int .i64 e)),(28,.lit (.int .i64 i))],[(192,1,.var [.sl (ab GNode.encS f),.sl (ab GTie.enc g),.lit (.int .i64 h)]),(256,1,.var [.sl (ab eI b),.sl (ab eI c)]),(1600,1,.row true (ab eI a))],2⟩
attribute [go_sem] jv
attribute [go_sem] Tryz.ntmps15 Tryz.results15
theorem vZ {s:GShow}{v1:GChoice}{times:List Int}{res:Bool}(h:fF s v1 times=some res):ar Tryz.prog 15 [.agg (GShow.encS s),.agg [.sl (ab eI v1.lengths),.sl (ab eI v1.values)],.sl (ab eI times)] [] (.lit (.bool res)) []:=by
 refine am (ra:=[]) (md:=mdT) hT (hi:=hi00) Tryz.func15 rfl rfl (by decide +kernel) (by simp) ?_
 unfold fF at h
 obtain ⟨r01,g1,h⟩:=ae h
 simp(config:=cS)only[go_sem]
 refine ah (mR g1) ?_
 obtain ⟨h2,h⟩|⟨h2,h⟩:=af h
 ·obtain ⟨h3,h⟩|⟨h3,h⟩:=af h
  ·obtain ⟨r02,g4,h⟩:=ae h
   simp(config:=cS)only[go_sem,eZt h2,eqT h3]
   refine ah (qF g4) ?_
   obtain ⟨q08,l5,h⟩:=ae h
   simp(config:=cS)only[go_sem]
   refine ay (m1:=.mk) (m2:=.mk) [.nf [3,4,7,26,27,28] [192,256,1600]] (jv times ((times.length:Nat):Int) s.nodes s.ties s.horizon v1.lengths v1.values) l5 ?_ ?_
   ·simp(config:=cS)only[go_sem]
   ·intro nb6 sb6 bb6 b6 gb6
    obtain ⟨v28_1,filled_1⟩:=sb6
    unfold ca at b6
    try dsimp only at b6
    obtain ⟨h7,b6⟩|⟨h7,b6⟩:=af b6
    ·obtain ⟨x03,g8,b6⟩:=ae b6
     obtain ⟨h9,h10,h11⟩:=ao g8
     obtain ⟨r04,g12,b6⟩:=ae b6
     simp(config:=cS)only[go_sem,eqT h7,h9,h10,h11]
     refine ah (eQ g12) ?_
     obtain ⟨h13,b6⟩|⟨h13,b6⟩:=af b6
     ·obtain ⟨h14,b6⟩|⟨h14,b6⟩:=af b6
      ·obtain ⟨x05,g15,b6⟩:=ae b6
       obtain ⟨h16,h17,h18⟩:=ao g15
       cases b6
       simp(config:=cS)only[go_sem,eqT h13,eqT h14,h16,h17,h18]
       refine az gb6 ?_
       simp(config:=cS)only[go_sem]
      ·cases b6
       simp(config:=cS)only[go_sem,eqT h13,eqF h14]
       refine az gb6 ?_
       simp(config:=cS)only[go_sem]
     ·cases b6
      obtain rfl:=(ak gb6).symm
      try dsimp only at h
      cases h
      simp(config:=cS)only[go_sem,eqF h13]
    ·cases b6
     obtain rfl:=(ak gb6).symm
     try dsimp only at h
     obtain ⟨r06,g21,h⟩:=ae h
     simp(config:=cS)only[go_sem,eqF h7]
     refine ah (qK g21) ?_
     obtain ⟨h22,h⟩|⟨h22,h⟩:=af h
     ·obtain ⟨r07,g23,h⟩:=ae h
      simp(config:=cS)only[go_sem,eZt h22]
      refine ah (sk g23) ?_
      cases h
      simp(config:=cS)only[go_sem]
     ·cases h
      simp(config:=cS)only[go_sem,eZf h22]
  ·cases h
   simp(config:=cS)only[go_sem,eZt h2,eqF h3]
 ·cases h
  simp(config:=cS)only[go_sem,eZf h2]
def lc (a:Bool)(b:Int)(c:List GNode)(d:List GTie)(e n:Int):St:=⟨[(1,.lit (.bool a)),(2,.ptr 128 1 0 0),(5,.lit (.int .i64 n)),(6,.lit (.int .i64 b))],[(128,1,.var [.sl (ab GNode.encS c),.sl (ab GTie.enc d),.lit (.int .i64 e)])],2⟩
attribute [go_sem] lc
attribute [go_sem] Tryz.ntmps20 Tryz.results20
def ku (a b:List Int)(i:Int):St:=⟨[(0,.sl (ab eI a)),(1,.sl (ab eI b)),(5,.lit (.int .i64 i))],[],2⟩
attribute [go_sem] ku
@[go_sem] def hi18_6:DT:=.i2 0 (.i2 1 (.i2 2 (.i2 3 (.i2 4 (.i2 5 (.i2 6 (.i2 7 (.i2 8 .nil))))))))
def hi18:Hint where
 acts:=fun _=>[]
 draws:=fun
  | 6=>⟨hi18_6,[[],[],[0,1],[0,1,2],[],[],[4,5],[4,5,6],.range 8],.range 9⟩
  | _=>⟨.nil,[],[]⟩
theorem Mw (i:Nat):hi18.acts i=[]:=rfl
theorem Mx (i:Nat):hi18.views i=none:=rfl
attribute [go_sem] Mw Mx Tryz.ntmps18 Tryz.results18
@[go_sem] theorem Pq:(hi18.draws 6).order=hi18_6:=rfl
theorem iW {a b:List Int}{res:Bool}(h:cF a b=some res):ar Tryz.prog 18 [.sl (ab eI a),.sl (ab eI b)] [] (.lit (.bool res)) []:=by
 refine am (ra:=[]) (md:=mdT) hT (hi:=hi18) Tryz.func18 rfl rfl (by decide +kernel) (by simp) ?_
 unfold cF at h
 obtain ⟨h1,h⟩|⟨h1,h⟩:=af h
 ·obtain ⟨q03,l2,h⟩:=ae h
  simp(config:=cS)only[go_sem,eqT h1]
  refine ay (m1:=.mk) (m2:=.mk) [.nf [0,1,5] []] (ku a b) l2 ?_ ?_
  ·simp(config:=cS)only[go_sem]
  ·intro nb3 i_1 bb3 b3 gb3
   unfold dF at b3
   try dsimp only at b3
   obtain ⟨h4,b3⟩|⟨h4,b3⟩:=af b3
   ·obtain ⟨x01,g5,b3⟩:=ae b3
    obtain ⟨h6,h7,h8⟩:=ao g5
    obtain ⟨x02,g9,b3⟩:=ae b3
    obtain ⟨h10,h11,h12⟩:=ao g9
    obtain ⟨h13,b3⟩|⟨h13,b3⟩:=af b3
    ·cases b3
     simp(config:=cS)only[go_sem,eqT h4,h6,h7,h8,h10,h11,h12,eqT h13]
     refine az gb3 ?_
     simp(config:=cS)only[go_sem]
    ·cases b3
     obtain rfl:=(ak gb3).symm
     try dsimp only at h
     cases h
     simp(config:=cS)only[go_sem,eqT h4,h6,h7,h8,h10,h11,h12,eqF h13]
   ·cases b3
    obtain rfl:=(ak gb3).symm
    try dsimp only at h
    cases h
    simp(config:=cS)only[go_sem,eqF h4]
 ·cases h
  simp(config:=cS)only[go_sem,eqF h1]
attribute [go_sem] Tryz.ntmps134 Tryz.results134
theorem yP {a b:GNode}{res:Bool}(h:gQ a b=some res):ar Tryz.prog 134 [.agg (GNode.encS a),.agg (GNode.encS b)] [] (.lit (.bool res)) []:=by
 refine am (ra:=[]) (md:=mdT) hT (hi:=hi00) Tryz.func134 rfl rfl (by decide +kernel) (by simp) ?_
 unfold gQ at h
 obtain ⟨h1,h⟩|⟨h1,h⟩:=af h
 ·obtain ⟨r01,g2,h⟩:=ae h
  simp(config:=cS)only[go_sem,eqT h1]
  refine ah (iW g2) ?_
  obtain ⟨h3,h⟩|⟨h3,h⟩:=af h
  ·obtain ⟨h4,h⟩|⟨h4,h⟩:=af h
   ·cases h
    simp(config:=cS)only[go_sem,eZt h3,eqT h4]
   ·cases h
    simp(config:=cS)only[go_sem,eZt h3,eqF h4]
  ·cases h
   simp(config:=cS)only[go_sem,eZf h3]
 ·cases h
  simp(config:=cS)only[go_sem,eqF h1]
def jZ (a b:List GNode)(i:Int):St:=⟨[(0,.sl (ab GNode.encS a)),(1,.sl (ab GNode.encS b)),(5,.lit (.int .i64 i))],[],2⟩
attribute [go_sem] jZ
@[go_sem] def hi64_6:DT:=.i2 0 (.i2 1 (.i2 2 (.i2 3 (.i2 4 (.i2 5 (.i2 6 (.i2 7 (.i2 8 (.i2 9 .nil)))))))))
def hi64:Hint where
 acts:=fun _=>[]
 draws:=fun
  | 6=>⟨hi64_6,[[],[],[0,1],[0,1,2],[],[],[4,5],[4,5,6],.range 8,.range 9],.range 10⟩
  | _=>⟨.nil,[],[]⟩
theorem My (i:Nat):hi64.acts i=[]:=rfl
theorem Mz (i:Nat):hi64.views i=none:=rfl
attribute [go_sem] My Mz Tryz.ntmps64 Tryz.results64
@[go_sem] theorem Pr:(hi64.draws 6).order=hi64_6:=rfl
theorem xq {a b:List GNode}{res:Bool}(h:gi a b=some res):ar Tryz.prog 64 [.sl (ab GNode.encS a),.sl (ab GNode.encS b)] [] (.lit (.bool res)) []:=by
 refine am (ra:=[]) (md:=mdT) hT (hi:=hi64) Tryz.func64 rfl rfl (by decide +kernel) (by simp) ?_
 unfold gi at h
 obtain ⟨h1,h⟩|⟨h1,h⟩:=af h
 ·obtain ⟨q04,l2,h⟩:=ae h
  simp(config:=cS)only[go_sem,eqT h1]
  refine ay (m1:=.mk) (m2:=.mk) [.nf [0,1,5] []] (jZ a b) l2 ?_ ?_
  ·simp(config:=cS)only[go_sem]
  ·intro nb3 i_1 bb3 b3 gb3
   unfold eC at b3
   try dsimp only at b3
   obtain ⟨h4,b3⟩|⟨h4,b3⟩:=af b3
   ·obtain ⟨x01,g5,b3⟩:=ae b3
    obtain ⟨h6,h7,h8⟩:=ao g5
    obtain ⟨x02,g9,b3⟩:=ae b3
    obtain ⟨h10,h11,h12⟩:=ao g9
    obtain ⟨r03,g13,b3⟩:=ae b3
    simp(config:=cS)only[go_sem,eqT h4,h6,h7,h8,h10,h11,h12]
    refine ah (yP g13) ?_
    obtain ⟨h14,b3⟩|⟨h14,b3⟩:=af b3
    ·cases b3
     simp(config:=cS)only[go_sem,eZt h14]
     refine az gb3 ?_
     simp(config:=cS)only[go_sem]
    ·cases b3
     obtain rfl:=(ak gb3).symm
     try dsimp only at h
     cases h
     simp(config:=cS)only[go_sem,eZf h14]
   ·cases b3
    obtain rfl:=(ak gb3).symm
    try dsimp only at h
    cases h
    simp(config:=cS)only[go_sem,eqF h4]
 ·cases h
  simp(config:=cS)only[go_sem,eqF h1]
attribute [go_sem] Tryz.ntmps135 Tryz.results135
theorem AD {a b:GTie}{res:Bool}(h:kb a b=some res):ar Tryz.prog 135 [.agg (GTie.enc a),.agg (GTie.enc b)] [] (.lit (.bool res)) []:=by
 refine am (ra:=[]) (md:=mdT) hT (hi:=hi00) Tryz.func135 rfl rfl (by decide +kernel) (by simp) ?_
 unfold kb at h
 obtain ⟨h1,h⟩|⟨h1,h⟩:=af h
 ·obtain ⟨h2,h⟩|⟨h2,h⟩:=af h
  ·obtain ⟨h3,h⟩|⟨h3,h⟩:=af h
   ·obtain ⟨h4,h⟩|⟨h4,h⟩:=af h
    ·obtain ⟨h5,h⟩|⟨h5,h⟩:=af h
     ·cases h
      simp(config:=cS)only[go_sem,eqT h1,eqT h2,eqT h3,eqT h4,eqT h5]
     ·cases h
      simp(config:=cS)only[go_sem,eqT h1,eqT h2,eqT h3,eqT h4,eqF h5]
    ·cases h
     simp(config:=cS)only[go_sem,eqT h1,eqT h2,eqT h3,eqF h4]
   ·cases h
    simp(config:=cS)only[go_sem,eqT h1,eqT h2,eqF h3]
  ·cases h
   simp(config:=cS)only[go_sem,eqT h1,eqF h2]
 ·cases h
  simp(config:=cS)only[go_sem,eqF h1]
def kv (a b:List GTie)(i:Int):St:=⟨[(0,.sl (ab GTie.enc a)),(1,.sl (ab GTie.enc b)),(5,.lit (.int .i64 i))],[],2⟩
attribute [go_sem] kv
@[go_sem] def hi65_6:DT:=.i2 0 (.i2 1 (.i2 2 (.i2 3 (.i2 4 (.i2 5 (.i2 6 (.i2 7 (.i2 8 (.i2 9 .nil)))))))))
def hi65:Hint where
 acts:=fun _=>[]
 draws:=fun
  | 6=>⟨hi65_6,[[],[],[0,1],[0,1,2],[],[],[4,5],[4,5,6],.range 8,.range 9],.range 10⟩
  | _=>⟨.nil,[],[]⟩
theorem MA (i:Nat):hi65.acts i=[]:=rfl
theorem MB (i:Nat):hi65.views i=none:=rfl
attribute [go_sem] MA MB Tryz.ntmps65 Tryz.results65
@[go_sem] theorem Ps:(hi65.draws 6).order=hi65_6:=rfl
theorem yQ {a b:List GTie}{res:Bool}(h:gR a b=some res):ar Tryz.prog 65 [.sl (ab GTie.enc a),.sl (ab GTie.enc b)] [] (.lit (.bool res)) []:=by
 refine am (ra:=[]) (md:=mdT) hT (hi:=hi65) Tryz.func65 rfl rfl (by decide +kernel) (by simp) ?_
 unfold gR at h
 obtain ⟨h1,h⟩|⟨h1,h⟩:=af h
 ·obtain ⟨q04,l2,h⟩:=ae h
  simp(config:=cS)only[go_sem,eqT h1]
  refine ay (m1:=.mk) (m2:=.mk) [.nf [0,1,5] []] (kv a b) l2 ?_ ?_
  ·simp(config:=cS)only[go_sem]
  ·intro nb3 i_1 bb3 b3 gb3
   unfold fe at b3
   try dsimp only at b3
   obtain ⟨h4,b3⟩|⟨h4,b3⟩:=af b3
   ·obtain ⟨x01,g5,b3⟩:=ae b3
    obtain ⟨h6,h7,h8⟩:=ao g5
    obtain ⟨x02,g9,b3⟩:=ae b3
    obtain ⟨h10,h11,h12⟩:=ao g9
    obtain ⟨r03,g13,b3⟩:=ae b3
    simp(config:=cS)only[go_sem,eqT h4,h6,h7,h8,h10,h11,h12]
    refine ah (AD g13) ?_
    obtain ⟨h14,b3⟩|⟨h14,b3⟩:=af b3
    ·cases b3
     simp(config:=cS)only[go_sem,eZt h14]
     refine az gb3 ?_
     simp(config:=cS)only[go_sem]
    ·cases b3
     obtain rfl:=(ak gb3).symm
     try dsimp only at h
     cases h
     simp(config:=cS)only[go_sem,eZf h14]
   ·cases b3
    obtain rfl:=(ak gb3).symm
    try dsimp only at h
    cases h
    simp(config:=cS)only[go_sem,eqF h4]
 ·cases h
  simp(config:=cS)only[go_sem,eqF h1]
attribute [go_sem] Tryz.ntmps16 Tryz.results16
theorem yR {a b:GShow}{res:Bool}(h:gS a b=some res):ar Tryz.prog 16 [.agg (GShow.encS a),.agg (GShow.encS b)] [] (.lit (.bool res)) []:=by
 refine am (ra:=[]) (md:=mdT) hT (hi:=hi00) Tryz.func16 rfl rfl (by decide +kernel) (by simp) ?_
 unfold gS at h
 obtain ⟨r01,g1,h⟩:=ae h
 simp(config:=cS)only[go_sem]
 refine ah (xq g1) ?_
 obtain ⟨h2,h⟩|⟨h2,h⟩:=af h
 ·obtain ⟨r02,g3,h⟩:=ae h
  simp(config:=cS)only[go_sem,eZt h2]
  refine ah (yQ g3) ?_
  obtain ⟨h4,h⟩|⟨h4,h⟩:=af h
  ·obtain ⟨h5,h⟩|⟨h5,h⟩:=af h
   ·cases h
    simp(config:=cS)only[go_sem,eZt h4,eqT h5]
   ·cases h
    simp(config:=cS)only[go_sem,eZt h4,eqF h5]
  ·cases h
   simp(config:=cS)only[go_sem,eZf h4]
 ·cases h
  simp(config:=cS)only[go_sem,eZf h2]
@[go_sem] def hi4_10:DT:=.i1 0 (.i2 1 (.i0 2 [0] (.i2 3 (.i2 4 .nil))))
def hi4:Hint where
 acts:=fun _=>[]
 draws:=fun
  | 10=>⟨hi4_10,[[],[],[1],[0,1,2],[0,1,2,3]],.range 5⟩
  | _=>⟨.nil,[],[]⟩
theorem hi4a (i:Nat):hi4.acts i=[]:=rfl
theorem hi4v (i:Nat):hi4.views i=none:=rfl
attribute [go_sem] hi4a hi4v Tryz.ntmps4 Tryz.results4
@[go_sem] theorem Pt:(hi4.draws 10).order=hi4_10:=rfl
attribute [go_sem] Tryz.ntmps236 Tryz.results236
def oo (b:List Int)(c:Int):(Int × (List ByteArray))→St
 | (d,a)=>⟨[(3,.ref 255 1 0 a.length),(6,.sl (ab eI b)),(7,.lit (.int .i64 c)),(8,.lit (.int .i64 d))],[(255,1,.row true (ab eS a))],2⟩
attribute [go_sem] oo
attribute [go_sem] Tryz.ntmps153 Tryz.results153
@[go_sem] def hi77_1:DT:=.i2 0 (.i2 1 (.i1 3 (.i1 4 (.i1 6 (.i1 7 (.i1 9 (.i1 10 (.i0 2 [3,4,6,7,9,10] (.i0 5 [6,7,9,10] (.i0 8 [9,10] (.i2 11 (.i2 12 (.i2 13 (.i2 14 .nil))))))))))))))
def hi77:Hint where
 acts:=fun _=>[]
 draws:=fun
  | 1=>⟨hi77_1,[[],[0],[0,1],[],[3],.range 5,[],[6],.range 8,[],[9],.range 11,.range 12,.range 13,.range 14],.range 15⟩
  | _=>⟨.nil,[],[]⟩
theorem MD (i:Nat):hi77.acts i=[]:=rfl
theorem ME (i:Nat):hi77.views i=none:=rfl
attribute [go_sem] MD ME Tryz.ntmps77 Tryz.results77
@[go_sem] theorem Pu:(hi77.draws 1).order=hi77_1:=rfl
end Go.Proofs.Qa
