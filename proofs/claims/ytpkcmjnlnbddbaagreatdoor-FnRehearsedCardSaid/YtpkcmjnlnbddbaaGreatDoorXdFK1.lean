/- Functions. -/
import Derived.Test.YtpkcmjnlnbddbaaGreatDoorXdFK0
set_option linter.all false
set_option maxRecDepth 100000
set_option maxHeartbeats 4000000
namespace Go.Proofs.Qd
open Go
@[go_sem] def hi253_10:DT:=.i2 0 (.i2 1 (.i2 2 (.i2 3 (.i2 4 (.i2 5 (.i2 6 (.i2 7 (.i2 8 (.i2 9 (.i2 10 (.i2 11 (.i2 12 (.i2 13 (.i2 14 (.i2 15 (.i2 16 (.i2 17 (.i2 18 (.i2 19 (.i2 20 .nil))))))))))))))))))))
@[go_sem] def hi253_8:DT:=.i2 0 (.i2 1 (.i2 2 (.i2 3 (.i2 4 (.i2 5 (.i2 6 (.i2 7 (.i2 8 (.i2 9 (.i2 10 (.i2 11 (.i2 12 (.i2 13 (.i2 14 (.i2 15 (.i2 16 (.i2 17 (.i2 18 (.i2 19 (.i2 20 .nil))))))))))))))))))))
def Gs:Hint where
 acts:=fun _=>[]
 draws:=fun
  | 8=>⟨hi253_8,[[],[0],[],[2],[0,1,2,3],.range 5,.range 6,[],[7],.range 9,.range 10,.range 11,.range 12,.range 13,.range 12,.range 15,.range 12,[0,1,2,3,4,5,6,7,8,9,10,11,16],.range 18,.range 19,.range 20],.range 21⟩
  | 10=>⟨hi253_10,[[],[0],[],[2],[0,1,2,3],.range 5,.range 6,[],[7],.range 9,.range 10,.range 11,.range 12,.range 12,[0,1,2,3,4,5,6,7,8,9,10,11,13],.range 15,.range 12,[0,1,2,3,4,5,6,7,8,9,10,11,16],.range 18,.range 19,.range 20],.range 21⟩
  | _=>⟨.nil,[],[]⟩
theorem SF (i:Nat):Gs.acts i=[]:=rfl
theorem SG (i:Nat):Gs.views i=none:=rfl
attribute [go_sem] SF SG Tryz.ntmps253 Tryz.results253
@[go_sem] theorem Xx:(Gs.draws 8).order=hi253_8:=rfl
@[go_sem] theorem Wn:(Gs.draws 10).order=hi253_10:=rfl
def sE (a:List GTie)(e:Int)(f:List GNode)(g b:Int)(c d:List Int)(h:Int):St:=⟨[(2,.ptr 128 1 0 0),(3,.ptr 192 1 0 0),(10,.sl (ab GTie.enc a)),(11,.lit (.int .i64 e)),(12,.lit (.int .i64 h))],[(128,1,.var [.sl (ab GNode.encS f),.sl (ab GTie.enc a),.lit (.int .i64 g)]),(192,1,.var [.lit (.int .i64 b),.sl (ab eI c),.sl (ab eI d)])],2⟩
attribute [go_sem] sE
def sF (a:List GNode)(e:Int)(f:List GTie)(g b:Int)(c d:List Int)(h:Int):St:=⟨[(2,.ptr 128 1 0 0),(3,.ptr 192 1 0 0),(22,.sl (ab GNode.encS a)),(23,.lit (.int .i64 e)),(24,.lit (.int .i64 h))],[(128,1,.var [.sl (ab GNode.encS a),.sl (ab GTie.enc f),.lit (.int .i64 g)]),(192,1,.var [.lit (.int .i64 b),.sl (ab eI c),.sl (ab eI d)])],2⟩
attribute [go_sem] sF
attribute [go_sem] Tryz.ntmps180 Tryz.results180
def uf (e:List GNode)(f a:Int)(b c:List Int)(d:Int):St:=⟨[(3,.ptr 192 1 0 0),(8,.sl (ab GNode.encS e)),(9,.lit (.int .i64 f)),(10,.lit (.int .i64 d))],[(192,1,.var [.lit (.int .i64 a),.sl (ab eI b),.sl (ab eI c)])],2⟩
attribute [go_sem] uf
attribute [go_sem] Tryz.ntmps181 Tryz.results181
def tj (a b:List Int)(c:Int)(d:List GNode)(e:List GTie)(f g:Int)(h i:List Int)(j:Bool)(k:List aw)(l:Int):St:=⟨[(1,.sl (ab eI a)),(3,.ptr 192 1 0 0),(6,.ptr 384 1 0 0),(21,.sl (ab eI b)),(22,.lit (.int .i64 c)),(23,.lit (.int .i64 l))],[(192,1,.var [.sl (ab GNode.encS d),.sl (ab GTie.enc e),.lit (.int .i64 f),.lit (.int .i64 g),.sl (ab eI h),.sl (ab eI i),.lit (.bool j),.sl (ab aw.encS k)]),(384,1,.var [.lit (.int .i64 0),.lit (.slice none 0 0),.lit (.slice none 0 0)])],2⟩
attribute [go_sem] tj
attribute [go_sem] Tryz.ntmps232 Tryz.results232
def sG (c:List GNode)(h:Int)(i:List GTie)(j e:Int)(f g:List Int):(Int × (List Int) × (List Int) × (List Bool))→St
 | (k,d,a,b)=>⟨[(2,.ptr 128 1 0 0),(3,.ptr 192 1 0 0),(7,.ref 832 1 0 d.length),(8,.ref 896 1 0 a.length),(9,.ref 960 1 0 b.length),(17,.sl (ab GNode.encS c)),(18,.lit (.int .i64 h)),(19,.lit (.int .i64 k))],[(128,1,.var [.sl (ab GNode.encS c),.sl (ab GTie.enc i),.lit (.int .i64 j)]),(192,1,.var [.lit (.int .i64 e),.sl (ab eI f),.sl (ab eI g)]),(832,1,.row true (ab eI d)),(896,1,.row true (ab eI a)),(960,1,.row true (ab eB b))],2⟩
attribute [go_sem] sG
attribute [go_sem] Tryz.ntmps254 Tryz.results254
def rf (c:Int)(d:List GTie)(f:Int)(g:List GNode)(h:Int)(a:List Bool):(Int × (List Int) × (List Int))→St
 | (i,e,b)=>⟨[(2,.ptr 128 1 0 0),(5,.ref 960 1 0 e.length),(6,.ref 961 1 0 b.length),(7,.ref 962 1 0 a.length),(8,.lit (.int .i64 c)),(27,.sl (ab GTie.enc d)),(28,.lit (.int .i64 f)),(29,.lit (.int .i64 i))],[(128,1,.var [.sl (ab GNode.encS g),.sl (ab GTie.enc d),.lit (.int .i64 h)]),(960,1,.row true (ab eI e)),(961,1,.row true (ab eI b)),(962,1,.row true (ab eB a))],2⟩
attribute [go_sem] rf
def rg (e:List GNode)(f:List GTie)(g:Int)(a:List Bool):(Int × (List Int) × (List Int))→St
 | (c,d,b)=>⟨[(2,.ptr 128 1 0 0),(5,.ref 960 1 0 d.length),(6,.ref 961 1 0 b.length),(7,.ref 962 1 0 a.length),(8,.lit (.int .i64 c))],[(128,1,.var [.sl (ab GNode.encS e),.sl (ab GTie.enc f),.lit (.int .i64 g)]),(960,1,.row true (ab eI d)),(961,1,.row true (ab eI b)),(962,1,.row true (ab eB a))],2⟩
attribute [go_sem] rg
def rh (d:Int)(c a:List Int)(b:List Bool)(e:Int):St:=⟨[(5,.ref 960 1 0 c.length),(6,.ref 961 1 0 a.length),(7,.ref 962 1 0 b.length),(121,.lit (.int .i64 d)),(122,.lit (.int .i64 e))],[(960,1,.row true (ab eI c)),(961,1,.row true (ab eI a)),(962,1,.row true (ab eB b))],2⟩
attribute [go_sem] rh
@[go_sem] def hi182_17:DT:=.i2 0 (.i2 1 (.i2 2 (.i2 3 (.i2 4 (.i2 5 (.i2 6 (.i2 7 (.i2 8 (.i2 9 (.i2 10 (.i2 11 (.i2 12 (.i2 13 (.i2 14 .nil))))))))))))))
@[go_sem] def hi182_12:DT:=.i2 0 (.i2 1 (.i2 2 (.i2 3 (.i2 4 (.i2 5 (.i2 6 (.i2 7 (.i2 8 (.i2 9 (.i2 10 (.i2 11 (.i2 12 (.i2 13 (.i2 14 (.i2 15 (.i2 16 (.i2 17 (.i2 18 .nil))))))))))))))))))
@[go_sem] def hi182_11:DT:=.i2 0 (.i2 1 (.i2 2 (.i2 3 (.i2 4 (.i2 5 (.i2 6 (.i2 7 (.i2 8 (.i2 9 (.i2 10 (.i2 11 (.i2 12 (.i2 13 (.i2 14 (.i2 15 (.i2 16 (.i2 17 (.i2 18 .nil))))))))))))))))))
@[go_sem] def hi182_10:DT:=.i2 0 (.i2 1 (.i2 2 (.i2 3 (.i2 4 (.i2 5 (.i2 6 (.i2 7 (.i2 8 (.i2 9 (.i2 10 (.i2 11 (.i2 12 (.i2 13 (.i2 14 (.i2 15 (.i2 16 (.i2 17 (.i2 18 .nil))))))))))))))))))
@[go_sem] def hi182_9:DT:=.i2 0 (.i2 1 (.i2 2 (.i2 3 (.i2 4 (.i2 5 (.i2 6 (.i2 7 (.i2 8 (.i2 9 (.i2 10 (.i2 11 (.i2 12 (.i2 13 (.i2 14 (.i2 15 (.i2 16 (.i2 17 (.i2 18 .nil))))))))))))))))))
def ug:Hint where
 acts:=fun _=>[]
 draws:=fun
  | 9=>⟨hi182_9,[[],[],[1],[],[],[4],[3,4,5],[3,4,5,6],[],[],[9],[8,9,10],[8,9,10,11],[],[13],[8,9,10,11,12,13,14],[3,4,5,6,7,8,9,10,11,12,13,14,15],.range 17,.range 18],.range 19⟩
  | 10=>⟨hi182_10,[[],[],[1],[],[],[4],[3,4,5],[3,4,5,6],[],[],[9],[8,9,10],[8,9,10,11],[],[13],[8,9,10,11,12,13,14],[3,4,5,6,7,8,9,10,11,12,13,14,15],.range 17,.range 18],.range 19⟩
  | 11=>⟨hi182_11,[[],[],[1],[],[],[4],[3,4,5],[3,4,5,6],[],[],[9],[8,9,10],[8,9,10,11],[],[13],[8,9,10,11,12,13,14],[3,4,5,6,7,8,9,10,11,12,13,14,15],.range 17,.range 18],.range 19⟩
  | 12=>⟨hi182_12,[[],[],[1],[],[],[4],[3,4,5],[3,4,5,6],[],[],[9],[8,9,10],[8,9,10,11],[],[13],[8,9,10,11,12,13,14],[3,4,5,6,7,8,9,10,11,12,13,14,15],.range 17,.range 18],.range 19⟩
  | 17=>⟨hi182_17,[[],[],[0,1],[0,1,2],[0,1,2,3],.range 5,.range 5,.range 7,.range 8,.range 5,.range 5,[0,1,2,3,4,9,10],[0,1,2,3,4,9,10,11],.range 13,.range 14],.range 15⟩
  | _=>⟨.nil,[],[]⟩
theorem SH (i:Nat):ug.acts i=[]:=rfl
theorem SI (i:Nat):ug.views i=none:=rfl
attribute [go_sem] SH SI Tryz.ntmps182 Tryz.results182
@[go_sem] theorem Xy:(ug.draws 9).order=hi182_9:=rfl
@[go_sem] theorem Wo:(ug.draws 10).order=hi182_10:=rfl
@[go_sem] theorem Wp:(ug.draws 11).order=hi182_11:=rfl
@[go_sem] theorem Wq:(ug.draws 12).order=hi182_12:=rfl
@[go_sem] theorem Wr:(ug.draws 17).order=hi182_17:=rfl
def pU (a:List Int)(b c:Int):St:=⟨[(0,.sl (ab eI a)),(9,.sl (ab eI a)),(10,.lit (.int .i64 b)),(11,.lit (.int .i64 c))],[],2⟩
attribute [go_sem] pU
def pV (a:List Int)(n c:Int)(b:List (List Int)):(Int × (List Int))→St
 | (d,l)=>⟨[(0,.sl (ab eI a)),(5,.ref 2112 1 0 b.length),(6,.lit (.int .i64 n)),(7,.ref 2688 1 0 l.length),(44,.lit (.int .i64 c)),(45,.lit (.int .i64 d))],[(2112,1,.row true (ab (eLO eI) b)),(2688,1,.row true (ab eI l))],2⟩
attribute [go_sem] pV
def pW (a:List Int):(Int × (List (List Int)))→St
 | (n,b)=>⟨[(0,.sl (ab eI a)),(5,.ref 2112 1 0 b.length),(6,.lit (.int .i64 n))],[(2112,1,.row true (ab (eLO eI) b))],2⟩
attribute [go_sem] pW
attribute [go_sem] Tryz.ntmps295 Tryz.results295
def uh (e:Int)(f:List GNode)(g:List GTie)(h i:Int)(b c a:List Int)(d:List (List Int))(j:Int):St:=⟨[(3,.ptr 192 1 0 0),(7,.ptr 448 1 0 0),(8,.ref 962 1 0 a.length),(19,.ref 1216 1 0 d.length),(20,.lit (.int .i64 e)),(21,.lit (.int .i64 j))],[(192,1,.var [.sl (ab GNode.encS f),.sl (ab GTie.enc g),.lit (.int .i64 h)]),(448,1,.var [.lit (.int .i64 i),.ref 960 1 0 b.length,.ref 961 1 0 c.length]),(960,1,.row true (ab eI b)),(961,1,.row true (ab eI c)),(962,1,.row true (ab eI a)),(1216,1,.tree (ab (eLS eI) d))],2⟩
attribute [go_sem] uh
@[go_sem] def hi257_5:DT:=.i1 0 (.i2 1 (.i2 2 (.i2 3 (.i0 4 [0] (.i2 5 (.i2 6 .nil))))))
def KH:Hint where
 acts:=fun _=>[]
 draws:=fun
  | 5=>⟨hi257_5,[[],[],[],[],[1,2,3],.range 5,.range 6],.range 7⟩
  | _=>⟨.nil,[],[]⟩
@[go_sem] theorem Yw (i:Nat):KH.acts i=[]:=rfl
theorem SJ (i:Nat):KH.views i=none:=rfl
attribute [go_sem] SJ Tryz.ntmps257 Tryz.results257
@[go_sem] theorem Xz:(KH.draws 5).order=hi257_5:=rfl
def uY (d:List GNode)(e:List GTie)(f a:Int)(b c l:List Int)(n:Int):St:=⟨[(2,.ptr 128 1 0 0),(3,.ptr 192 1 0 0),(5,.ref 576 1 0 l.length),(6,.lit (.int .i64 n))],[(128,1,.var [.sl (ab GNode.encS d),.sl (ab GTie.enc e),.lit (.int .i64 f)]),(192,1,.var [.lit (.int .i64 a),.sl (ab eI b),.sl (ab eI c)]),(576,1,.row true (ab eI l))],2⟩
attribute [go_sem] uY
@[go_sem] def hi184_5:DT:=.i1 0 (.i1 1 (.i2 2 (.i2 3 (.i0 4 [0,1] (.i2 5 .nil)))))
def KI:Hint where
 acts:=fun _=>[]
 draws:=fun
  | 5=>⟨hi184_5,[[],[],[],[],[2,3],.range 5],.range 6⟩
  | _=>⟨.nil,[],[]⟩
theorem SK (i:Nat):KI.acts i=[]:=rfl
theorem SL (i:Nat):KI.views i=none:=rfl
attribute [go_sem] SK SL Tryz.ntmps184 Tryz.results184
@[go_sem] theorem XA:(KI.draws 5).order=hi184_5:=rfl
def uZ (f:List GNode)(g:List GTie)(h c:Int)(d e a b:List Int)(n:Int):St:=⟨[(2,.ptr 128 1 0 0),(3,.ptr 192 1 0 0),(5,.ref 1280 1 0 a.length),(6,.ref 1281 1 0 b.length),(7,.lit (.int .i64 n))],[(128,1,.var [.sl (ab GNode.encS f),.sl (ab GTie.enc g),.lit (.int .i64 h)]),(192,1,.var [.lit (.int .i64 c),.sl (ab eI d),.sl (ab eI e)]),(1280,1,.row true (ab eI a)),(1281,1,.row true (ab eI b))],2⟩
attribute [go_sem] uZ
@[go_sem] def hi93_11:DT:=.i1 0 (.i1 1 (.i1 2 (.i2 3 (.i2 4 (.i2 5 (.i0 6 [0,1,2] (.i0 7 [0,1,2] (.i0 8 [0] (.i2 9 (.i2 10 .nil))))))))))
def hi93:Hint where
 acts:=fun _=>[]
 draws:=fun
  | 11=>⟨hi93_11,[[],[],[],[],[],[],[4,5],[3,4,5,6],[1,2,3,4,5,6,7],.range 9,.range 10],.range 11⟩
  | _=>⟨.nil,[],[]⟩
theorem Vb (i:Nat):hi93.acts i=[]:=rfl
theorem Vc (i:Nat):hi93.views i=none:=rfl
attribute [go_sem] Vb Vc Tryz.ntmps93 Tryz.results93
@[go_sem] theorem XB:(hi93.draws 11).order=hi93_11:=rfl
def sH (a b:Int)(c:List GNode)(d:List GTie)(e f:Int)(g h:List Int)(i:Bool)(j:List aw)(k:Int)(m n:List Int)(l:List (List Int))(o:Int):St:=⟨[(2,.lit (.int .i64 a)),(3,.ptr 192 1 0 0),(4,.ptr 256 1 0 0),(8,.ref 896 1 0 l.length),(16,.lit (.int .i64 b)),(17,.lit (.int .i64 o))],[(192,1,.var [.sl (ab GNode.encS c),.sl (ab GTie.enc d),.lit (.int .i64 e),.lit (.int .i64 f),.sl (ab eI g),.sl (ab eI h),.lit (.bool i),.sl (ab aw.encS j)]),(256,1,.var [.lit (.int .i64 k),.sl (ab eI m),.sl (ab eI n)]),(896,1,.tree (ab (eLS eI) l))],2⟩
attribute [go_sem] sH
attribute [go_sem] Tryz.ntmps233 Tryz.results233
def sI (o j h:List Int)(p q:Int)(r s:List Int)(k m:Int)(n:Bool)(t:Int)(a:List GNode)(b:List GTie)(c d:List Int)(e:List aw)(f g i:List Int):(Int × (List Int) × (List Int))→St
 | (u,v,l)=>⟨[(1,.sl (ab eI o)),(3,.sl (ab eI j)),(4,.sl (ab eI h)),(7,.ptr 448 1 0 0),(10,.ptr 640 1 0 0),(11,.ptr 704 1 0 0),(12,.ptr 768 1 0 0),(13,.ref 1602 1 0 i.length),(14,.ref 1792 1 0 v.length),(15,.ref 1856 1 0 l.length),(30,.ref 1602 1 0 i.length),(31,.lit (.int .i64 p)),(32,.lit (.int .i64 u))],[(448,1,.var [.lit (.int .i64 q),.sl (ab eI r),.sl (ab eI s)]),(640,1,.var [.lit (.slice none 0 0),.lit (.slice none 0 0),.lit (.int .i64 0),.lit (.int .i64 0),.lit (.slice none 0 0),.lit (.slice none 0 0),.lit (.bool false),.lit (.slice none 0 0)]),(704,1,.var [.ref 1216 1 0 a.length,.ref 1217 1 0 b.length,.lit (.int .i64 k),.lit (.int .i64 m),.ref 1218 1 0 c.length,.ref 1219 1 0 d.length,.lit (.bool n),.ref 1220 1 0 e.length]),(1216,1,.row true (ab GNode.encO a)),(1217,1,.row true (ab GTie.enc b)),(1218,1,.row true (ab eI c)),(1219,1,.row true (ab eI d)),(1220,1,.row true (ab aw.encO e)),(768,1,.var [.lit (.int .i64 t),.ref 1600 1 0 f.length,.ref 1601 1 0 g.length]),(1600,1,.row true (ab eI f)),(1601,1,.row true (ab eI g)),(1602,1,.row true (ab eI i)),(1792,1,.row true (ab eI v)),(1856,1,.row true (ab eI l))],2⟩
attribute [go_sem] sI
@[go_sem] def hi234_11:DT:=.i1 0 (.i1 1 (.i1 2 (.i1 3 (.i2 5 (.i2 8 (.i2 10 (.fork (.i0 4 [0,1,2,3] (.fork (.i0 6 [0,1,2,3] (.i0 7 [0,1,2,3] (.i0 9 [0,1,2,3] (.i2 11 (.i0 12 [0,1] (.i2 13 (.i2 14 (.i2 15 .nil)))))))) (.i0 7 [0,1,2,3] (.i0 6 [0,1,2,3] (.i0 9 [0,1,2,3] (.i2 11 (.i0 12 [0,1] (.i2 13 (.i2 14 (.i2 15 .nil)))))))))) (.i0 7 [0,1,2,3] (.i0 4 [0,1,2,3] (.i0 6 [0,1,2,3] (.i0 9 [0,1,2,3] (.i2 11 (.i0 12 [0,1] (.i2 13 (.i2 14 (.i2 15 .nil))))))))))))))))
def KJ:Hint where
 acts:=fun _=>[]
 draws:=fun
  | 11=>⟨hi234_11,[[],[0],[],[2],[],[],[4,5],[],[],[4,5,6,7,8],[],[2,3,4,5,6,7,8,9,10],[2,3,4,5,6,7,8,9,10,11],.range 13,.range 14,.range 15],.range 16⟩
  | _=>⟨.nil,[],[]⟩
theorem SM (i:Nat):KJ.acts i=[]:=rfl
theorem SN (i:Nat):KJ.views i=none:=rfl
attribute [go_sem] SM SN Tryz.ntmps234 Tryz.results234
@[go_sem] theorem Ws:(KJ.draws 11).order=hi234_11:=rfl
attribute [go_sem] Tryz.ntmps150 Tryz.results150
def ui (i j:List Int):(Int × Int × Bool × (List GNode) × (List GTie) × (List Int) × (List Int) × (List aw))→St
 | (f,g,h,a,b,c,d,e)=>⟨[(3,.ptr 192 1 0 0),(4,.ptr 256 1 0 0),(6,.ptr 384 1 0 0)],[(192,1,.var [.sl (ab eI i),.sl (ab eI j)]),(256,1,.var [.lit (.slice none 0 0),.lit (.slice none 0 0),.lit (.int .i64 0),.lit (.int .i64 0),.lit (.slice none 0 0),.lit (.slice none 0 0),.lit (.bool false),.lit (.slice none 0 0)]),(384,1,.var [.ref 704 1 0 a.length,.ref 705 1 0 b.length,.lit (.int .i64 f),.lit (.int .i64 g),.ref 706 1 0 c.length,.ref 707 1 0 d.length,.lit (.bool h),.ref 708 1 0 e.length]),(704,1,.row true (ab GNode.encO a)),(705,1,.row true (ab GTie.enc b)),(706,1,.row true (ab eI c)),(707,1,.row true (ab eI d)),(708,1,.row true (ab aw.encO e))],2⟩
attribute [go_sem] ui
@[go_sem] def hi138_4:DT:=.i1 0 (.i1 1 (.i1 2 (.i1 3 (.i1 4 (.i1 5 (.i1 7 (.i1 8 (.fork (.i0 6 [0,7,8] (.fork (.i2 9 (.i2 10 (.i2 11 (.i2 12 (.i2 13 (.i0 14 [0,1,2,3,4,5,7,8] (.i2 15 (.i2 16 (.i2 17 .nil))))))))) (.i0 14 [0,1,2,3,4,5,7,8] (.i2 9 (.i2 10 (.i2 11 (.i2 12 (.i2 13 (.i2 15 (.i2 16 (.i2 17 .nil))))))))))) (.i0 14 [0,1,2,3,4,5,7,8] (.i0 6 [0,7,8] (.i2 9 (.i2 10 (.i2 11 (.i2 12 (.i2 13 (.i2 15 (.i2 16 (.i2 17 .nil))))))))))))))))))
def KK:Hint where
 acts:=fun _=>[]
 draws:=fun
  | 4=>⟨hi138_4,[[],[],[1],[],[3],[],[1,2,3,4,5],[],[7],.range 9,.range 10,.range 11,.range 11,.range 11,[],[0,1,2,3,4,5,6,7,8,9,10,11,14],[0,1,2,3,4,5,6,7,8,9,10,11,12,14,15],.range 17],[0,1,2,3,4,5,6,7,8,9,10,11,14,16,12,13,15,17]⟩
  | _=>⟨.nil,[],[]⟩
theorem SO (i:Nat):KK.acts i=[]:=rfl
theorem SP (i:Nat):KK.views i=none:=rfl
attribute [go_sem] SO SP Tryz.ntmps138 Tryz.results138
@[go_sem] theorem XC:(KK.draws 4).order=hi138_4:=rfl
attribute [go_sem] Tryz.ntmps139 Tryz.results139
attribute [go_sem] Tryz.ntmps68 Tryz.results68
attribute [go_sem] Tryz.ntmps199 Tryz.results199
def tk (a:List aN)(b c d:Int):St:=⟨[(1,.ptr 64 1 0 0),(16,.sl (ab aN.enc a)),(17,.lit (.int .i64 b)),(18,.lit (.int .i64 d))],[(64,1,.var [.lit (.int .i64 c),.sl (ab aN.enc a)])],2⟩
attribute [go_sem] tk
attribute [go_sem] Tryz.ntmps123 Tryz.results123
def ri (c:List GNode)(d:Int)(g:List GTie)(h:Int)(e f:List Int):(Int × (List Bool) × (List aN))→St
 | (i,b,a)=>⟨[(2,.ptr 128 1 0 0),(3,.ptr 192 1 0 0),(4,.ptr 256 1 0 0),(6,.ptr 384 1 0 0),(7,.ref 1728 1 0 b.length),(29,.sl (ab GNode.encS c)),(30,.lit (.int .i64 d)),(31,.lit (.int .i64 i))],[(128,1,.var [.sl (ab GNode.encS c),.sl (ab GTie.enc g),.lit (.int .i64 h)]),(192,1,.var [.sl (ab eI e),.sl (ab eI f)]),(256,1,.var [.lit (.int .i64 0),.lit (.slice none 0 0)]),(384,1,.var [.lit (.int .i64 d),.ref 100024577 1 0 a.length]),(100024577,1,.row true (ab aN.enc a)),(1728,1,.row true (ab eB b))],2⟩
attribute [go_sem] ri
def rj (d:List GTie)(g:Int)(h:List GNode)(i:Int)(e f:List Int)(c:Int)(b:List Bool):(Int × (List aN))→St
 | (j,a)=>⟨[(2,.ptr 128 1 0 0),(3,.ptr 192 1 0 0),(4,.ptr 256 1 0 0),(6,.ptr 384 1 0 0),(7,.ref 1728 1 0 b.length),(61,.sl (ab GTie.enc d)),(62,.lit (.int .i64 g)),(63,.lit (.int .i64 j))],[(128,1,.var [.sl (ab GNode.encS h),.sl (ab GTie.enc d),.lit (.int .i64 i)]),(192,1,.var [.sl (ab eI e),.sl (ab eI f)]),(256,1,.var [.lit (.int .i64 0),.lit (.slice none 0 0)]),(384,1,.var [.lit (.int .i64 c),.ref 100024577 1 0 a.length]),(100024577,1,.row true (ab aN.enc a)),(1728,1,.row true (ab eB b))],2⟩
attribute [go_sem] rj
def rl (c:Int)(e:List GNode)(f:List GTie)(g:Int)(b:List Bool):(Int × (List aN))→St
 | (d,a)=>⟨[(2,.ptr 128 1 0 0),(4,.ptr 256 1 0 0),(6,.ptr 384 1 0 0),(7,.ref 1728 1 0 b.length),(114,.lit (.int .i64 c)),(115,.lit (.int .i64 d))],[(128,1,.var [.sl (ab GNode.encS e),.sl (ab GTie.enc f),.lit (.int .i64 g)]),(256,1,.var [.lit (.int .i64 0),.lit (.slice none 0 0)]),(384,1,.var [.lit (.int .i64 c),.ref 100024577 1 0 a.length]),(100024577,1,.row true (ab aN.enc a)),(1728,1,.row true (ab eB b))],2⟩
attribute [go_sem] rl
def rm (i:Int)(c:List GNode)(d:Int)(e:List Int)(f:Int)(h:List GTie)(j:Int)(b:List Bool):(Int × (List aN))→St
 | (g,a)=>⟨[(2,.ptr 128 1 0 0),(4,.ptr 256 1 0 0),(6,.ptr 384 1 0 0),(7,.ref 1728 1 0 b.length),(14,.lit (.int .i64 i)),(132,.sl (ab GNode.encS c)),(133,.lit (.int .i64 d)),(134,.lit (.int .i64 i)),(140,.sl (ab eI e)),(141,.lit (.int .i64 f)),(142,.lit (.int .i64 g))],[(128,1,.var [.sl (ab GNode.encS c),.sl (ab GTie.enc h),.lit (.int .i64 j)]),(256,1,.var [.lit (.int .i64 0),.lit (.slice none 0 0)]),(384,1,.var [.lit (.int .i64 d),.ref 100024577 1 0 a.length]),(100024577,1,.row true (ab aN.enc a)),(1728,1,.row true (ab eB b))],2⟩
attribute [go_sem] rm
def rn (c:List GNode)(d:Int)(f:List GTie)(g:Int)(b:List Bool):(Int × (List aN))→St
 | (e,a)=>⟨[(2,.ptr 128 1 0 0),(4,.ptr 256 1 0 0),(6,.ptr 384 1 0 0),(7,.ref 1728 1 0 b.length),(132,.sl (ab GNode.encS c)),(133,.lit (.int .i64 d)),(134,.lit (.int .i64 e))],[(128,1,.var [.sl (ab GNode.encS c),.sl (ab GTie.enc f),.lit (.int .i64 g)]),(256,1,.var [.lit (.int .i64 0),.lit (.slice none 0 0)]),(384,1,.var [.lit (.int .i64 d),.ref 100024577 1 0 a.length]),(100024577,1,.row true (ab aN.enc a)),(1728,1,.row true (ab eB b))],2⟩
attribute [go_sem] rn
@[go_sem] def hi54_35:DT:=.i1 0 (.i1 1 (.i1 2 (.i2 3 (.i2 6 (.i2 7 (.i0 4 [0,1,2] (.i0 5 [0,1] (.i2 8 (.i0 9 [0,1] (.i2 10 (.i2 11 (.i2 12 .nil))))))))))))
def hi54:Hint where
 acts:=fun _=>[]
 draws:=fun
  | 35=>⟨hi54_35,[[],[0],[],[],[3],[2,3,4],[],[],[2,3,4,5,6,7],[2,3,4,5,6,7,8],.range 10,.range 11,.range 12],.range 13⟩
  | _=>⟨.nil,[],[]⟩
theorem Vd (i:Nat):hi54.acts i=[]:=rfl
theorem Ve (i:Nat):hi54.views i=none:=rfl
attribute [go_sem] Vd Ve Tryz.ntmps54 Tryz.results54
@[go_sem] theorem XD:(hi54.draws 35).order=hi54_35:=rfl
@[go_sem] def hi55_1:DT:=.i2 0 (.i2 1 (.i2 2 (.i2 3 (.i2 4 (.i2 5 (.i2 6 (.i2 7 (.i2 8 (.i2 9 (.i2 10 (.i2 11 (.i2 12 (.i2 13 (.i2 14 (.i2 15 (.i2 16 (.i2 17 (.i2 18 (.i2 19 (.i2 20 (.i2 21 (.i2 22 (.i2 23 .nil)))))))))))))))))))))))
def hi55:Hint where
 acts:=fun _=>[]
 draws:=fun
  | 1=>⟨hi55_1,[[],[],[0,1],[0,1,2],[0,1,2,3],[0,1,2,3],[0,1,2,3,5],[0,1,2,3,5,6],[0,1,2,3,5,6,7],.range 9,.range 10,.range 11,.range 12,.range 13,.range 12,.range 15,.range 16,.range 17,.range 12,[0,1,2,3,4,5,6,7,8,9,10,11,18],.range 20,.range 21,.range 22,.range 23],.range 24⟩
  | _=>⟨.nil,[],[]⟩
theorem Vf (i:Nat):hi55.acts i=[]:=rfl
theorem Vg (i:Nat):hi55.views i=none:=rfl
attribute [go_sem] Vf Vg Tryz.ntmps55 Tryz.results55
@[go_sem] theorem Yx:(hi55.draws 1).order=hi55_1:=rfl
def tn (a:List Int)(b c:Int):St:=⟨[(17,.sl (ab eI a)),(18,.lit (.int .i64 b)),(19,.lit (.int .i64 c))],[],2⟩
attribute [go_sem] tn
attribute [go_sem] Tryz.ntmps125 Tryz.results125
attribute [go_sem] Tryz.ntmps200 Tryz.results200
def rO (a:List Int)(b:List aN)(c d:Int):St:=⟨[(1,.sl (ab eI a)),(12,.sl (ab aN.enc b)),(13,.lit (.int .i64 c)),(14,.lit (.int .i64 d))],[],2⟩
attribute [go_sem] rO
@[go_sem] def hi126_6:DT:=.i2 0 (.i2 1 (.i2 2 (.i2 3 (.i2 4 (.i2 5 (.i2 6 (.i2 7 (.i2 8 (.i2 9 (.i2 10 (.i2 11 (.i2 12 (.i2 13 (.i2 14 .nil))))))))))))))
def KL:Hint where
 acts:=fun _=>[]
 draws:=fun
  | 6=>⟨hi126_6,[[],[0],[],[],[3],[2,3,4],[2,3,4,5],[],[],[8],[7,8,9],[7,8,9,10],[2,3,4,5,6,7,8,9,10,11],.range 13,.range 14],.range 15⟩
  | _=>⟨.nil,[],[]⟩
theorem SQ (i:Nat):KL.acts i=[]:=rfl
theorem SR (i:Nat):KL.views i=none:=rfl
attribute [go_sem] SQ SR Tryz.ntmps126 Tryz.results126
@[go_sem] theorem XE:(KL.draws 6).order=hi126_6:=rfl
attribute [go_sem] Tryz.ntmps56 Tryz.results56
def tp (e:List Int)(f:Int)(g:List GNode)(h:List GTie)(i:Int)(c d:List Int)(j:Int)(a:List aN):(Int × (List Int))→St
 | (k,b)=>⟨[(3,.ptr 192 1 0 0),(4,.ptr 256 1 0 0),(7,.ptr 448 1 0 0),(9,.ref 1792 1 0 b.length),(29,.sl (ab eI e)),(30,.lit (.int .i64 f)),(31,.lit (.int .i64 k))],[(192,1,.var [.sl (ab GNode.encS g),.sl (ab GTie.enc h),.lit (.int .i64 i)]),(256,1,.var [.sl (ab eI c),.sl (ab eI d)]),(448,1,.var [.lit (.int .i64 j),.ref 960 1 0 a.length]),(960,1,.row true (ab aN.enc a)),(1792,1,.row true (ab eI b))],2⟩
attribute [go_sem] tp
attribute [go_sem] Tryz.ntmps11 Tryz.results11
def pX (a:Bool)(b:List GNode)(c:List GTie)(d n:Int):St:=⟨[(1,.lit (.bool a)),(2,.ptr 128 1 0 0),(5,.lit (.int .i64 n))],[(128,1,.var [.sl (ab GNode.encS b),.sl (ab GTie.enc c),.lit (.int .i64 d)])],2⟩
attribute [go_sem] pX
attribute [go_sem] Tryz.ntmps19 Tryz.results19
def oZ (s:ByteArray)(i:Int):St:=⟨[(0,.lit (.string s)),(3,.lit (.int .i64 i))],[],2⟩
attribute [go_sem] oZ
@[go_sem] def hi266_4:DT:=.i2 0 (.i2 1 (.i2 2 (.i2 3 (.i2 4 (.i2 5 (.i2 6 (.i2 7 (.i2 8 (.i2 9 (.i2 10 (.i2 11 (.i2 12 (.i2 13 (.i2 14 (.i2 15 (.i2 16 (.i2 17 (.i2 18 (.i2 19 (.i2 20 (.i2 21 .nil)))))))))))))))))))))
def Gt:Hint where
 acts:=fun _=>[]
 draws:=fun
  | 4=>⟨hi266_4,[[],[],[0,1],[0,1,2],[0,1,2,3],.range 5,.range 5,.range 7,.range 8,.range 9,[],[],[10,11],[10,11,12],[0,1,2,3,4,10,11,12,13],[0,1,2,3,4,10,11,12,13,14],[0,1,2,3,4,10,11,12,13,14],[0,1,2,3,4,10,11,12,13,14,15,16],[0,1,2,3,4,10,11,12,13,14,15,16,17],[0,1,2,3,4,10,11,12,13,14,15,16,17,18],.range 15,.range 21],[0,1,2,3,4,5,6,7,8,9,10,11,12,13,14,16,17,18,19,20,15,21]⟩
  | _=>⟨.nil,[],[]⟩
theorem SS (i:Nat):Gt.acts i=[]:=rfl
theorem ST (i:Nat):Gt.views i=none:=rfl
attribute [go_sem] SS ST Tryz.ntmps266 Tryz.results266
@[go_sem] theorem XF:(Gt.draws 4).order=hi266_4:=rfl
theorem Fx {s:ByteArray}{res:Bool}(h:kT s=some res):al Tryz.prog 266 [.lit (.string s)] [] (.lit (.bool res)) []:=by
 refine ai (ra:=[]) (md:=mdT) hT (hi:=Gt) Tryz.func266 rfl rfl (by decide +kernel) (by simp) ?_
 unfold kT at h
 obtain ⟨q02,l1,h⟩:=ae h
 simp(config:=cS)only[go_sem]
 refine ar (m1:=.mk) (m2:=.mk) [.nf [0,3] []] (oZ s) l1 ?_ ?_
 ·simp(config:=cS)only[go_sem]
 ·intro nb2 i_1 bb2 b2 gb2
  unfold gb at b2
  try dsimp only at b2
  obtain ⟨h3,b2⟩|⟨h3,b2⟩:=af b2
  ·obtain ⟨c1001,g4,b2⟩:=ae b2
   obtain ⟨h5,h6,h7⟩:=ij g4
   obtain ⟨h8,b2⟩|⟨h8,b2⟩:=af b2
   ·obtain ⟨h9,b2⟩|⟨h9,b2⟩:=af b2
    ·obtain ⟨h10,b2⟩|⟨h10,b2⟩:=af b2
     ·cases b2
      simp(config:=cS)only[go_sem,eqT h3,h5,h6,h7,eqT h8,eqT h9,eqT h10]
      refine au gb2 ?_
      simp(config:=cS)only[go_sem]
     ·obtain ⟨h11,b2⟩|⟨h11,b2⟩:=af b2
      ·obtain ⟨h12,b2⟩|⟨h12,b2⟩:=af b2
       ·cases b2
        obtain rfl:=(aj gb2).symm
        try dsimp only at h
        cases h
        simp(config:=cS)only[go_sem,eqT h3,h5,h6,h7,eqT h8,eqT h9,eqF h10,eqT h11,eqT h12]
       ·cases b2
        simp(config:=cS)only[go_sem,eqT h3,h5,h6,h7,eqT h8,eqT h9,eqF h10,eqT h11,eqF h12]
        refine au gb2 ?_
        simp(config:=cS)only[go_sem]
      ·cases b2
       obtain rfl:=(aj gb2).symm
       try dsimp only at h
       cases h
       simp(config:=cS)only[go_sem,eqT h3,h5,h6,h7,eqT h8,eqT h9,eqF h10,eqF h11]
    ·obtain ⟨h15,b2⟩|⟨h15,b2⟩:=af b2
     ·cases b2
      simp(config:=cS)only[go_sem,eqT h3,h5,h6,h7,eqT h8,eqF h9,eqT h15]
      refine au gb2 ?_
      simp(config:=cS)only[go_sem]
     ·cases b2
      obtain rfl:=(aj gb2).symm
      try dsimp only at h
      cases h
      simp(config:=cS)only[go_sem,eqT h3,h5,h6,h7,eqT h8,eqF h9,eqF h15]
   ·obtain ⟨h17,b2⟩|⟨h17,b2⟩:=af b2
    ·obtain ⟨h18,b2⟩|⟨h18,b2⟩:=af b2
     ·obtain ⟨h19,b2⟩|⟨h19,b2⟩:=af b2
      ·cases b2
       obtain rfl:=(aj gb2).symm
       try dsimp only at h
       cases h
       simp(config:=cS)only[go_sem,eqT h3,h5,h6,h7,eqF h8,eqT h17,eqT h18,eqT h19]
      ·cases b2
       simp(config:=cS)only[go_sem,eqT h3,h5,h6,h7,eqF h8,eqT h17,eqT h18,eqF h19]
       refine au gb2 ?_
       simp(config:=cS)only[go_sem]
     ·cases b2
      obtain rfl:=(aj gb2).symm
      try dsimp only at h
      cases h
      simp(config:=cS)only[go_sem,eqT h3,h5,h6,h7,eqF h8,eqT h17,eqF h18]
    ·cases b2
     obtain rfl:=(aj gb2).symm
     try dsimp only at h
     cases h
     simp(config:=cS)only[go_sem,eqT h3,h5,h6,h7,eqF h8,eqF h17]
  ·cases b2
   obtain rfl:=(aj gb2).symm
   try dsimp only at h
   obtain ⟨h24,h⟩|⟨h24,h⟩:=af h
   ·cases h
    simp(config:=cS)only[go_sem,eqF h3,eqT h24]
   ·cases h
    simp(config:=cS)only[go_sem,eqF h3,eqF h24]
attribute [go_sem] Tryz.ntmps176 Tryz.results176
theorem iU {l res:Int}(h:du l=some res):al Tryz.prog 176 [.lit (.int .i64 l)] [] (.lit (.int .i64 res)) []:=by
 refine ai (ra:=[]) (md:=mdT) hT (hi:=hi00) Tryz.func176 rfl rfl (by decide +kernel) (by simp) ?_
 unfold du at h
 cases h
 simp(config:=cS)only[go_sem]
def ol (l:List Int)(a b:Int):St:=⟨[(0,.sl (ab eI l)),(5,.sl (ab eI l)),(6,.lit (.int .i64 a)),(7,.lit (.int .i64 b))],[],2⟩
attribute [go_sem] ol
attribute [go_sem] Tryz.ntmps172 Tryz.results172
theorem jR {l:List Int}{res:Bool}(h:dx l=some res):al Tryz.prog 172 [.sl (ab eI l)] [] (.lit (.bool res)) []:=by
 refine ai (ra:=[]) (md:=mdT) hT (hi:=hi00) Tryz.func172 rfl rfl (by decide +kernel) (by simp) ?_
 unfold dx at h
 obtain ⟨q05,l1,h⟩:=ae h
 simp(config:=cS)only[go_sem]
 refine ar (m1:=.mk) (m2:=.mk) [.nf [0,5,6,7] []] (ol l ((l.length:Nat):Int)) l1 ?_ ?_
 ·simp(config:=cS)only[go_sem]
 ·intro nb2 v7_1 bb2 b2 gb2
  unfold fq at b2
  try dsimp only at b2
  obtain ⟨h3,b2⟩|⟨h3,b2⟩:=af b2
  ·obtain ⟨x01,g4,b2⟩:=ae b2
   obtain ⟨h5,h6,h7⟩:=ak g4
   obtain ⟨h8,b2⟩|⟨h8,b2⟩:=af b2
   ·cases b2
    obtain rfl:=(aj gb2).symm
    try dsimp only at h
    cases h
    simp(config:=cS)only[go_sem,eqT h3,h5,h6,h7,eqT h8]
   ·obtain ⟨h10,b2⟩|⟨h10,b2⟩:=af b2
    ·cases b2
     obtain rfl:=(aj gb2).symm
     try dsimp only at h
     cases h
     simp(config:=cS)only[go_sem,eqT h3,h5,h6,h7,eqF h8,eqT h10]
    ·obtain ⟨h12,b2⟩|⟨h12,b2⟩:=af b2
     ·cases b2
      obtain rfl:=(aj gb2).symm
      try dsimp only at h
      cases h
      simp(config:=cS)only[go_sem,eqT h3,h5,h6,h7,eqF h8,eqF h10,eqT h12]
     ·obtain ⟨h14,b2⟩|⟨h14,b2⟩:=af b2
      ·obtain ⟨x02,g15,b2⟩:=ae b2
       obtain ⟨h16,h17,h18⟩:=ak g15
       obtain ⟨r03,g19,b2⟩:=ae b2
       simp(config:=cS)only[go_sem,eqT h3,h5,h6,h7,eqF h8,eqF h10,eqF h12,eqT h14,h16,h17,h18]
       refine ag (iU g19) ?_
       obtain ⟨r04,g20,b2⟩:=ae b2
       simp(config:=cS)only[go_sem]
       refine ag (iU g20) ?_
       obtain ⟨h21,b2⟩|⟨h21,b2⟩:=af b2
       ·cases b2
        obtain rfl:=(aj gb2).symm
        try dsimp only at h
        cases h
        simp(config:=cS)only[go_sem,eqT h21]
       ·cases b2
        simp(config:=cS)only[go_sem,eqF h21]
        refine au gb2 ?_
        simp(config:=cS)only[go_sem]
      ·cases b2
       simp(config:=cS)only[go_sem,eqT h3,h5,h6,h7,eqF h8,eqF h10,eqF h12,eqF h14]
       refine au gb2 ?_
       simp(config:=cS)only[go_sem]
  ·cases b2
   obtain rfl:=(aj gb2).symm
   try dsimp only at h
   cases h
   simp(config:=cS)only[go_sem,eqF h3]
attribute [go_sem] Tryz.ntmps223 Tryz.results223
theorem Fy {n:GNode}{res:Bool}(h:kU n=some res):al Tryz.prog 223 [.agg (GNode.encS n)] [] (.lit (.bool res)) []:=by
 refine ai (ra:=[]) (md:=mdT) hT (hi:=hi00) Tryz.func223 rfl rfl (by decide +kernel) (by simp) ?_
 unfold kU at h
 obtain ⟨r01,g1,h⟩:=ae h
 simp(config:=cS)only[go_sem]
 refine ag (Fx g1) ?_
 obtain ⟨h2,h⟩|⟨h2,h⟩:=af h
 ·obtain ⟨r02,g3,h⟩:=ae h
  simp(config:=cS)only[go_sem,eZt h2]
  refine ag (jR g3) ?_
  obtain ⟨h4,h⟩|⟨h4,h⟩:=af h
  ·obtain ⟨h5,h⟩|⟨h5,h⟩:=af h
   ·cases h
    simp(config:=cS)only[go_sem,eZt h2,eZt h4,eqT h5]
   ·cases h
    simp(config:=cS)only[go_sem,eZt h2,eZt h4,eqF h5]
  ·cases h
   simp(config:=cS)only[go_sem,eZt h2,eZf h4]
 ·cases h
  simp(config:=cS)only[go_sem,eZf h2]
def nw (a:List GNode)(b c:Int)(d:List GNode)(e:Int)(f:List GTie)(g:Int)(h:ByteArray)(i:List Int)(j k:Int):St:=⟨[(1,.ptr 64 1 0 0),(4,.ptr 256 1 0 0),(35,.sl (ab GNode.encS a)),(36,.lit (.int .i64 b)),(37,.lit (.int .i64 c)),(48,.sl (ab GNode.encS d)),(49,.lit (.int .i64 e)),(50,.lit (.int .i64 k))],[(64,1,.var [.sl (ab GNode.encS a),.sl (ab GTie.enc f),.lit (.int .i64 g)]),(256,1,.var [.lit (.string h),.sl (ab eI i),.lit (.int .i64 j)])],2⟩
attribute [go_sem] nw
def nx (a:List GNode)(b:Int)(c:List GTie)(d e:Int):St:=⟨[(1,.ptr 64 1 0 0),(35,.sl (ab GNode.encS a)),(36,.lit (.int .i64 b)),(37,.lit (.int .i64 e))],[(64,1,.var [.sl (ab GNode.encS a),.sl (ab GTie.enc c),.lit (.int .i64 d)])],2⟩
attribute [go_sem] nx
attribute [go_sem] Tryz.ntmps142 Tryz.results142
theorem BS {s:GShow}{res:Bool}(h:jh s=some res):al Tryz.prog 142 [.agg (GShow.encS s)] [] (.lit (.bool res)) []:=by
 refine ai (ra:=[]) (md:=mdT) hT (hi:=hi00) Tryz.func142 rfl rfl (by decide +kernel) (by simp) ?_
 unfold jh at h
 obtain ⟨h1,h⟩|⟨h1,h⟩:=af h
 ·cases h
  simp(config:=cS)only[go_sem,eqT h1]
 ·obtain ⟨h2,h⟩|⟨h2,h⟩:=af h
  ·cases h
   simp(config:=cS)only[go_sem,eqF h1,eqT h2]
  ·obtain ⟨x01,g3,h⟩:=ae h
   obtain ⟨h5,h6⟩:=dg (k:=0) g3
   obtain ⟨h7,h⟩|⟨h7,h⟩:=af h
   ·cases h
    simp(config:=cS)only[go_sem,eqF h1,eqF h2,h5,h6,eqT h7]
   ·obtain ⟨h8,h⟩|⟨h8,h⟩:=af h
    ·obtain ⟨q06,l9,h⟩:=ae h
     simp(config:=cS)only[go_sem,eqF h1,eqF h2,h5,h6,eqF h7,eqT h8]
     refine ar (m1:=.mk) (m2:=.mk) [.nf [1,35,36,37] [64]] (nx s.nodes ((s.nodes.length:Nat):Int) s.ties s.horizon) l9 ?_ ?_
     ·simp(config:=cS)only[go_sem]
     ·intro nb10 v37_1 bb10 b10 gb10
      unfold ey at b10
      try dsimp only at b10
      obtain ⟨h11,b10⟩|⟨h11,b10⟩:=af b10
      ·obtain ⟨x02,g12,b10⟩:=ae b10
       obtain ⟨h13,h14,h15⟩:=ak g12
       obtain ⟨r03,g16,b10⟩:=ae b10
       simp(config:=cS)only[go_sem,eqT h11,h13,h14,h15]
       refine ag (Fy g16) ?_
       obtain ⟨h17,b10⟩|⟨h17,b10⟩:=af b10
       ·obtain ⟨h18,b10⟩:=am b10
        obtain ⟨h19,b10⟩:=am b10
        obtain ⟨q05,l20,b10⟩:=ae b10
        simp(config:=cS)only[go_sem,eZt h17,eqT h18,eqT h19]
        refine ar (m1:=.mk) (m2:=.mk) [.nf [1,4,35,36,37,48,49,50] [64,256]] (nw s.nodes ((s.nodes.length:Nat):Int) v37_1 (s.nodes.take v37_1.toNat) (((s.nodes.take v37_1.toNat).length:Nat):Int) s.ties s.horizon x02.name x02.label x02.watch) l20 ?_ ?_
        ·simp(config:=cS)only[go_sem]
        ·intro nb21 v50_2 bb21 b21 gb21
         unfold eu at b21
         try dsimp only at b21
         obtain ⟨h22,b21⟩|⟨h22,b21⟩:=af b21
         ·obtain ⟨x04,g23,b21⟩:=ae b21
          obtain ⟨h24,h25,h26⟩:=ak g23
          obtain ⟨h27,b21⟩|⟨h27,b21⟩:=af b21
          ·cases b21
           obtain rfl:=(aj gb21).symm
           try dsimp only at b10
           cases b10
           obtain rfl:=(aj gb10).symm
           try dsimp only at h
           cases h
           simp(config:=cS)only[go_sem,eqT h22,h24,h25,h26,eqT h27]
          ·obtain ⟨h30,b21⟩|⟨h30,b21⟩:=af b21
           ·cases b21
            simp(config:=cS)only[go_sem,eqT h22,h24,h25,h26,eqF h27,eqT h30]
            refine au gb21 ?_
            simp(config:=cS)only[go_sem]
           ·obtain ⟨h31,b21⟩|⟨h31,b21⟩:=af b21
            ·cases b21
             obtain rfl:=(aj gb21).symm
             try dsimp only at b10
             cases b10
             obtain rfl:=(aj gb10).symm
             try dsimp only at h
             cases h
             simp(config:=cS)only[go_sem,eqT h22,h24,h25,h26,eqF h27,eqF h30,eqT h31]
            ·cases b21
             simp(config:=cS)only[go_sem,eqT h22,h24,h25,h26,eqF h27,eqF h30,eqF h31]
             refine au gb21 ?_
             simp(config:=cS)only[go_sem]
         ·cases b21
          obtain rfl:=(aj gb21).symm
          try dsimp only at b10
          cases b10
          simp(config:=cS)only[go_sem,eqF h22]
          refine au gb10 ?_
          simp(config:=cS)only[go_sem]
       ·cases b10
        obtain rfl:=(aj gb10).symm
        try dsimp only at h
        cases h
        simp(config:=cS)only[go_sem,eZf h17]
      ·cases b10
       obtain rfl:=(aj gb10).symm
       try dsimp only at h
       cases h
       simp(config:=cS)only[go_sem,eqF h11]
    ·cases h
     simp(config:=cS)only[go_sem,eqF h1,eqF h2,h5,h6,eqF h7,eqF h8]
attribute [go_sem] Tryz.ntmps103 Tryz.results103
theorem qt {n node:Int}{res:Bool}(h:gS n node=some res):al Tryz.prog 103 [.lit (.int .i64 n),.lit (.int .i64 node)] [] (.lit (.bool res)) []:=by
 refine ai (ra:=[]) (md:=mdT) hT (hi:=hi00) Tryz.func103 rfl rfl (by decide +kernel) (by simp) ?_
 unfold gS at h
 obtain ⟨h1,h⟩|⟨h1,h⟩:=af h
 ·cases h
  simp(config:=cS)only[go_sem,eqT h1]
 ·cases h
  simp(config:=cS)only[go_sem,eqF h1]
attribute [go_sem] Tryz.ntmps224 Tryz.results224
theorem uM {n:Int}{res:Bool}(h:iV n=some res):al Tryz.prog 224 [.lit (.int .i64 n)] [] (.lit (.bool res)) []:=by
 refine ai (ra:=[]) (md:=mdT) hT (hi:=hi00) Tryz.func224 rfl rfl (by decide +kernel) (by simp) ?_
 unfold iV at h
 obtain ⟨h1,h⟩|⟨h1,h⟩:=af h
 ·cases h
  simp(config:=cS)only[go_sem,eqT h1]
 ·cases h
  simp(config:=cS)only[go_sem,eqF h1]
def lE (c d:List Int)(a b:Int):St:=⟨[(0,.sl (ab eI c)),(1,.sl (ab eI d)),(12,.lit (.int .i64 a)),(13,.lit (.int .i64 b))],[],2⟩
attribute [go_sem] lE
@[go_sem] def hi91_6:DT:=.i2 0 (.i2 1 (.i2 2 (.i2 3 (.i2 4 (.i2 5 (.i2 6 (.i2 7 (.i2 8 .nil))))))))
def hi91:Hint where
 acts:=fun _=>[]
 draws:=fun
  | 6=>⟨hi91_6,[[],[],[0,1],[0,1,2],[],[],[4,5],[4,5,6],.range 8],.range 9⟩
  | _=>⟨.nil,[],[]⟩
theorem Vh (i:Nat):hi91.acts i=[]:=rfl
theorem Vi (i:Nat):hi91.views i=none:=rfl
attribute [go_sem] Vh Vi Tryz.ntmps91 Tryz.results91
@[go_sem] theorem Yy:(hi91.draws 6).order=hi91_6:=rfl
theorem ek {v0 v1:List Int}{res:Bool}(h:bS v0 v1=some res):al Tryz.prog 91 [.sl (ab eI v0),.sl (ab eI v1)] [] (.lit (.bool res)) []:=by
 refine ai (ra:=[]) (md:=mdT) hT (hi:=hi91) Tryz.func91 rfl rfl (by decide +kernel) (by simp) ?_
 unfold bS at h
 obtain ⟨h1,h⟩|⟨h1,h⟩:=af h
 ·obtain ⟨q03,l2,h⟩:=ae h
  simp(config:=cS)only[go_sem,eqT h1]
  refine ar (m1:=.mk) (m2:=.mk) [.nf [0,1,12,13] []] (lE v0 v1 ((v0.length:Nat):Int)) l2 ?_ ?_
  ·simp(config:=cS)only[go_sem]
  ·intro nb3 v13_1 bb3 b3 gb3
   unfold cY at b3
   try dsimp only at b3
   obtain ⟨h4,b3⟩|⟨h4,b3⟩:=af b3
   ·obtain ⟨x01,g5,b3⟩:=ae b3
    obtain ⟨h6,h7,h8⟩:=ak g5
    obtain ⟨x02,g9,b3⟩:=ae b3
    obtain ⟨h10,h11,h12⟩:=ak g9
    obtain ⟨h13,b3⟩|⟨h13,b3⟩:=af b3
    ·cases b3
     simp(config:=cS)only[go_sem,eqT h4,h6,h7,h8,h10,h11,h12,eqT h13]
     refine au gb3 ?_
     simp(config:=cS)only[go_sem]
    ·cases b3
     obtain rfl:=(aj gb3).symm
     try dsimp only at h
     cases h
     simp(config:=cS)only[go_sem,eqT h4,h6,h7,h8,h10,h11,h12,eqF h13]
   ·cases b3
    obtain rfl:=(aj gb3).symm
    try dsimp only at h
    cases h
    simp(config:=cS)only[go_sem,eqF h4]
 ·cases h
  simp(config:=cS)only[go_sem,eqF h1]
def jS (c:List GTie)(a:Nat)(b:List AV)(d e:Int):St:=⟨[(0,.sl (ab GTie.enc c)),(1,.fn a b),(7,.lit (.int .i64 d)),(8,.lit (.int .i64 e))],[],2⟩
attribute [go_sem] jS
attribute [go_sem] Tryz.ntmps276 Tryz.results276
theorem mD {v0:List GTie}{v1:GTie→Option Bool}{f_v1:Nat}{k_v1:List AV}(hp_v1:∀ y0 r,v1 y0=some r→al Tryz.prog f_v1 ([.agg (GTie.enc y0)]++k_v1) [] (.lit (.bool r)) [])(hc_v1:KC k_v1)(hm_v1:∀ a,mdT f_v1 a=⟨[],false⟩)(hk_v1:spf f_v1=false){res:Int}(h:cL v0 v1=some res):al Tryz.prog 276 [.sl (ab GTie.enc v0),.fn f_v1 k_v1] [] (.lit (.int .i64 res)) []:=by
 refine ai (ra:=[]) (md:=mdT) hT (hi:=hi00) Tryz.func276 rfl rfl (by decide +kernel) (by simp) ?_
 unfold cL at h
 obtain ⟨q03,l1,h⟩:=ae h
 simp(config:=cS)only[go_sem,hc_v1.1,hc_v1.2,hm_v1,hk_v1]
 refine ar (m1:=.mk) (m2:=.mk) [.nf [0,1,7,8] []] (jS v0 f_v1 k_v1 ((v0.length:Nat):Int)) l1 ?_ ?_
 ·simp(config:=cS)only[go_sem,hc_v1.1,hc_v1.2,hm_v1,hk_v1]
 ·intro nb2 v8_1 bb2 b2 gb2
  unfold ck at b2
  try dsimp only at b2
  obtain ⟨h3,b2⟩|⟨h3,b2⟩:=af b2
  ·obtain ⟨x01,g4,b2⟩:=ae b2
   obtain ⟨h5,h6,h7⟩:=ak g4
   obtain ⟨r02,g8,b2⟩:=ae b2
   simp(config:=cS)only[go_sem,hc_v1.1,hc_v1.2,hm_v1,hk_v1,eqT h3,h5,h6,h7]
   refine ag (hp_v1 _ _ g8) ?_
   obtain ⟨h9,b2⟩|⟨h9,b2⟩:=af b2
   ·cases b2
    obtain rfl:=(aj gb2).symm
    try dsimp only at h
    cases h
    simp(config:=cS)only[go_sem,hc_v1.1,hc_v1.2,hm_v1,hk_v1,eqT h3,h5,h6,h7,eZt h9]
   ·cases b2
    simp(config:=cS)only[go_sem,hc_v1.1,hc_v1.2,hm_v1,hk_v1,eqT h3,h5,h6,h7,eZf h9]
    refine au gb2 ?_
    simp(config:=cS)only[go_sem,hc_v1.1,hc_v1.2,hm_v1,hk_v1,eqT h3,h5,h6,h7,eZf h9]
  ·cases b2
   obtain rfl:=(aj gb2).symm
   try dsimp only at h
   cases h
   simp(config:=cS)only[go_sem,hc_v1.1,hc_v1.2,hm_v1,hk_v1,eqF h3]
attribute [go_sem] Tryz.ntmps225 Tryz.results225
theorem lr {v0:List GTie}{v1:GTie→Option Bool}{f_v1:Nat}{k_v1:List AV}(hp_v1:∀ y0 r,v1 y0=some r→al Tryz.prog f_v1 ([.agg (GTie.enc y0)]++k_v1) [] (.lit (.bool r)) [])(hc_v1:KC k_v1)(hm_v1:∀ a,mdT f_v1 a=⟨[],false⟩)(hk_v1:spf f_v1=false){res:Bool}(h:bQ v0 v1=some res):al Tryz.prog 225 [.sl (ab GTie.enc v0),.fn f_v1 k_v1] [] (.lit (.bool res)) []:=by
 refine ai (ra:=[]) (md:=mdT) hT (hi:=hi00) Tryz.func225 rfl rfl (by decide +kernel) (by simp) ?_
 unfold bQ at h
 obtain ⟨r01,g1,h⟩:=ae h
 simp(config:=cS)only[go_sem,hc_v1.1,hc_v1.2,hm_v1,hk_v1]
 refine ag (mD hp_v1 hc_v1 hm_v1 hk_v1 g1) ?_
 cases h
 simp(config:=cS)only[go_sem]
attribute [go_sem] Tryz.ntmps226 Tryz.results226
theorem xR {u t:GTie}{res:Bool}(h:gU u t=some res):al Tryz.prog 226 [.agg (GTie.enc u),.loc [.lit (.int .i64 t.from_),.lit (.int .i64 t.to),.lit (.int .i64 t.low),.lit (.int .i64 t.high),.lit (.bool t.free)]] [] (.lit (.bool res)) []:=by
 refine ai (ra:=[]) (md:=mdT) hT (hi:=hi00) Tryz.func226 rfl rfl (by decide +kernel) (by simp) ?_
 unfold gU at h
 obtain ⟨h1,h⟩|⟨h1,h⟩:=af h
 ·cases h
  simp(config:=cS)only[go_sem,eZt h1]
 ·cases h
  simp(config:=cS)only[go_sem,eZf h1]
def om (a:List GTie)(d:Int)(b:List GNode)(c e:Int):St:=⟨[(1,.ptr 64 1 0 0),(6,.sl (ab GTie.enc a)),(7,.lit (.int .i64 d)),(8,.lit (.int .i64 e))],[(64,1,.var [.sl (ab GNode.encS b),.sl (ab GTie.enc a),.lit (.int .i64 c)])],2⟩
attribute [go_sem] om
@[go_sem] def hi143_7:DT:=.i2 0 (.i2 1 (.i2 2 (.i2 3 (.i2 4 (.i2 5 (.i2 6 (.i2 7 (.i2 8 (.i2 9 (.i2 10 (.i2 11 (.i2 12 (.i2 13 (.i2 14 (.i2 15 (.i2 16 (.i2 17 (.i2 18 (.i2 19 (.i2 20 (.i2 21 (.i2 22 (.i2 23 (.i2 24 (.i2 25 (.i2 26 (.i2 27 (.i2 28 (.i2 29 (.i2 30 (.i2 31 (.i2 32 (.i2 33 (.i2 34 (.i2 35 .nil)))))))))))))))))))))))))))))))))))
def Gu:Hint where
 acts:=fun _=>[]
 draws:=fun
  | 7=>⟨hi143_7,[[],[0],[0,1],[0,1,2],[0,1,2,3],.range 5,.range 6,.range 7,.range 8,.range 9,.range 10,.range 9,[0,1,2,3,4,5,6,7,8,11],.range 13,.range 14,.range 15,.range 16,.range 17,.range 18,.range 19,.range 20,.range 19,[0,1,2,3,4,5,6,7,8,9,10,11,12,13,14,15,16,17,18,21],.range 23,.range 24,.range 25,.range 19,[0,1,2,3,4,5,6,7,8,9,10,11,12,13,14,15,16,17,18,26],.range 19,[0,1,2,3,4,5,6,7,8,9,10,11,12,13,14,15,16,17,18,28],[0,1,2,3,4,5,6,7,8,9,10,11,12,13,14,15,16,17,18,26,27,28,29],[0,1,2,3,4,5,6,7,8,9,10,11,12,13,14,15,16,17,18,26,27,28,29,30],[0,1,2,3,4,5,6,7,8,9,10,11,12,13,14,15,16,17,18,26,27,28,29,30,31],.range 33,.range 34,.range 35],.range 36⟩
  | _=>⟨.nil,[],[]⟩
theorem SU (i:Nat):Gu.acts i=[]:=rfl
theorem SV (i:Nat):Gu.views i=none:=rfl
attribute [go_sem] SU SV Tryz.ntmps143 Tryz.results143
@[go_sem] theorem XG:(Gu.draws 7).order=hi143_7:=rfl
theorem Dw {s:GShow}{res:Bool}(h:jZ s=some res):al Tryz.prog 143 [.agg (GShow.encS s)] [] (.lit (.bool res)) []:=by
 refine ai (ra:=[]) (md:=mdT) hT (hi:=Gu) Tryz.func143 rfl rfl (by decide +kernel) (by simp) ?_
 unfold jZ at h
 obtain ⟨q10,l1,h⟩:=ae h
 simp(config:=cS)only[go_sem]
 refine ar (m1:=.mk) (m2:=.mk) [.nf [1,6,7,8] [64]] (om s.ties ((s.ties.length:Nat):Int) s.nodes s.horizon) l1 ?_ ?_
 ·simp(config:=cS)only[go_sem]
 ·intro nb2 v8_1 bb2 b2 gb2
  unfold fv at b2
  try dsimp only at b2
  obtain ⟨h3,b2⟩|⟨h3,b2⟩:=af b2
  ·obtain ⟨x01,g4,b2⟩:=ae b2
   obtain ⟨h5,h6,h7⟩:=ak g4
   obtain ⟨r02,g8,b2⟩:=ae b2
   simp(config:=cS)only[go_sem,eqT h3,h5,h6,h7]
   refine ag (qt g8) ?_
   obtain ⟨h9,b2⟩|⟨h9,b2⟩:=af b2
   ·obtain ⟨r03,g10,b2⟩:=ae b2
    simp(config:=cS)only[go_sem,eqT h3,h5,h6,h7,eZt h9]
    refine ag (qt g10) ?_
    obtain ⟨h11,b2⟩|⟨h11,b2⟩:=af b2
    ·obtain ⟨h12,b2⟩|⟨h12,b2⟩:=af b2
     ·cases b2
      obtain rfl:=(aj gb2).symm
      try dsimp only at h
      cases h
      simp(config:=cS)only[go_sem,eqT h3,h5,h6,h7,eZt h9,eZt h11,eqT h12]
     ·obtain ⟨r04,g14,b2⟩:=ae b2
      simp(config:=cS)only[go_sem,eqT h3,h5,h6,h7,eZt h9,eZt h11,eqF h12]
      refine ag (uM g14) ?_
      obtain ⟨h15,b2⟩|⟨h15,b2⟩:=af b2
      ·obtain ⟨r05,g16,b2⟩:=ae b2
       simp(config:=cS)only[go_sem,eqT h3,h5,h6,h7,eZt h9,eZt h11,eqF h12,eZt h15]
       refine ag (uM g16) ?_
       obtain ⟨h17,b2⟩|⟨h17,b2⟩:=af b2
       ·obtain ⟨h18,b2⟩|⟨h18,b2⟩:=af b2
        ·cases b2
         obtain rfl:=(aj gb2).symm
         try dsimp only at h
         cases h
         simp(config:=cS)only[go_sem,eqT h3,h5,h6,h7,eZt h9,eZt h11,eqF h12,eZt h15,eZt h17,eqT h18]
        ·obtain ⟨h20,b2⟩|⟨h20,b2⟩:=af b2
         ·obtain ⟨h21,b2⟩|⟨h21,b2⟩:=af b2
          ·cases b2
           obtain rfl:=(aj gb2).symm
           try dsimp only at h
           cases h
           simp(config:=cS)only[go_sem,eqT h3,h5,h6,h7,eZt h9,eZt h11,eqF h12,eZt h15,eZt h17,eqF h18,eZt h20,eqT h21]
          ·obtain ⟨h23,b2⟩|⟨h23,b2⟩:=af b2
           ·cases b2
            obtain rfl:=(aj gb2).symm
            try dsimp only at h
            cases h
            simp(config:=cS)only[go_sem,eqT h3,h5,h6,h7,eZt h9,eZt h11,eqF h12,eZt h15,eZt h17,eqF h18,eZt h20,eqF h21,eqT h23]
           ·obtain ⟨x06,g25,b2⟩:=ae b2
            obtain ⟨h26,h27,h28⟩:=ak g25
            obtain ⟨h29,b2⟩|⟨h29,b2⟩:=af b2
            ·obtain ⟨x07,g30,b2⟩:=ae b2
             obtain ⟨h31,h32,h33⟩:=ak g30
             obtain ⟨r08,g34,b2⟩:=ae b2
             simp(config:=cS)only[go_sem,eqT h3,h5,h6,h7,eZt h9,eZt h11,eqF h12,eZt h15,eZt h17,eqF h18,eZt h20,eqF h21,eqF h23,h26,h27,h28,eqT h29,h31,h32,h33]
             refine ag (ek g34) ?_
             obtain ⟨h35,b2⟩|⟨h35,b2⟩:=af b2
             ·obtain ⟨h36,b2⟩:=am b2
              obtain ⟨h37,b2⟩:=am b2
              obtain ⟨r09,g38,b2⟩:=ae b2
              simp(config:=cS)only[go_sem,eqT h3,h5,h6,h7,eZt h9,eZt h11,eqF h12,eZt h15,eZt h17,eqF h18,eZt h20,eqF h21,eqF h23,h26,h27,h28,eqT h29,h31,h32,h33,eZt h35,eqT h36,eqT h37]
              refine ag (lr (by exact fun _ _ hr=>xR hr) (by refine ⟨fun _=>?_,fun _=>?_⟩ <;> simp only [go_sem]) (fun _=>rfl) rfl g38) ?_
              obtain ⟨h39,b2⟩|⟨h39,b2⟩:=af b2
              ·cases b2
               obtain rfl:=(aj gb2).symm
               try dsimp only at h
               cases h
               simp(config:=cS)only[go_sem,eqT h3,h5,h6,h7,eZt h9,eZt h11,eqF h12,eZt h15,eZt h17,eqF h18,eZt h20,eqF h21,eqF h23,h26,h27,h28,eqT h29,h31,h32,h33,eZt h35,eqT h36,eqT h37,eZt h39]
              ·cases b2
               simp(config:=cS)only[go_sem,eqT h3,h5,h6,h7,eZt h9,eZt h11,eqF h12,eZt h15,eZt h17,eqF h18,eZt h20,eqF h21,eqF h23,h26,h27,h28,eqT h29,h31,h32,h33,eZt h35,eqT h36,eqT h37,eZf h39]
               refine au gb2 ?_
               simp(config:=cS)only[go_sem,eqT h3,h5,h6,h7,eZt h9,eZt h11,eqF h12,eZt h15,eZt h17,eqF h18,eZt h20,eqF h21,eqF h23,h26,h27,h28,eqT h29,h31,h32,h33,eZt h35,eqT h36,eqT h37,eZf h39]
             ·cases b2
              obtain rfl:=(aj gb2).symm
              try dsimp only at h
              cases h
              simp(config:=cS)only[go_sem,eqT h3,h5,h6,h7,eZt h9,eZt h11,eqF h12,eZt h15,eZt h17,eqF h18,eZt h20,eqF h21,eqF h23,h26,h27,h28,eqT h29,h31,h32,h33,eZf h35]
            ·cases b2
             obtain rfl:=(aj gb2).symm
             try dsimp only at h
             cases h
             simp(config:=cS)only[go_sem,eqT h3,h5,h6,h7,eZt h9,eZt h11,eqF h12,eZt h15,eZt h17,eqF h18,eZt h20,eqF h21,eqF h23,h26,h27,h28,eqF h29]
         ·cases b2
          simp(config:=cS)only[go_sem,eqT h3,h5,h6,h7,eZt h9,eZt h11,eqF h12,eZt h15,eZt h17,eqF h18,eZf h20]
          refine au gb2 ?_
          simp(config:=cS)only[go_sem,eqT h3,h5,h6,h7,eZt h9,eZt h11,eqF h12,eZt h15,eZt h17,eqF h18,eZf h20]
       ·cases b2
        obtain rfl:=(aj gb2).symm
        try dsimp only at h
        cases h
        simp(config:=cS)only[go_sem,eqT h3,h5,h6,h7,eZt h9,eZt h11,eqF h12,eZt h15,eZf h17]
      ·cases b2
       obtain rfl:=(aj gb2).symm
       try dsimp only at h
       cases h
       simp(config:=cS)only[go_sem,eqT h3,h5,h6,h7,eZt h9,eZt h11,eqF h12,eZf h15]
    ·cases b2
     obtain rfl:=(aj gb2).symm
     try dsimp only at h
     cases h
     simp(config:=cS)only[go_sem,eqT h3,h5,h6,h7,eZt h9,eZf h11]
   ·cases b2
    obtain rfl:=(aj gb2).symm
    try dsimp only at h
    cases h
    simp(config:=cS)only[go_sem,eqT h3,h5,h6,h7,eZf h9]
  ·cases b2
   obtain rfl:=(aj gb2).symm
   try dsimp only at h
   cases h
   simp(config:=cS)only[go_sem,eqF h3]
def jT (c:List Int)(a:Nat)(b:List AV)(d e:Int):St:=⟨[(0,.sl (ab eI c)),(1,.fn a b),(7,.lit (.int .i64 d)),(8,.lit (.int .i64 e))],[],2⟩
attribute [go_sem] jT
attribute [go_sem] Tryz.ntmps227 Tryz.results227
theorem mE {v0:List Int}{v1:Int→Option Bool}{f_v1:Nat}{k_v1:List AV}(hp_v1:∀ y0 r,v1 y0=some r→al Tryz.prog f_v1 ([.lit (.int .i64 y0)]++k_v1) [] (.lit (.bool r)) [])(hc_v1:KC k_v1)(hm_v1:∀ a,mdT f_v1 a=⟨[],false⟩)(hk_v1:spf f_v1=false){res:Int}(h:cM v0 v1=some res):al Tryz.prog 227 [.sl (ab eI v0),.fn f_v1 k_v1] [] (.lit (.int .i64 res)) []:=by
 refine ai (ra:=[]) (md:=mdT) hT (hi:=hi00) Tryz.func227 rfl rfl (by decide +kernel) (by simp) ?_
 unfold cM at h
 obtain ⟨q03,l1,h⟩:=ae h
 simp(config:=cS)only[go_sem,hc_v1.1,hc_v1.2,hm_v1,hk_v1]
 refine ar (m1:=.mk) (m2:=.mk) [.nf [0,1,7,8] []] (jT v0 f_v1 k_v1 ((v0.length:Nat):Int)) l1 ?_ ?_
 ·simp(config:=cS)only[go_sem,hc_v1.1,hc_v1.2,hm_v1,hk_v1]
 ·intro nb2 v8_1 bb2 b2 gb2
  unfold cm at b2
  try dsimp only at b2
  obtain ⟨h3,b2⟩|⟨h3,b2⟩:=af b2
  ·obtain ⟨x01,g4,b2⟩:=ae b2
   obtain ⟨h5,h6,h7⟩:=ak g4
   obtain ⟨r02,g8,b2⟩:=ae b2
   simp(config:=cS)only[go_sem,hc_v1.1,hc_v1.2,hm_v1,hk_v1,eqT h3,h5,h6,h7]
   refine ag (hp_v1 _ _ g8) ?_
   obtain ⟨h9,b2⟩|⟨h9,b2⟩:=af b2
   ·cases b2
    obtain rfl:=(aj gb2).symm
    try dsimp only at h
    cases h
    simp(config:=cS)only[go_sem,hc_v1.1,hc_v1.2,hm_v1,hk_v1,eqT h3,h5,h6,h7,eZt h9]
   ·cases b2
    simp(config:=cS)only[go_sem,hc_v1.1,hc_v1.2,hm_v1,hk_v1,eqT h3,h5,h6,h7,eZf h9]
    refine au gb2 ?_
    simp(config:=cS)only[go_sem,hc_v1.1,hc_v1.2,hm_v1,hk_v1,eqT h3,h5,h6,h7,eZf h9]
  ·cases b2
   obtain rfl:=(aj gb2).symm
   try dsimp only at h
   cases h
   simp(config:=cS)only[go_sem,hc_v1.1,hc_v1.2,hm_v1,hk_v1,eqF h3]
attribute [go_sem] Tryz.ntmps144 Tryz.results144
theorem eR {v0:List Int}{v1:Int→Option Bool}{f_v1:Nat}{k_v1:List AV}(hp_v1:∀ y0 r,v1 y0=some r→al Tryz.prog f_v1 ([.lit (.int .i64 y0)]++k_v1) [] (.lit (.bool r)) [])(hc_v1:KC k_v1)(hm_v1:∀ a,mdT f_v1 a=⟨[],false⟩)(hk_v1:spf f_v1=false){res:Bool}(h:bm v0 v1=some res):al Tryz.prog 144 [.sl (ab eI v0),.fn f_v1 k_v1] [] (.lit (.bool res)) []:=by
 refine ai (ra:=[]) (md:=mdT) hT (hi:=hi00) Tryz.func144 rfl rfl (by decide +kernel) (by simp) ?_
 unfold bm at h
 obtain ⟨r01,g1,h⟩:=ae h
 simp(config:=cS)only[go_sem,hc_v1.1,hc_v1.2,hm_v1,hk_v1]
 refine ag (mE hp_v1 hc_v1 hm_v1 hk_v1 g1) ?_
 cases h
 simp(config:=cS)only[go_sem]
def jC (c:List GNode)(a:Nat)(b:List AV)(d e:Int):St:=⟨[(0,.sl (ab GNode.encS c)),(1,.fn a b),(7,.lit (.int .i64 d)),(8,.lit (.int .i64 e))],[],2⟩
attribute [go_sem] jC
attribute [go_sem] Tryz.ntmps230 Tryz.results230
theorem rP {v0:List GNode}{v1:GNode→Option Bool}{f_v1:Nat}{k_v1:List AV}(hp_v1:∀ y0 r,v1 y0=some r→al Tryz.prog f_v1 ([.agg (GNode.encS y0)]++k_v1) [] (.lit (.bool r)) [])(hc_v1:KC k_v1)(hm_v1:∀ a,mdT f_v1 a=⟨[],false⟩)(hk_v1:spf f_v1=false){res:Int}(h:dD v0 v1=some res):al Tryz.prog 230 [.sl (ab GNode.encS v0),.fn f_v1 k_v1] [] (.lit (.int .i64 res)) []:=by
 refine ai (ra:=[]) (md:=mdT) hT (hi:=hi00) Tryz.func230 rfl rfl (by decide +kernel) (by simp) ?_
 unfold dD at h
 obtain ⟨q03,l1,h⟩:=ae h
 simp(config:=cS)only[go_sem,hc_v1.1,hc_v1.2,hm_v1,hk_v1]
 refine ar (m1:=.mk) (m2:=.mk) [.nf [0,1,7,8] []] (jC v0 f_v1 k_v1 ((v0.length:Nat):Int)) l1 ?_ ?_
 ·simp(config:=cS)only[go_sem,hc_v1.1,hc_v1.2,hm_v1,hk_v1]
 ·intro nb2 v8_1 bb2 b2 gb2
  unfold bY at b2
  try dsimp only at b2
  obtain ⟨h3,b2⟩|⟨h3,b2⟩:=af b2
  ·obtain ⟨x01,g4,b2⟩:=ae b2
   obtain ⟨h5,h6,h7⟩:=ak g4
   obtain ⟨r02,g8,b2⟩:=ae b2
   simp(config:=cS)only[go_sem,hc_v1.1,hc_v1.2,hm_v1,hk_v1,eqT h3,h5,h6,h7]
   refine ag (hp_v1 _ _ g8) ?_
   obtain ⟨h9,b2⟩|⟨h9,b2⟩:=af b2
   ·cases b2
    obtain rfl:=(aj gb2).symm
    try dsimp only at h
    cases h
    simp(config:=cS)only[go_sem,hc_v1.1,hc_v1.2,hm_v1,hk_v1,eqT h3,h5,h6,h7,eZt h9]
   ·cases b2
    simp(config:=cS)only[go_sem,hc_v1.1,hc_v1.2,hm_v1,hk_v1,eqT h3,h5,h6,h7,eZf h9]
    refine au gb2 ?_
    simp(config:=cS)only[go_sem,hc_v1.1,hc_v1.2,hm_v1,hk_v1,eqT h3,h5,h6,h7,eZf h9]
  ·cases b2
   obtain rfl:=(aj gb2).symm
   try dsimp only at h
   cases h
   simp(config:=cS)only[go_sem,hc_v1.1,hc_v1.2,hm_v1,hk_v1,eqF h3]
attribute [go_sem] Tryz.ntmps231 Tryz.results231
theorem xS {n:GNode}{p:Int}{res:Bool}(h:jI n p=some res):al Tryz.prog 231 [.agg (GNode.encS n),.loc [.lit (.int .i64 p)]] [] (.lit (.bool res)) []:=by
 refine ai (ra:=[]) (md:=mdT) hT (hi:=hi00) Tryz.func231 rfl rfl (by decide +kernel) (by simp) ?_
 unfold jI at h
 obtain ⟨h1,h⟩|⟨h1,h⟩:=af h
 ·cases h
  simp(config:=cS)only[go_sem,eqT h1]
 ·cases h
  simp(config:=cS)only[go_sem,eqF h1]
attribute [go_sem] Tryz.ntmps148 Tryz.results148
theorem lU {s:GShow}{p res:Int}(h:ez s p=some res):al Tryz.prog 148 [.agg (GShow.encS s),.lit (.int .i64 p)] [] (.lit (.int .i64 res)) []:=by
 refine ai (ra:=[]) (md:=mdT) hT (hi:=hi00) Tryz.func148 rfl rfl (by decide +kernel) (by simp) ?_
 unfold ez at h
 obtain ⟨r01,g1,h⟩:=ae h
 simp(config:=cS)only[go_sem]
 refine ag (rP (by exact fun _ _ hr=>xS hr) (by refine ⟨fun _=>?_,fun _=>?_⟩ <;> simp only [go_sem]) (fun _=>rfl) rfl g1) ?_
 cases h
 simp(config:=cS)only[go_sem]
def lF (a:List Int)(b c d:Int):St:=⟨[(0,.sl (ab eI a)),(1,.lit (.int .i64 b)),(7,.lit (.int .i64 c)),(8,.lit (.int .i64 d))],[],2⟩
attribute [go_sem] lF
attribute [go_sem] Tryz.ntmps169 Tryz.results169
theorem pY {v0:List Int}{v1 res:Int}(h:eC v0 v1=some res):al Tryz.prog 169 [.sl (ab eI v0),.lit (.int .i64 v1)] [] (.lit (.int .i64 res)) []:=by
 refine ai (ra:=[]) (md:=mdT) hT (hi:=hi00) Tryz.func169 rfl rfl (by decide +kernel) (by simp) ?_
 unfold eC at h
 obtain ⟨q02,l1,h⟩:=ae h
 simp(config:=cS)only[go_sem]
 refine ar (m1:=.mk) (m2:=.mk) [.nf [0,1,7,8] []] (lF v0 v1 ((v0.length:Nat):Int)) l1 ?_ ?_
 ·simp(config:=cS)only[go_sem]
 ·intro nb2 v8_1 bb2 b2 gb2
  unfold cZ at b2
  try dsimp only at b2
  obtain ⟨h3,b2⟩|⟨h3,b2⟩:=af b2
  ·obtain ⟨x01,g4,b2⟩:=ae b2
   obtain ⟨h5,h6,h7⟩:=ak g4
   obtain ⟨h8,b2⟩|⟨h8,b2⟩:=af b2
   ·cases b2
    obtain rfl:=(aj gb2).symm
    try dsimp only at h
    cases h
    simp(config:=cS)only[go_sem,eqT h3,h5,h6,h7,eqT h8]
   ·cases b2
    simp(config:=cS)only[go_sem,eqT h3,h5,h6,h7,eqF h8]
    refine au gb2 ?_
    simp(config:=cS)only[go_sem]
  ·cases b2
   obtain rfl:=(aj gb2).symm
   try dsimp only at h
   cases h
   simp(config:=cS)only[go_sem,eqF h3]
attribute [go_sem] Tryz.ntmps228 Tryz.results228
theorem jU {v0:List Int}{v1:Int}{res:Bool}(h:ct v0 v1=some res):al Tryz.prog 228 [.sl (ab eI v0),.lit (.int .i64 v1)] [] (.lit (.bool res)) []:=by
 refine ai (ra:=[]) (md:=mdT) hT (hi:=hi00) Tryz.func228 rfl rfl (by decide +kernel) (by simp) ?_
 unfold ct at h
 obtain ⟨r01,g1,h⟩:=ae h
 simp(config:=cS)only[go_sem]
 refine ag (pY g1) ?_
 cases h
 simp(config:=cS)only[go_sem]
attribute [go_sem] Tryz.ntmps277 Tryz.results277
theorem sJ {v0:Int}{a:List Int}{res:Bool}(h:gn v0 a=some res):al Tryz.prog 277 [.lit (.int .i64 v0),.loc [.sl (ab eI a)]] [] (.lit (.bool res)) []:=by
 refine ai (ra:=[]) (md:=mdT) hT (hi:=hi00) Tryz.func277 rfl rfl (by decide +kernel) (by simp) ?_
 unfold gn at h
 obtain ⟨r01,g1,h⟩:=ae h
 simp(config:=cS)only[go_sem]
 refine ag (jU g1) ?_
 cases h
 simp(config:=cS)only[go_sem]
attribute [go_sem] Tryz.ntmps229 Tryz.results229
theorem va {a b:List Int}{res:Bool}(h:fJ a b=some res):al Tryz.prog 229 [.sl (ab eI a),.sl (ab eI b)] [] (.lit (.bool res)) []:=by
 refine ai (ra:=[]) (md:=mdT) hT (hi:=hi00) Tryz.func229 rfl rfl (by decide +kernel) (by simp) ?_
 unfold fJ at h
 obtain ⟨r01,g1,h⟩:=ae h
 simp(config:=cS)only[go_sem]
 refine ag (jR g1) ?_
 obtain ⟨h2,h⟩|⟨h2,h⟩:=af h
 ·obtain ⟨r02,g3,h⟩:=ae h
  simp(config:=cS)only[go_sem,eZt h2]
  refine ag (jR g3) ?_
  obtain ⟨h4,h⟩|⟨h4,h⟩:=af h
  ·obtain ⟨r03,g5,h⟩:=ae h
   simp(config:=cS)only[go_sem,eZt h2,eZt h4]
   refine ag (eR (by exact fun _ _ hr=>sJ hr) (by refine ⟨fun _=>?_,fun _=>?_⟩ <;> simp only [go_sem]) (fun _=>rfl) rfl g5) ?_
   cases h
   simp(config:=cS)only[go_sem,eZt h2,eZt h4]
  ·cases h
   simp(config:=cS)only[go_sem,eZt h2,eZf h4]
 ·cases h
  simp(config:=cS)only[go_sem,eZf h2]
@[go_sem] def hi146_1:DT:=.i1 0 (.i2 1 (.i0 2 [0] (.i2 3 (.i2 4 .nil))))
def Gv:Hint where
 acts:=fun _=>[]
 draws:=fun
  | 1=>⟨hi146_1,[[],[],[1],[0,1,2],[0,1,2,3]],.range 5⟩
  | _=>⟨.nil,[],[]⟩
theorem SW (i:Nat):Gv.acts i=[]:=rfl
theorem SX (i:Nat):Gv.views i=none:=rfl
attribute [go_sem] SW SX Tryz.ntmps146 Tryz.results146
@[go_sem] theorem XH:(Gv.draws 1).order=hi146_1:=rfl
theorem zP {s:GShow}{label:List Int}{v2:Int}{res:Bool}(h:iA s label v2=some res):al Tryz.prog 146 [.agg (GShow.encS s),.sl (ab eI label),.lit (.int .i64 v2)] [] (.lit (.bool res)) []:=by
 refine ai (ra:=[]) (md:=mdT) hT (hi:=Gv) Tryz.func146 rfl rfl (by decide +kernel) (by simp) ?_
 unfold iA at h
 obtain ⟨r01,g1,h⟩:=ae h
 simp(config:=cS)only[go_sem]
 refine ag (iU g1) ?_
 obtain ⟨r02,g2,h⟩:=ae h
 simp(config:=cS)only[go_sem]
 refine ag (lU g2) ?_
 obtain ⟨h3,h⟩|⟨h3,h⟩:=af h
 ·cases h
  simp(config:=cS)only[go_sem,eqT h3]
 ·obtain ⟨x03,g4,h⟩:=ae h
  obtain ⟨h5,h6,h7⟩:=ak g4
  obtain ⟨r04,g8,h⟩:=ae h
  simp(config:=cS)only[go_sem,eqF h3,h5,h6,h7]
  refine ag (jU g8) ?_
  obtain ⟨h9,h⟩|⟨h9,h⟩:=af h
  ·cases h
   simp(config:=cS)only[go_sem,eqF h3,h5,h6,h7,eZt h9]
  ·obtain ⟨r05,g10,h⟩:=ae h
   simp(config:=cS)only[go_sem,eqF h3,h5,h6,h7,eZf h9]
   refine ag (jU g10) ?_
   obtain ⟨h11,h⟩|⟨h11,h⟩:=af h
   ·cases h
    simp(config:=cS)only[go_sem,eqF h3,h5,h6,h7,eZf h9,eZt h11]
   ·obtain ⟨r06,g12,h⟩:=ae h
    simp(config:=cS)only[go_sem,eqF h3,h5,h6,h7,eZf h9,eZf h11]
    refine ag (va g12) ?_
    cases h
    simp(config:=cS)only[go_sem,eqF h3,h5,h6,h7,eZf h9,eZf h11]
attribute [go_sem] Tryz.ntmps145 Tryz.results145
theorem zQ {v0:Int}{s:GShow}{n:GNode}{res:Bool}(h:iB v0 s n=some res):al Tryz.prog 145 [.lit (.int .i64 v0),.loc [.sl (ab GNode.encS s.nodes),.sl (ab GTie.enc s.ties),.lit (.int .i64 s.horizon)],.loc [.lit (.string n.name),.sl (ab eI n.label),.lit (.int .i64 n.watch)]] [] (.lit (.bool res)) []:=by
 refine ai (ra:=[]) (md:=mdT) hT (hi:=hi00) Tryz.func145 rfl rfl (by decide +kernel) (by simp) ?_
 unfold iB at h
 obtain ⟨r01,g1,h⟩:=ae h
 simp(config:=cS)only[go_sem]
 refine ag (zP g1) ?_
 cases h
 simp(config:=cS)only[go_sem]
def pd (a:List GNode)(b:Int)(c:List GTie)(d e:Int):St:=⟨[(1,.ptr 64 1 0 0),(24,.sl (ab GNode.encS a)),(25,.lit (.int .i64 b)),(26,.lit (.int .i64 e))],[(64,1,.var [.sl (ab GNode.encS a),.sl (ab GTie.enc c),.lit (.int .i64 d)])],2⟩
attribute [go_sem] pd
attribute [go_sem] Tryz.ntmps70 Tryz.results70
theorem gR {s:GShow}{res:Bool}(h:cH s=some res):al Tryz.prog 70 [.agg (GShow.encS s)] [] (.lit (.bool res)) []:=by
 refine ai (ra:=[]) (md:=mdT) hT (hi:=hi00) Tryz.func70 rfl rfl (by decide +kernel) (by simp) ?_
 unfold cH at h
 obtain ⟨r01,g1,h⟩:=ae h
 simp(config:=cS)only[go_sem]
 refine ag (BS g1) ?_
 obtain ⟨h2,h⟩|⟨h2,h⟩:=af h
 ·obtain ⟨r02,g3,h⟩:=ae h
  simp(config:=cS)only[go_sem,eZt h2]
  refine ag (Dw g3) ?_
  obtain ⟨h4,h⟩|⟨h4,h⟩:=af h
  ·obtain ⟨h5,h⟩|⟨h5,h⟩:=af h
   ·cases h
    simp(config:=cS)only[go_sem,eZt h2,eZt h4,eqT h5]
   ·obtain ⟨h6,h⟩|⟨h6,h⟩:=af h
    ·cases h
     simp(config:=cS)only[go_sem,eZt h2,eZt h4,eqF h5,eqT h6]
    ·obtain ⟨q05,l7,h⟩:=ae h
     simp(config:=cS)only[go_sem,eZt h2,eZt h4,eqF h5,eqF h6]
     refine ar (m1:=.mk) (m2:=.mk) [.nf [1,24,25,26] [64]] (pd s.nodes ((s.nodes.length:Nat):Int) s.ties s.horizon) l7 ?_ ?_
     ·simp(config:=cS)only[go_sem,eZt h2,eZt h4,eqF h5,eqF h6]
     ·intro nb8 v26_1 bb8 b8 gb8
      unfold gd at b8
      try dsimp only at b8
      obtain ⟨h9,b8⟩|⟨h9,b8⟩:=af b8
      ·obtain ⟨x03,g10,b8⟩:=ae b8
       obtain ⟨h11,h12,h13⟩:=ak g10
       obtain ⟨r04,g14,b8⟩:=ae b8
       simp(config:=cS)only[go_sem,eZt h2,eZt h4,eqF h5,eqF h6,eqT h9,h11,h12,h13]
       refine ag (eR (by exact fun _ _ hr=>zQ hr) (by refine ⟨fun _=>?_,fun _=>?_⟩ <;> simp only [go_sem]) (fun _=>rfl) rfl g14) ?_
       obtain ⟨h15,b8⟩|⟨h15,b8⟩:=af b8
       ·cases b8
        obtain rfl:=(aj gb8).symm
        try dsimp only at h
        cases h
        simp(config:=cS)only[go_sem,eZt h2,eZt h4,eqF h5,eqF h6,eqT h9,h11,h12,h13,eZt h15]
       ·cases b8
        simp(config:=cS)only[go_sem,eZt h2,eZt h4,eqF h5,eqF h6,eqT h9,h11,h12,h13,eZf h15]
        refine au gb8 ?_
        simp(config:=cS)only[go_sem,eZt h2,eZt h4,eqF h5,eqF h6,eqT h9,h11,h12,h13,eZf h15]
      ·cases b8
       obtain rfl:=(aj gb8).symm
       try dsimp only at h
       cases h
       simp(config:=cS)only[go_sem,eZt h2,eZt h4,eqF h5,eqF h6,eqF h9]
  ·cases h
   simp(config:=cS)only[go_sem,eZt h2,eZf h4]
 ·cases h
  simp(config:=cS)only[go_sem,eZf h2]
def ny (b:List GTie)(c:Int):(Int × (List Int))→St
 | (d,a)=>⟨[(3,.ref 255 1 0 a.length),(7,.sl (ab GTie.enc b)),(8,.lit (.int .i64 c)),(9,.lit (.int .i64 d))],[(255,1,.row true (ab eI a))],2⟩
attribute [go_sem] ny
attribute [go_sem] Tryz.ntmps147 Tryz.results147
theorem sc {s:GShow}{res:List Int}(h:gL s=some res):al Tryz.prog 147 [.agg (GShow.encS s)] [] (.ref 20000 1 0 res.length) [(20000,1,.row true (ab eI res))]:=by
 refine ai (ra:=[.home 2]) (md:=mdT) hT (hi:=hi00) Tryz.func147 rfl rfl (by decide +kernel) (by simp) ?_
 unfold gL at h
 obtain ⟨q02,l1,h⟩:=ae h
 simp(config:=cS)only[go_sem]
 refine ar (m1:=.mk) (m2:=.mk) [.home 3,.nf [3,7,8,9] [255]] (ny s.ties ((s.ties.length:Nat):Int)) l1 ?_ ?_
 ·simp(config:=cS)only[go_sem]
 ·intro nb2 sb2 bb2 b2 gb2
  obtain ⟨v9_1,out_1⟩:=sb2
  unfold gz at b2
  try dsimp only at b2
  obtain ⟨h3,b2⟩|⟨h3,b2⟩:=af b2
  ·obtain ⟨x01,g4,b2⟩:=ae b2
   obtain ⟨h5,h6,h7⟩:=ak g4
   obtain ⟨h8,b2⟩|⟨h8,b2⟩:=af b2
   ·obtain ⟨h9,b2⟩:=am b2
    obtain ⟨h10,b2⟩:=am b2
    cases b2
    simp(config:=cS)only[go_sem,eqT h3,h5,h6,h7,eZt h8,eqT h9,eqT h10]
    refine au gb2 ?_
    simp(config:=cS)only[go_sem]
   ·cases b2
    simp(config:=cS)only[go_sem,eqT h3,h5,h6,h7,eZf h8]
    refine au gb2 ?_
    simp(config:=cS)only[go_sem]
  ·cases b2
   obtain rfl:=(aj gb2).symm
   try dsimp only at h
   cases h
   simp(config:=cS)only[go_sem,eqF h3]
def qI (b:Int)(c:List GNode)(d:List GTie)(e:Int)(a:List Int):(Int × Int)→St
 | (n,f)=>⟨[(1,.ptr 64 1 0 0),(3,.lit (.int .i64 n)),(11,.ref 704 1 0 a.length),(12,.lit (.int .i64 b)),(13,.lit (.int .i64 f))],[(64,1,.var [.sl (ab GNode.encS c),.sl (ab GTie.enc d),.lit (.int .i64 e)]),(704,1,.row true (ab eI a))],2⟩
attribute [go_sem] qI
def qJ (a:List GNode)(b:List GTie)(c:Int):(Int × Int)→St
 | (n,p)=>⟨[(1,.ptr 64 1 0 0),(3,.lit (.int .i64 n)),(6,.lit (.int .i64 p))],[(64,1,.var [.sl (ab GNode.encS a),.sl (ab GTie.enc b),.lit (.int .i64 c)])],2⟩
attribute [go_sem] qJ
@[go_sem] def hi71_7:DT:=.i2 0 (.i2 1 (.i2 2 (.i2 3 (.i2 4 (.i2 5 (.i2 6 (.i2 7 (.i2 8 (.i2 9 (.i2 10 (.i2 11 (.i2 12 (.i2 13 (.i2 14 (.i2 15 (.i2 16 .nil))))))))))))))))
def hi71:Hint where
 acts:=fun _=>[]
 draws:=fun
  | 7=>⟨hi71_7,[[],[],[1],[],[1,2,3],[1,2,3,4],[1,2,3,4,5],[],[7],[],[7,8,9],[7,8,9,10],[7,8,9,10,11],[1,2,3,4,5,6,7,8,9,10,11,12],[1,2,3,4,5,6,7,8,9,10,11,12,13],.range 15,.range 16],.range 17⟩
  | _=>⟨.nil,[],[]⟩
theorem Vj (i:Nat):hi71.acts i=[]:=rfl
theorem Vk (i:Nat):hi71.views i=none:=rfl
attribute [go_sem] Vj Vk Tryz.ntmps71 Tryz.results71
@[go_sem] theorem Yz:(hi71.draws 7).order=hi71_7:=rfl
def tq (c:Int)(d:List GNode)(e:List GTie)(f:Int)(b:List Int):(Int × Int × (List Int))→St
 | (n,g,a)=>⟨[(1,.lit (.int .i64 n)),(2,.ptr 128 1 0 0),(4,.ptr 256 1 0 0),(5,.ptr 320 1 0 0),(12,.ref 768 1 0 b.length),(13,.lit (.int .i64 c)),(14,.lit (.int .i64 g))],[(128,1,.var [.sl (ab GNode.encS d),.sl (ab GTie.enc e),.lit (.int .i64 f)]),(256,1,.var [.lit (.slice none 0 0),.lit (.slice none 0 0)]),(320,1,.var [.ref 100020480 1 0 a.length,.lit (.slice none 0 0)]),(100020480,1,.row true (ab eI a)),(768,1,.row true (ab eI b))],2⟩
attribute [go_sem] tq
def tu (c:List GNode)(d:List GTie)(e:Int)(a:List Int):(Int × Int × (List Int))→St
 | (n,p,b)=>⟨[(1,.lit (.int .i64 n)),(2,.ptr 128 1 0 0),(4,.ptr 256 1 0 0),(5,.ptr 320 1 0 0),(9,.lit (.int .i64 p))],[(128,1,.var [.sl (ab GNode.encS c),.sl (ab GTie.enc d),.lit (.int .i64 e)]),(256,1,.var [.lit (.slice none 0 0),.lit (.slice none 0 0)]),(320,1,.var [.ref 100020480 1 0 a.length,.ref 100020481 1 0 b.length]),(100020480,1,.row true (ab eI a)),(100020481,1,.row true (ab eI b))],2⟩
attribute [go_sem] tu
@[go_sem] def hi72_6:DT:=.i1 0 (.i1 1 (.i2 2 (.i2 3 (.i2 4 (.i2 5 (.i2 6 (.i2 7 (.i2 8 (.i2 9 (.i2 10 (.i2 11 (.i0 12 [0,1] (.i2 13 (.i2 14 (.i2 15 .nil)))))))))))))))
@[go_sem] def hi72_5:DT:=.i2 0 (.i2 1 (.i2 2 (.i2 3 (.i2 4 (.i2 5 (.i2 6 (.i2 7 (.i2 8 (.i2 9 (.i2 10 (.i2 11 (.i2 12 (.i2 13 (.i2 14 .nil))))))))))))))
def hi72:Hint where
 acts:=fun _=>[]
 draws:=fun
  | 5=>⟨hi72_5,[[],[0],[],[0,1,2],[0,1,2,3],.range 5,[],[6],[],[6,7,8],[6,7,8,9],[6,7,8,9,10],.range 12,.range 13,.range 14],.range 15⟩
  | 6=>⟨hi72_6,[[],[0],[],[2],[],[2,3,4],[2,3,4,5],[2,3,4,5,6],[],[],[8,9],[2,3,4,5,6,7,8,9,10],[2,3,4,5,6,7,8,9,10,11],.range 13,.range 14,.range 15],.range 16⟩
  | _=>⟨.nil,[],[]⟩
theorem Vl (i:Nat):hi72.acts i=[]:=rfl
theorem Vm (i:Nat):hi72.views i=none:=rfl
attribute [go_sem] Vl Vm Tryz.ntmps72 Tryz.results72
@[go_sem] theorem YA:(hi72.draws 5).order=hi72_5:=rfl
@[go_sem] theorem YB:(hi72.draws 6).order=hi72_6:=rfl
attribute [go_sem] Tryz.ntmps158 Tryz.results158
theorem pZ {v0 res:List GTie}(h:gB v0=some res):al Tryz.prog 158 [.sl (ab GTie.enc v0)] [] (.ref 20000 1 0 res.length) [(20000,1,.row true (ab GTie.enc res))]:=by
 refine ai (ra:=[.home 2]) (md:=mdT) hT (hi:=hi00) Tryz.func158 rfl rfl (by decide +kernel) (by simp) ?_
 unfold gB at h
 obtain ⟨h1,h3,h2⟩|⟨h1,h3⟩:=EG h
 ·cases h3
  simp(config:=cS)only[go_sem,h1]
 ·obtain ⟨h4,h3⟩:=am h3
  obtain ⟨h5,h3⟩:=am h3
  cases h3
  simp(config:=cS)only[go_sem,Bu h1,eqT h4,eqT h5]
attribute [go_sem] Tryz.ntmps60 Tryz.results60
theorem bj {v0 res:List Int}(h:bk v0=some res):al Tryz.prog 60 [.sl (ab eI v0)] [] (.ref 20000 1 0 res.length) [(20000,1,.row true (ab eI res))]:=by
 refine ai (ra:=[.home 2]) (md:=mdT) hT (hi:=hi00) Tryz.func60 rfl rfl (by decide +kernel) (by simp) ?_
 unfold bk at h
 obtain ⟨h1,h3,h2⟩|⟨h1,h3⟩:=EG h
 ·cases h3
  simp(config:=cS)only[go_sem,h1]
 ·obtain ⟨h4,h3⟩:=am h3
  obtain ⟨h5,h3⟩:=am h3
  cases h3
  simp(config:=cS)only[go_sem,Bu h1,eqT h4,eqT h5]
def jV (d:List GNode)(e c:Int)(b:List GTie):(Int × (List GNode))→St
 | (f,a)=>⟨[(2,.ptr 128 1 0 0),(3,.ptr 192 1 0 0),(13,.sl (ab GNode.encS d)),(14,.lit (.int .i64 e)),(15,.lit (.int .i64 f))],[(128,1,.var [.lit (.slice none 0 0),.lit (.slice none 0 0),.lit (.int .i64 0)]),(192,1,.var [.ref 100012288 1 0 a.length,.ref 512 1 0 b.length,.lit (.int .i64 c)]),(100012288,1,.row true (ab GNode.encO a)),(512,1,.row true (ab GTie.enc b))],2⟩
attribute [go_sem] jV
@[go_sem] def hi81_1:DT:=.i1 0 (.i1 1 (.i1 3 (.i1 4 (.fork (.i0 2 [3,4] (.i2 5 (.i0 6 [0,1,3,4] (.i2 7 .nil)))) (.i0 6 [0,1,3,4] (.i0 2 [3,4] (.i2 5 (.i2 7 .nil))))))))
def hi81:Hint where
 acts:=fun _=>[]
 draws:=fun
  | 1=>⟨hi81_1,[[],[0],[0,1],[],[3],.range 5,[],.range 7],.range 8⟩
  | _=>⟨.nil,[],[]⟩
theorem Vn (i:Nat):hi81.acts i=[]:=rfl
theorem Vo (i:Nat):hi81.views i=none:=rfl
attribute [go_sem] Vn Vo Tryz.ntmps81 Tryz.results81
@[go_sem] theorem YC:(hi81.draws 1).order=hi81_1:=rfl
theorem oo {s res:GShow}(h:fa s=some res):al Tryz.prog 81 [.agg (GShow.encS s)] [] (.agg [.ref 20000 1 0 res.nodes.length,.ref 20001 1 0 res.ties.length,.lit (.int .i64 res.horizon)]) [(20000,1,.row true (ab GNode.encO res.nodes)),(20001,1,.row true (ab GTie.enc res.ties))]:=by
 refine ai (ra:=[.homeCell 128 0,.homeCell 128 1]) (md:=mdT) hT (hi:=hi81) Tryz.func81 rfl rfl (by decide +kernel) (by simp) ?_
 unfold fa at h
 try simp(config:=cS)only[go_sem]
 refine eX ?_ ?_
 ·obtain ⟨r01,g1,h⟩:=ae h
  simp(config:=cS)only[go_sem]
  refine ag (pZ g1) ?_
  obtain ⟨q04,l2,h⟩:=ae h
  simp(config:=cS)only[go_sem]
  refine ar (m1:=.mk) (m2:=.mk) [.homeCell 192 0,.nf [2,3,13,14,15] [128,192,100012288,512]] (jV s.nodes ((s.nodes.length:Nat):Int) s.horizon r01) l2 ?_ ?_
  ·simp(config:=cS)only[go_sem]
  ·intro nb3 sb3 bb3 b3 gb3
   obtain ⟨v15_1,h100012288_1⟩:=sb3
   unfold eG at b3
   try dsimp only at b3
   obtain ⟨h4,b3⟩|⟨h4,b3⟩:=af b3
   ·obtain ⟨x02,g5,b3⟩:=ae b3
    obtain ⟨h6,h7,h8⟩:=ak g5
    obtain ⟨r03,g9,b3⟩:=ae b3
    simp(config:=cS)only[go_sem,eqT h4,h6,h7,h8]
    refine ag (bj g9) ?_
    obtain ⟨h10,b3⟩:=am b3
    obtain ⟨h11,b3⟩:=am b3
    cases b3
    simp(config:=cS)only[go_sem,eqT h10,eqT h11]
    refine au gb3 ?_
    simp(config:=cS)only[go_sem]
   ·cases b3
    obtain rfl:=(aj gb3).symm
    try dsimp only at h
    cases h
    simp(config:=cS)only[go_sem,eqF h4]
 ·obtain ⟨r05,g13,h⟩:=ae h
  simp(config:=cS)only[go_sem]
  refine ag (pZ g13) ?_
  obtain ⟨q08,l14,h⟩:=ae h
  simp(config:=cS)only[go_sem]
  refine ar (m1:=.mk) (m2:=.mk) [.homeCell 192 0,.nf [2,3,13,14,15] [128,192,100012288,512]] (jV s.nodes ((s.nodes.length:Nat):Int) s.horizon r05) l14 ?_ ?_
  ·simp(config:=cS)only[go_sem]
  ·intro nb15 sb15 bb15 b15 gb15
   obtain ⟨v15_2,h100012288_2⟩:=sb15
   unfold eG at b15
   try dsimp only at b15
   obtain ⟨h16,b15⟩|⟨h16,b15⟩:=af b15
   ·obtain ⟨x06,g17,b15⟩:=ae b15
    obtain ⟨h18,h19,h20⟩:=ak g17
    obtain ⟨r07,g21,b15⟩:=ae b15
    simp(config:=cS)only[go_sem,eqT h16,h18,h19,h20]
    refine ag (bj g21) ?_
    obtain ⟨h22,b15⟩:=am b15
    obtain ⟨h23,b15⟩:=am b15
    cases b15
    simp(config:=cS)only[go_sem,eqT h22,eqT h23]
    refine au gb15 ?_
    simp(config:=cS)only[go_sem]
   ·cases b15
    obtain rfl:=(aj gb15).symm
    try dsimp only at h
    cases h
    simp(config:=cS)only[go_sem,eqF h16]
attribute [go_sem] Tryz.ntmps263 Tryz.results263
theorem Hr {v0 y:Int}{res:Int × Int}(h:rt v0 y=some res):al Tryz.prog 263 [.lit (.int .u64 v0),.lit (.int .u64 y)] [] (.tup [.lit (.int .u64 res.1),.lit (.int .u64 res.2)]) []:=by
 refine ai (ra:=[]) (md:=mdT) hT (hi:=hi00) Tryz.func263 rfl rfl (by decide +kernel) (by simp) ?_
 unfold rt at h
 cases h
 simp(config:=cS)only[go_sem]
attribute [go_sem] Tryz.ntmps192 Tryz.results192
theorem KM {v0 y:Int}{res:Int × Int}(h:gp v0 y=some res):al Tryz.prog 192 [.lit (.int .u64 v0),.lit (.int .u64 y)] [] (.tup [.lit (.int .u64 res.1),.lit (.int .u64 res.2)]) []:=by
 refine ai (ra:=[]) (md:=mdT) hT (hi:=hi00) Tryz.func192 rfl rfl (by decide +kernel) (by simp) ?_
 unfold gp at h
 obtain ⟨r01,g1,h⟩:=ae h
 simp(config:=cS)only[go_sem]
 refine ag (Hr g1) ?_
 cases h
 simp(config:=cS)only[go_sem]
end Go.Proofs.Qd
