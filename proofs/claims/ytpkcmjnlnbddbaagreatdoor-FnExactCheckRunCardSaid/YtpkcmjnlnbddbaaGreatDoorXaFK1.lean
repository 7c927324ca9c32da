/- Functions. -/
import Derived.Test.YtpkcmjnlnbddbaaGreatDoorXaFK0
set_option linter.all false
set_option maxRecDepth 100000
set_option maxHeartbeats 4000000
namespace Go.Proofs.Qa
open Go
@[go_sem] def hi253_10:DT:=.i2 0 (.i2 1 (.i2 2 (.i2 3 (.i2 4 (.i2 5 (.i2 6 (.i2 7 (.i2 8 (.i2 9 (.i2 10 (.i2 11 (.i2 12 (.i2 13 (.i2 14 (.i2 15 (.i2 16 (.i2 17 (.i2 18 (.i2 19 (.i2 20 .nil))))))))))))))))))))
@[go_sem] def hi253_8:DT:=.i2 0 (.i2 1 (.i2 2 (.i2 3 (.i2 4 (.i2 5 (.i2 6 (.i2 7 (.i2 8 (.i2 9 (.i2 10 (.i2 11 (.i2 12 (.i2 13 (.i2 14 (.i2 15 (.i2 16 (.i2 17 (.i2 18 (.i2 19 (.i2 20 .nil))))))))))))))))))))
def zN:Hint where
 acts:=fun _=>[]
 draws:=fun
  | 8=>⟨hi253_8,[[],[0],[],[2],[0,1,2,3],.range 5,.range 6,[],[7],.range 9,.range 10,.range 11,.range 12,.range 13,.range 12,.range 15,.range 12,[0,1,2,3,4,5,6,7,8,9,10,11,16],.range 18,.range 19,.range 20],.range 21⟩
  | 10=>⟨hi253_10,[[],[0],[],[2],[0,1,2,3],.range 5,.range 6,[],[7],.range 9,.range 10,.range 11,.range 12,.range 12,[0,1,2,3,4,5,6,7,8,9,10,11,13],.range 15,.range 12,[0,1,2,3,4,5,6,7,8,9,10,11,16],.range 18,.range 19,.range 20],.range 21⟩
  | _=>⟨.nil,[],[]⟩
theorem JR (i:Nat):zN.acts i=[]:=rfl
theorem JS (i:Nat):zN.views i=none:=rfl
attribute [go_sem] JR JS Tryz.ntmps253 Tryz.results253
@[go_sem] theorem Oa:(zN.draws 8).order=hi253_8:=rfl
@[go_sem] theorem MV:(zN.draws 10).order=hi253_10:=rfl
def nr (a:List GTie)(e:Int)(f:List GNode)(g b:Int)(c d:List Int)(h:Int):St:=⟨[(2,.ptr 128 1 0 0),(3,.ptr 192 1 0 0),(10,.sl (ab GTie.enc a)),(11,.lit (.int .i64 e)),(12,.lit (.int .i64 h))],[(128,1,.var [.sl (ab GNode.encS f),.sl (ab GTie.enc a),.lit (.int .i64 g)]),(192,1,.var [.lit (.int .i64 b),.sl (ab eI c),.sl (ab eI d)])],2⟩
attribute [go_sem] nr
def nu (a:List GNode)(e:Int)(f:List GTie)(g b:Int)(c d:List Int)(h:Int):St:=⟨[(2,.ptr 128 1 0 0),(3,.ptr 192 1 0 0),(22,.sl (ab GNode.encS a)),(23,.lit (.int .i64 e)),(24,.lit (.int .i64 h))],[(128,1,.var [.sl (ab GNode.encS a),.sl (ab GTie.enc f),.lit (.int .i64 g)]),(192,1,.var [.lit (.int .i64 b),.sl (ab eI c),.sl (ab eI d)])],2⟩
attribute [go_sem] nu
attribute [go_sem] Tryz.ntmps180 Tryz.results180
def oV (e:List GNode)(f a:Int)(b c:List Int)(d:Int):St:=⟨[(3,.ptr 192 1 0 0),(8,.sl (ab GNode.encS e)),(9,.lit (.int .i64 f)),(10,.lit (.int .i64 d))],[(192,1,.var [.lit (.int .i64 a),.sl (ab eI b),.sl (ab eI c)])],2⟩
attribute [go_sem] oV
attribute [go_sem] Tryz.ntmps181 Tryz.results181
def ob (a b:List Int)(c:Int)(d:List GNode)(e:List GTie)(f g:Int)(h i:List Int)(j:Bool)(k:List aw)(l:Int):St:=⟨[(1,.sl (ab eI a)),(3,.ptr 192 1 0 0),(6,.ptr 384 1 0 0),(21,.sl (ab eI b)),(22,.lit (.int .i64 c)),(23,.lit (.int .i64 l))],[(192,1,.var [.sl (ab GNode.encS d),.sl (ab GTie.enc e),.lit (.int .i64 f),.lit (.int .i64 g),.sl (ab eI h),.sl (ab eI i),.lit (.bool j),.sl (ab aw.encS k)]),(384,1,.var [.lit (.int .i64 0),.lit (.slice none 0 0),.lit (.slice none 0 0)])],2⟩
attribute [go_sem] ob
attribute [go_sem] Tryz.ntmps232 Tryz.results232
def nw (c:List GNode)(h:Int)(i:List GTie)(j e:Int)(f g:List Int):(Int × (List Int) × (List Int) × (List Bool))→St
 | (k,d,a,b)=>⟨[(2,.ptr 128 1 0 0),(3,.ptr 192 1 0 0),(7,.ref 832 1 0 d.length),(8,.ref 896 1 0 a.length),(9,.ref 960 1 0 b.length),(17,.sl (ab GNode.encS c)),(18,.lit (.int .i64 h)),(19,.lit (.int .i64 k))],[(128,1,.var [.sl (ab GNode.encS c),.sl (ab GTie.enc i),.lit (.int .i64 j)]),(192,1,.var [.lit (.int .i64 e),.sl (ab eI f),.sl (ab eI g)]),(832,1,.row true (ab eI d)),(896,1,.row true (ab eI a)),(960,1,.row true (ab eB b))],2⟩
attribute [go_sem] nw
attribute [go_sem] Tryz.ntmps254 Tryz.results254
def mg (c:Int)(d:List GTie)(f:Int)(g:List GNode)(h:Int)(a:List Bool):(Int × (List Int) × (List Int))→St
 | (i,e,b)=>⟨[(2,.ptr 128 1 0 0),(5,.ref 960 1 0 e.length),(6,.ref 961 1 0 b.length),(7,.ref 962 1 0 a.length),(8,.lit (.int .i64 c)),(27,.sl (ab GTie.enc d)),(28,.lit (.int .i64 f)),(29,.lit (.int .i64 i))],[(128,1,.var [.sl (ab GNode.encS g),.sl (ab GTie.enc d),.lit (.int .i64 h)]),(960,1,.row true (ab eI e)),(961,1,.row true (ab eI b)),(962,1,.row true (ab eB a))],2⟩
attribute [go_sem] mg
def mh (e:List GNode)(f:List GTie)(g:Int)(a:List Bool):(Int × (List Int) × (List Int))→St
 | (c,d,b)=>⟨[(2,.ptr 128 1 0 0),(5,.ref 960 1 0 d.length),(6,.ref 961 1 0 b.length),(7,.ref 962 1 0 a.length),(8,.lit (.int .i64 c))],[(128,1,.var [.sl (ab GNode.encS e),.sl (ab GTie.enc f),.lit (.int .i64 g)]),(960,1,.row true (ab eI d)),(961,1,.row true (ab eI b)),(962,1,.row true (ab eB a))],2⟩
attribute [go_sem] mh
def mi (d:Int)(c a:List Int)(b:List Bool)(e:Int):St:=⟨[(5,.ref 960 1 0 c.length),(6,.ref 961 1 0 a.length),(7,.ref 962 1 0 b.length),(121,.lit (.int .i64 d)),(122,.lit (.int .i64 e))],[(960,1,.row true (ab eI c)),(961,1,.row true (ab eI a)),(962,1,.row true (ab eB b))],2⟩
attribute [go_sem] mi
@[go_sem] def hi182_17:DT:=.i2 0 (.i2 1 (.i2 2 (.i2 3 (.i2 4 (.i2 5 (.i2 6 (.i2 7 (.i2 8 (.i2 9 (.i2 10 (.i2 11 (.i2 12 (.i2 13 (.i2 14 .nil))))))))))))))
@[go_sem] def hi182_12:DT:=.i2 0 (.i2 1 (.i2 2 (.i2 3 (.i2 4 (.i2 5 (.i2 6 (.i2 7 (.i2 8 (.i2 9 (.i2 10 (.i2 11 (.i2 12 (.i2 13 (.i2 14 (.i2 15 (.i2 16 (.i2 17 (.i2 18 .nil))))))))))))))))))
@[go_sem] def hi182_11:DT:=.i2 0 (.i2 1 (.i2 2 (.i2 3 (.i2 4 (.i2 5 (.i2 6 (.i2 7 (.i2 8 (.i2 9 (.i2 10 (.i2 11 (.i2 12 (.i2 13 (.i2 14 (.i2 15 (.i2 16 (.i2 17 (.i2 18 .nil))))))))))))))))))
@[go_sem] def hi182_10:DT:=.i2 0 (.i2 1 (.i2 2 (.i2 3 (.i2 4 (.i2 5 (.i2 6 (.i2 7 (.i2 8 (.i2 9 (.i2 10 (.i2 11 (.i2 12 (.i2 13 (.i2 14 (.i2 15 (.i2 16 (.i2 17 (.i2 18 .nil))))))))))))))))))
@[go_sem] def hi182_9:DT:=.i2 0 (.i2 1 (.i2 2 (.i2 3 (.i2 4 (.i2 5 (.i2 6 (.i2 7 (.i2 8 (.i2 9 (.i2 10 (.i2 11 (.i2 12 (.i2 13 (.i2 14 (.i2 15 (.i2 16 (.i2 17 (.i2 18 .nil))))))))))))))))))
def oW:Hint where
 acts:=fun _=>[]
 draws:=fun
  | 9=>⟨hi182_9,[[],[],[1],[],[],[4],[3,4,5],[3,4,5,6],[],[],[9],[8,9,10],[8,9,10,11],[],[13],[8,9,10,11,12,13,14],[3,4,5,6,7,8,9,10,11,12,13,14,15],.range 17,.range 18],.range 19⟩
  | 10=>⟨hi182_10,[[],[],[1],[],[],[4],[3,4,5],[3,4,5,6],[],[],[9],[8,9,10],[8,9,10,11],[],[13],[8,9,10,11,12,13,14],[3,4,5,6,7,8,9,10,11,12,13,14,15],.range 17,.range 18],.range 19⟩
  | 11=>⟨hi182_11,[[],[],[1],[],[],[4],[3,4,5],[3,4,5,6],[],[],[9],[8,9,10],[8,9,10,11],[],[13],[8,9,10,11,12,13,14],[3,4,5,6,7,8,9,10,11,12,13,14,15],.range 17,.range 18],.range 19⟩
  | 12=>⟨hi182_12,[[],[],[1],[],[],[4],[3,4,5],[3,4,5,6],[],[],[9],[8,9,10],[8,9,10,11],[],[13],[8,9,10,11,12,13,14],[3,4,5,6,7,8,9,10,11,12,13,14,15],.range 17,.range 18],.range 19⟩
  | 17=>⟨hi182_17,[[],[],[0,1],[0,1,2],[0,1,2,3],.range 5,.range 5,.range 7,.range 8,.range 5,.range 5,[0,1,2,3,4,9,10],[0,1,2,3,4,9,10,11],.range 13,.range 14],.range 15⟩
  | _=>⟨.nil,[],[]⟩
theorem JT (i:Nat):oW.acts i=[]:=rfl
theorem JU (i:Nat):oW.views i=none:=rfl
attribute [go_sem] JT JU Tryz.ntmps182 Tryz.results182
@[go_sem] theorem Ob:(oW.draws 9).order=hi182_9:=rfl
@[go_sem] theorem MW:(oW.draws 10).order=hi182_10:=rfl
@[go_sem] theorem MX:(oW.draws 11).order=hi182_11:=rfl
@[go_sem] theorem MY:(oW.draws 12).order=hi182_12:=rfl
@[go_sem] theorem MZ:(oW.draws 17).order=hi182_17:=rfl
def kU (a:List Int)(b c:Int):St:=⟨[(0,.sl (ab eI a)),(9,.sl (ab eI a)),(10,.lit (.int .i64 b)),(11,.lit (.int .i64 c))],[],2⟩
attribute [go_sem] kU
def kV (a:List Int)(n c:Int)(b:List (List Int)):(Int × (List Int))→St
 | (d,l)=>⟨[(0,.sl (ab eI a)),(5,.ref 2112 1 0 b.length),(6,.lit (.int .i64 n)),(7,.ref 2688 1 0 l.length),(44,.lit (.int .i64 c)),(45,.lit (.int .i64 d))],[(2112,1,.row true (ab (eLO eI) b)),(2688,1,.row true (ab eI l))],2⟩
attribute [go_sem] kV
def kW (a:List Int):(Int × (List (List Int)))→St
 | (n,b)=>⟨[(0,.sl (ab eI a)),(5,.ref 2112 1 0 b.length),(6,.lit (.int .i64 n))],[(2112,1,.row true (ab (eLO eI) b))],2⟩
attribute [go_sem] kW
attribute [go_sem] Tryz.ntmps295 Tryz.results295
def oX (e:Int)(f:List GNode)(g:List GTie)(h i:Int)(b c a:List Int)(d:List (List Int))(j:Int):St:=⟨[(3,.ptr 192 1 0 0),(7,.ptr 448 1 0 0),(8,.ref 962 1 0 a.length),(19,.ref 1216 1 0 d.length),(20,.lit (.int .i64 e)),(21,.lit (.int .i64 j))],[(192,1,.var [.sl (ab GNode.encS f),.sl (ab GTie.enc g),.lit (.int .i64 h)]),(448,1,.var [.lit (.int .i64 i),.ref 960 1 0 b.length,.ref 961 1 0 c.length]),(960,1,.row true (ab eI b)),(961,1,.row true (ab eI c)),(962,1,.row true (ab eI a)),(1216,1,.tree (ab (eLS eI) d))],2⟩
attribute [go_sem] oX
@[go_sem] def hi257_5:DT:=.i1 0 (.i2 1 (.i2 2 (.i2 3 (.i0 4 [0] (.i2 5 (.i2 6 .nil))))))
def Dk:Hint where
 acts:=fun _=>[]
 draws:=fun
  | 5=>⟨hi257_5,[[],[],[],[],[1,2,3],.range 5,.range 6],.range 7⟩
  | _=>⟨.nil,[],[]⟩
@[go_sem] theorem OW (i:Nat):Dk.acts i=[]:=rfl
theorem JV (i:Nat):Dk.views i=none:=rfl
attribute [go_sem] JV Tryz.ntmps257 Tryz.results257
@[go_sem] theorem Oc:(Dk.draws 5).order=hi257_5:=rfl
def pL (d:List GNode)(e:List GTie)(f a:Int)(b c l:List Int)(n:Int):St:=⟨[(2,.ptr 128 1 0 0),(3,.ptr 192 1 0 0),(5,.ref 576 1 0 l.length),(6,.lit (.int .i64 n))],[(128,1,.var [.sl (ab GNode.encS d),.sl (ab GTie.enc e),.lit (.int .i64 f)]),(192,1,.var [.lit (.int .i64 a),.sl (ab eI b),.sl (ab eI c)]),(576,1,.row true (ab eI l))],2⟩
attribute [go_sem] pL
@[go_sem] def hi184_5:DT:=.i1 0 (.i1 1 (.i2 2 (.i2 3 (.i0 4 [0,1] (.i2 5 .nil)))))
def Dl:Hint where
 acts:=fun _=>[]
 draws:=fun
  | 5=>⟨hi184_5,[[],[],[],[],[2,3],.range 5],.range 6⟩
  | _=>⟨.nil,[],[]⟩
theorem JW (i:Nat):Dl.acts i=[]:=rfl
theorem JX (i:Nat):Dl.views i=none:=rfl
attribute [go_sem] JW JX Tryz.ntmps184 Tryz.results184
@[go_sem] theorem Od:(Dl.draws 5).order=hi184_5:=rfl
def pM (f:List GNode)(g:List GTie)(h c:Int)(d e a b:List Int)(n:Int):St:=⟨[(2,.ptr 128 1 0 0),(3,.ptr 192 1 0 0),(5,.ref 1280 1 0 a.length),(6,.ref 1281 1 0 b.length),(7,.lit (.int .i64 n))],[(128,1,.var [.sl (ab GNode.encS f),.sl (ab GTie.enc g),.lit (.int .i64 h)]),(192,1,.var [.lit (.int .i64 c),.sl (ab eI d),.sl (ab eI e)]),(1280,1,.row true (ab eI a)),(1281,1,.row true (ab eI b))],2⟩
attribute [go_sem] pM
@[go_sem] def hi93_11:DT:=.i1 0 (.i1 1 (.i1 2 (.i2 3 (.i2 4 (.i2 5 (.i0 6 [0,1,2] (.i0 7 [0,1,2] (.i0 8 [0] (.i2 9 (.i2 10 .nil))))))))))
def hi93:Hint where
 acts:=fun _=>[]
 draws:=fun
  | 11=>⟨hi93_11,[[],[],[],[],[],[],[4,5],[3,4,5,6],[1,2,3,4,5,6,7],.range 9,.range 10],.range 11⟩
  | _=>⟨.nil,[],[]⟩
theorem LO (i:Nat):hi93.acts i=[]:=rfl
theorem LP (i:Nat):hi93.views i=none:=rfl
attribute [go_sem] LO LP Tryz.ntmps93 Tryz.results93
@[go_sem] theorem Oe:(hi93.draws 11).order=hi93_11:=rfl
def nx (a b:Int)(c:List GNode)(d:List GTie)(e f:Int)(g h:List Int)(i:Bool)(j:List aw)(k:Int)(m n:List Int)(l:List (List Int))(o:Int):St:=⟨[(2,.lit (.int .i64 a)),(3,.ptr 192 1 0 0),(4,.ptr 256 1 0 0),(8,.ref 896 1 0 l.length),(16,.lit (.int .i64 b)),(17,.lit (.int .i64 o))],[(192,1,.var [.sl (ab GNode.encS c),.sl (ab GTie.enc d),.lit (.int .i64 e),.lit (.int .i64 f),.sl (ab eI g),.sl (ab eI h),.lit (.bool i),.sl (ab aw.encS j)]),(256,1,.var [.lit (.int .i64 k),.sl (ab eI m),.sl (ab eI n)]),(896,1,.tree (ab (eLS eI) l))],2⟩
attribute [go_sem] nx
attribute [go_sem] Tryz.ntmps233 Tryz.results233
def ny (o j h:List Int)(p q:Int)(r s:List Int)(k m:Int)(n:Bool)(t:Int)(a:List GNode)(b:List GTie)(c d:List Int)(e:List aw)(f g i:List Int):(Int × (List Int) × (List Int))→St
 | (u,v,l)=>⟨[(1,.sl (ab eI o)),(3,.sl (ab eI j)),(4,.sl (ab eI h)),(7,.ptr 448 1 0 0),(10,.ptr 640 1 0 0),(11,.ptr 704 1 0 0),(12,.ptr 768 1 0 0),(13,.ref 1602 1 0 i.length),(14,.ref 1792 1 0 v.length),(15,.ref 1856 1 0 l.length),(30,.ref 1602 1 0 i.length),(31,.lit (.int .i64 p)),(32,.lit (.int .i64 u))],[(448,1,.var [.lit (.int .i64 q),.sl (ab eI r),.sl (ab eI s)]),(640,1,.var [.lit (.slice none 0 0),.lit (.slice none 0 0),.lit (.int .i64 0),.lit (.int .i64 0),.lit (.slice none 0 0),.lit (.slice none 0 0),.lit (.bool false),.lit (.slice none 0 0)]),(704,1,.var [.ref 1216 1 0 a.length,.ref 1217 1 0 b.length,.lit (.int .i64 k),.lit (.int .i64 m),.ref 1218 1 0 c.length,.ref 1219 1 0 d.length,.lit (.bool n),.ref 1220 1 0 e.length]),(1216,1,.row true (ab GNode.encO a)),(1217,1,.row true (ab GTie.enc b)),(1218,1,.row true (ab eI c)),(1219,1,.row true (ab eI d)),(1220,1,.row true (ab aw.encO e)),(768,1,.var [.lit (.int .i64 t),.ref 1600 1 0 f.length,.ref 1601 1 0 g.length]),(1600,1,.row true (ab eI f)),(1601,1,.row true (ab eI g)),(1602,1,.row true (ab eI i)),(1792,1,.row true (ab eI v)),(1856,1,.row true (ab eI l))],2⟩
attribute [go_sem] ny
@[go_sem] def hi234_11:DT:=.i1 0 (.i1 1 (.i1 2 (.i1 3 (.i2 5 (.i2 8 (.i2 10 (.fork (.i0 4 [0,1,2,3] (.fork (.i0 6 [0,1,2,3] (.i0 7 [0,1,2,3] (.i0 9 [0,1,2,3] (.i2 11 (.i0 12 [0,1] (.i2 13 (.i2 14 (.i2 15 .nil)))))))) (.i0 7 [0,1,2,3] (.i0 6 [0,1,2,3] (.i0 9 [0,1,2,3] (.i2 11 (.i0 12 [0,1] (.i2 13 (.i2 14 (.i2 15 .nil)))))))))) (.i0 7 [0,1,2,3] (.i0 4 [0,1,2,3] (.i0 6 [0,1,2,3] (.i0 9 [0,1,2,3] (.i2 11 (.i0 12 [0,1] (.i2 13 (.i2 14 (.i2 15 .nil))))))))))))))))
def Dm:Hint where
 acts:=fun _=>[]
 draws:=fun
  | 11=>⟨hi234_11,[[],[0],[],[2],[],[],[4,5],[],[],[4,5,6,7,8],[],[2,3,4,5,6,7,8,9,10],[2,3,4,5,6,7,8,9,10,11],.range 13,.range 14,.range 15],.range 16⟩
  | _=>⟨.nil,[],[]⟩
theorem JY (i:Nat):Dm.acts i=[]:=rfl
theorem JZ (i:Nat):Dm.views i=none:=rfl
attribute [go_sem] JY JZ Tryz.ntmps234 Tryz.results234
@[go_sem] theorem Na:(Dm.draws 11).order=hi234_11:=rfl
attribute [go_sem] Tryz.ntmps150 Tryz.results150
def oY (i j:List Int):(Int × Int × Bool × (List GNode) × (List GTie) × (List Int) × (List Int) × (List aw))→St
 | (f,g,h,a,b,c,d,e)=>⟨[(3,.ptr 192 1 0 0),(4,.ptr 256 1 0 0),(6,.ptr 384 1 0 0)],[(192,1,.var [.sl (ab eI i),.sl (ab eI j)]),(256,1,.var [.lit (.slice none 0 0),.lit (.slice none 0 0),.lit (.int .i64 0),.lit (.int .i64 0),.lit (.slice none 0 0),.lit (.slice none 0 0),.lit (.bool false),.lit (.slice none 0 0)]),(384,1,.var [.ref 704 1 0 a.length,.ref 705 1 0 b.length,.lit (.int .i64 f),.lit (.int .i64 g),.ref 706 1 0 c.length,.ref 707 1 0 d.length,.lit (.bool h),.ref 708 1 0 e.length]),(704,1,.row true (ab GNode.encO a)),(705,1,.row true (ab GTie.enc b)),(706,1,.row true (ab eI c)),(707,1,.row true (ab eI d)),(708,1,.row true (ab aw.encO e))],2⟩
attribute [go_sem] oY
@[go_sem] def hi138_4:DT:=.i1 0 (.i1 1 (.i1 2 (.i1 3 (.i1 4 (.i1 5 (.i1 7 (.i1 8 (.fork (.i0 6 [0,7,8] (.fork (.i2 9 (.i2 10 (.i2 11 (.i2 12 (.i2 13 (.i0 14 [0,1,2,3,4,5,7,8] (.i2 15 (.i2 16 (.i2 17 .nil))))))))) (.i0 14 [0,1,2,3,4,5,7,8] (.i2 9 (.i2 10 (.i2 11 (.i2 12 (.i2 13 (.i2 15 (.i2 16 (.i2 17 .nil))))))))))) (.i0 14 [0,1,2,3,4,5,7,8] (.i0 6 [0,7,8] (.i2 9 (.i2 10 (.i2 11 (.i2 12 (.i2 13 (.i2 15 (.i2 16 (.i2 17 .nil))))))))))))))))))
def Dn:Hint where
 acts:=fun _=>[]
 draws:=fun
  | 4=>⟨hi138_4,[[],[],[1],[],[3],[],[1,2,3,4,5],[],[7],.range 9,.range 10,.range 11,.range 11,.range 11,[],[0,1,2,3,4,5,6,7,8,9,10,11,14],[0,1,2,3,4,5,6,7,8,9,10,11,12,14,15],.range 17],[0,1,2,3,4,5,6,7,8,9,10,11,14,16,12,13,15,17]⟩
  | _=>⟨.nil,[],[]⟩
theorem Ka (i:Nat):Dn.acts i=[]:=rfl
theorem Kb (i:Nat):Dn.views i=none:=rfl
attribute [go_sem] Ka Kb Tryz.ntmps138 Tryz.results138
@[go_sem] theorem Of:(Dn.draws 4).order=hi138_4:=rfl
attribute [go_sem] Tryz.ntmps139 Tryz.results139
attribute [go_sem] Tryz.ntmps68 Tryz.results68
attribute [go_sem] Tryz.ntmps199 Tryz.results199
theorem lv {i:aB}{res:Bool}(h:dh i=some res):ar Tryz.prog 199 [.agg [.lit (.int .i64 i.low),.lit (.int .i64 i.high)]] [] (.lit (.bool res)) []:=by
 refine am (ra:=[]) (md:=mdT) hT (hi:=hi00) Tryz.func199 rfl rfl (by decide +kernel) (by simp) ?_
 unfold dh at h
 obtain ⟨h1,h⟩|⟨h1,h⟩:=af h
 ·obtain ⟨h2,h⟩|⟨h2,h⟩:=af h
  ·obtain ⟨h3,h⟩|⟨h3,h⟩:=af h
   ·obtain ⟨h4,h⟩|⟨h4,h⟩:=af h
    ·cases h
     simp(config:=cS)only[go_sem,eqT h1,eqT h2,eqT h3,eqT h4]
    ·cases h
     simp(config:=cS)only[go_sem,eqT h1,eqT h2,eqT h3,eqF h4]
   ·cases h
    simp(config:=cS)only[go_sem,eqT h1,eqT h2,eqF h3]
  ·cases h
   simp(config:=cS)only[go_sem,eqT h1,eqF h2]
 ·cases h
  simp(config:=cS)only[go_sem,eqF h1]
def jn (a:List GLink)(b c d:Int):St:=⟨[(1,.ptr 64 1 0 0),(16,.sl (ab GLink.enc a)),(17,.lit (.int .i64 b)),(18,.lit (.int .i64 d))],[(64,1,.var [.lit (.int .i64 c),.sl (ab GLink.enc a)])],2⟩
attribute [go_sem] jn
attribute [go_sem] Tryz.ntmps123 Tryz.results123
theorem mO {s:ai}{res:Bool}(h:dV s=some res):ar Tryz.prog 123 [.agg [.lit (.int .i64 s.events),.sl (ab GLink.enc s.links)]] [] (.lit (.bool res)) []:=by
 refine am (ra:=[]) (md:=mdT) hT (hi:=hi00) Tryz.func123 rfl rfl (by decide +kernel) (by simp) ?_
 unfold dV at h
 obtain ⟨r01,g1,h⟩:=ae h
 simp(config:=cS)only[go_sem]
 refine ah (bB g1) ?_
 obtain ⟨h2,h⟩|⟨h2,h⟩:=af h
 ·obtain ⟨h3,h⟩|⟨h3,h⟩:=af h
  ·cases h
   simp(config:=cS)only[go_sem,eZt h2,eqT h3]
  ·obtain ⟨q06,l4,h⟩:=ae h
   simp(config:=cS)only[go_sem,eZt h2,eqF h3]
   refine ay (m1:=.mk) (m2:=.mk) [.nf [1,16,17,18] [64]] (jn s.links ((s.links.length:Nat):Int) s.events) l4 ?_ ?_
   ·simp(config:=cS)only[go_sem]
   ·intro nb5 v18_1 bb5 b5 gb5
    unfold cO at b5
    try dsimp only at b5
    obtain ⟨h6,b5⟩|⟨h6,b5⟩:=af b5
    ·obtain ⟨x02,g7,b5⟩:=ae b5
     obtain ⟨h8,h9,h10⟩:=ao g7
     obtain ⟨r03,g11,b5⟩:=ae b5
     simp(config:=cS)only[go_sem,eqT h6,h8,h9,h10]
     refine ah (bB g11) ?_
     obtain ⟨h12,b5⟩|⟨h12,b5⟩:=af b5
     ·obtain ⟨r04,g13,b5⟩:=ae b5
      simp(config:=cS)only[go_sem,eZt h12]
      refine ah (bB g13) ?_
      obtain ⟨h14,b5⟩|⟨h14,b5⟩:=af b5
      ·obtain ⟨r05,g15,b5⟩:=ae b5
       simp(config:=cS)only[go_sem,eZt h14]
       refine ah (lv g15) ?_
       obtain ⟨h16,b5⟩|⟨h16,b5⟩:=af b5
       ·cases b5
        simp(config:=cS)only[go_sem,eZt h16]
        refine az gb5 ?_
        simp(config:=cS)only[go_sem]
       ·cases b5
        obtain rfl:=(ak gb5).symm
        try dsimp only at h
        cases h
        simp(config:=cS)only[go_sem,eZf h16]
      ·cases b5
       obtain rfl:=(ak gb5).symm
       try dsimp only at h
       cases h
       simp(config:=cS)only[go_sem,eZf h14]
     ·cases b5
      obtain rfl:=(ak gb5).symm
      try dsimp only at h
      cases h
      simp(config:=cS)only[go_sem,eZf h12]
    ·cases b5
     obtain rfl:=(ak gb5).symm
     try dsimp only at h
     cases h
     simp(config:=cS)only[go_sem,eqF h6]
 ·cases h
  simp(config:=cS)only[go_sem,eZf h2]
def ia (c:List GNode)(d:Int)(g:List GTie)(h:Int)(e f:List Int):(Int × (List Bool) × (List GLink))→St
 | (i,b,a)=>⟨[(2,.ptr 128 1 0 0),(3,.ptr 192 1 0 0),(4,.ptr 256 1 0 0),(6,.ptr 384 1 0 0),(7,.ref 1728 1 0 b.length),(29,.sl (ab GNode.encS c)),(30,.lit (.int .i64 d)),(31,.lit (.int .i64 i))],[(128,1,.var [.sl (ab GNode.encS c),.sl (ab GTie.enc g),.lit (.int .i64 h)]),(192,1,.var [.sl (ab eI e),.sl (ab eI f)]),(256,1,.var [.lit (.int .i64 0),.lit (.slice none 0 0)]),(384,1,.var [.lit (.int .i64 d),.ref 100024577 1 0 a.length]),(100024577,1,.row true (ab GLink.enc a)),(1728,1,.row true (ab eB b))],2⟩
attribute [go_sem] ia
def ib (d:List GTie)(g:Int)(h:List GNode)(i:Int)(e f:List Int)(c:Int)(b:List Bool):(Int × (List GLink))→St
 | (j,a)=>⟨[(2,.ptr 128 1 0 0),(3,.ptr 192 1 0 0),(4,.ptr 256 1 0 0),(6,.ptr 384 1 0 0),(7,.ref 1728 1 0 b.length),(61,.sl (ab GTie.enc d)),(62,.lit (.int .i64 g)),(63,.lit (.int .i64 j))],[(128,1,.var [.sl (ab GNode.encS h),.sl (ab GTie.enc d),.lit (.int .i64 i)]),(192,1,.var [.sl (ab eI e),.sl (ab eI f)]),(256,1,.var [.lit (.int .i64 0),.lit (.slice none 0 0)]),(384,1,.var [.lit (.int .i64 c),.ref 100024577 1 0 a.length]),(100024577,1,.row true (ab GLink.enc a)),(1728,1,.row true (ab eB b))],2⟩
attribute [go_sem] ib
def ic (c:Int)(e:List GNode)(f:List GTie)(g:Int)(b:List Bool):(Int × (List GLink))→St
 | (d,a)=>⟨[(2,.ptr 128 1 0 0),(4,.ptr 256 1 0 0),(6,.ptr 384 1 0 0),(7,.ref 1728 1 0 b.length),(114,.lit (.int .i64 c)),(115,.lit (.int .i64 d))],[(128,1,.var [.sl (ab GNode.encS e),.sl (ab GTie.enc f),.lit (.int .i64 g)]),(256,1,.var [.lit (.int .i64 0),.lit (.slice none 0 0)]),(384,1,.var [.lit (.int .i64 c),.ref 100024577 1 0 a.length]),(100024577,1,.row true (ab GLink.enc a)),(1728,1,.row true (ab eB b))],2⟩
attribute [go_sem] ic
def ie (i:Int)(c:List GNode)(d:Int)(e:List Int)(f:Int)(h:List GTie)(j:Int)(b:List Bool):(Int × (List GLink))→St
 | (g,a)=>⟨[(2,.ptr 128 1 0 0),(4,.ptr 256 1 0 0),(6,.ptr 384 1 0 0),(7,.ref 1728 1 0 b.length),(14,.lit (.int .i64 i)),(132,.sl (ab GNode.encS c)),(133,.lit (.int .i64 d)),(134,.lit (.int .i64 i)),(140,.sl (ab eI e)),(141,.lit (.int .i64 f)),(142,.lit (.int .i64 g))],[(128,1,.var [.sl (ab GNode.encS c),.sl (ab GTie.enc h),.lit (.int .i64 j)]),(256,1,.var [.lit (.int .i64 0),.lit (.slice none 0 0)]),(384,1,.var [.lit (.int .i64 d),.ref 100024577 1 0 a.length]),(100024577,1,.row true (ab GLink.enc a)),(1728,1,.row true (ab eB b))],2⟩
attribute [go_sem] ie
def ig (c:List GNode)(d:Int)(f:List GTie)(g:Int)(b:List Bool):(Int × (List GLink))→St
 | (e,a)=>⟨[(2,.ptr 128 1 0 0),(4,.ptr 256 1 0 0),(6,.ptr 384 1 0 0),(7,.ref 1728 1 0 b.length),(132,.sl (ab GNode.encS c)),(133,.lit (.int .i64 d)),(134,.lit (.int .i64 e))],[(128,1,.var [.sl (ab GNode.encS c),.sl (ab GTie.enc f),.lit (.int .i64 g)]),(256,1,.var [.lit (.int .i64 0),.lit (.slice none 0 0)]),(384,1,.var [.lit (.int .i64 d),.ref 100024577 1 0 a.length]),(100024577,1,.row true (ab GLink.enc a)),(1728,1,.row true (ab eB b))],2⟩
attribute [go_sem] ig
@[go_sem] def hi54_35:DT:=.i1 0 (.i1 1 (.i1 2 (.i2 3 (.i2 6 (.i2 7 (.i0 4 [0,1,2] (.i0 5 [0,1] (.i2 8 (.i0 9 [0,1] (.i2 10 (.i2 11 (.i2 12 .nil))))))))))))
def hi54:Hint where
 acts:=fun _=>[]
 draws:=fun
  | 35=>⟨hi54_35,[[],[0],[],[],[3],[2,3,4],[],[],[2,3,4,5,6,7],[2,3,4,5,6,7,8],.range 10,.range 11,.range 12],.range 13⟩
  | _=>⟨.nil,[],[]⟩
theorem LQ (i:Nat):hi54.acts i=[]:=rfl
theorem LR (i:Nat):hi54.views i=none:=rfl
attribute [go_sem] LQ LR Tryz.ntmps54 Tryz.results54
@[go_sem] theorem Og:(hi54.draws 35).order=hi54_35:=rfl
theorem qD {s:GShow}{v1:GChoice}{res:ai × Bool}(h:dO s v1=some res):ar Tryz.prog 54 [.agg (GShow.encS s),.agg [.sl (ab eI v1.lengths),.sl (ab eI v1.values)]] [] (.tup [.agg [.lit (.int .i64 res.1.events),.ref 20000 1 0 res.1.links.length],.lit (.bool res.2)]) [(20000,1,.row true (ab GLink.enc res.1.links))]:=by
 refine am (ra:=[.homeCell 256 1]) (md:=mdT) hT (hi:=hi54) Tryz.func54 rfl rfl (by decide +kernel) (by simp) ?_
 unfold dO at h
 obtain ⟨r01,g1,h⟩:=ae h
 simp(config:=cS)only[go_sem]
 refine ah (mM g1) ?_
 obtain ⟨h2,h⟩|⟨h2,h⟩:=af h
 ·obtain ⟨q20,l3,h⟩:=ae h
  simp(config:=cS)only[go_sem,eZt h2]
  refine ay (m1:=.mk) (m2:=.mk) [.homeCell 384 1,.nf [2,3,4,6,7,29,30,31] [128,192,256,384,100024577,1728]] (ia s.nodes ((s.nodes.length:Nat):Int) s.ties s.horizon v1.lengths v1.values) l3 ?_ ?_
  ·simp(config:=cS)only[go_sem]
  ·intro nb4 sb4 bb4 b4 gb4
   obtain ⟨v31_1,happens_1,h100024577_1⟩:=sb4
   unfold bR at b4
   try dsimp only at b4
   obtain ⟨h5,b4⟩|⟨h5,b4⟩:=af b4
   ·obtain ⟨x02,g6,b4⟩:=ae b4
    obtain ⟨h7,h8,h9⟩:=ao g6
    obtain ⟨r03,g10,b4⟩:=ae b4
    simp(config:=cS)only[go_sem,eqT h5,h7,h8,h9]
    refine ah (mN g10) ?_
    obtain ⟨h11,b4⟩:=aM b4
    obtain ⟨h12,b4⟩:=aM b4
    obtain ⟨x04,g13,b4⟩:=ae b4
    obtain ⟨h14,h15,h16⟩:=ao g13
    try simp only [List.length_append,List.length_cons,List.length_nil,Nat.zero_add] at h14
    try simp only [List.length_append,List.length_cons,List.length_nil,Nat.zero_add] at h15
    try simp only [List.length_append,List.length_cons,List.length_nil,Nat.zero_add] at h16
    obtain ⟨h17,b4⟩|⟨h17,b4⟩:=af b4
    ·obtain ⟨h18,b4⟩:=aM b4
     obtain ⟨h19,b4⟩:=aM b4
     cases b4
     simp(config:=cS)only[go_sem,eqT h11,eqT h12,h14,h15,h16,eZt h17,eqT h18,eqT h19]
     refine az gb4 ?_
     simp(config:=cS)only[go_sem]
    ·cases b4
     simp(config:=cS)only[go_sem,eqT h11,eqT h12,h14,h15,h16,eZf h17]
     refine az gb4 ?_
     simp(config:=cS)only[go_sem]
   ·cases b4
    obtain rfl:=(ak gb4).symm
    try dsimp only at h
    obtain ⟨q19,l21,h⟩:=ae h
    simp(config:=cS)only[go_sem,eqF h5]
    refine ay (m1:=.mk) (m2:=.mk) [.nf [2,3,4,6,7,61,62,63] [128,192,256,384,100024577,1728]] (ib s.ties ((s.ties.length:Nat):Int) s.nodes s.horizon v1.lengths v1.values ((s.nodes.length:Nat):Int) happens_1) l21 ?_ ?_
    ·simp(config:=cS)only[go_sem]
    ·intro nb22 sb22 bb22 b22 gb22
     obtain ⟨v63_2,h100024577_2⟩:=sb22
     unfold bS at b22
     try dsimp only at b22
     obtain ⟨h23,b22⟩|⟨h23,b22⟩:=af b22
     ·obtain ⟨x05,g24,b22⟩:=ae b22
      obtain ⟨h25,h26,h27⟩:=ao g24
      obtain ⟨x06,g28,b22⟩:=ae b22
      obtain ⟨h29,h30,h31⟩:=ao g28
      obtain ⟨h32,b22⟩|⟨h32,b22⟩:=af b22
      ·obtain ⟨x07,g33,b22⟩:=ae b22
       obtain ⟨h34,h35,h36⟩:=ao g33
       obtain ⟨h37,b22⟩|⟨h37,b22⟩:=af b22
       ·obtain ⟨h38,b22⟩|⟨h38,b22⟩:=af b22
        ·obtain ⟨r08,g39,b22⟩:=ae b22
         simp(config:=cS)only[go_sem,eqT h23,h25,h26,h27,h29,h30,h31,eZt h32,h34,h35,h36,eZt h37,eZt h38]
         refine ah (tU g39) ?_
         obtain ⟨h40,b22⟩:=aM b22
         obtain ⟨h41,b22⟩:=aM b22
         cases b22
         simp(config:=cS)only[go_sem,eqT h40,eqT h41]
         refine az gb22 ?_
         simp(config:=cS)only[go_sem]
        ·obtain ⟨h42,b22⟩:=aM b22
         obtain ⟨h43,b22⟩:=aM b22
         cases b22
         simp(config:=cS)only[go_sem,eqT h23,h25,h26,h27,h29,h30,h31,eZt h32,h34,h35,h36,eZt h37,eZf h38,eqT h42,eqT h43]
         refine az gb22 ?_
         simp(config:=cS)only[go_sem]
       ·cases b22
        simp(config:=cS)only[go_sem,eqT h23,h25,h26,h27,h29,h30,h31,eZt h32,h34,h35,h36,eZf h37]
        refine az gb22 ?_
        simp(config:=cS)only[go_sem]
      ·cases b22
       simp(config:=cS)only[go_sem,eqT h23,h25,h26,h27,h29,h30,h31,eZf h32]
       refine az gb22 ?_
       simp(config:=cS)only[go_sem]
     ·cases b22
      obtain rfl:=(ak gb22).symm
      try dsimp only at h
      obtain ⟨q18,l45,h⟩:=ae h
      simp(config:=cS)only[go_sem,eqF h23]
      refine ay (m1:=.mk) (m2:=.mk) [.nf [2,4,6,7,114,115] [128,256,384,100024577,1728]] (ic ((s.nodes.length:Nat):Int) s.nodes s.ties s.horizon happens_1) l45 ?_ ?_
      ·simp(config:=cS)only[go_sem]
      ·intro nb46 sb46 bb46 b46 gb46
       obtain ⟨v115_3,h100024577_3⟩:=sb46
       unfold bT at b46
       try dsimp only at b46
       obtain ⟨h47,b46⟩|⟨h47,b46⟩:=af b46
       ·obtain ⟨x09,g48,b46⟩:=ae b46
        obtain ⟨h49,h50,h51⟩:=ao g48
        obtain ⟨h52,b46⟩|⟨h52,b46⟩:=af b46
        ·cases b46
         simp(config:=cS)only[go_sem,eqT h47,h49,h50,h51,eZt h52]
         refine az gb46 ?_
         simp(config:=cS)only[go_sem]
        ·obtain ⟨h53,b46⟩:=aM b46
         obtain ⟨h54,b46⟩:=aM b46
         cases b46
         simp(config:=cS)only[go_sem,eqT h47,h49,h50,h51,eZf h52,eqT h53,eqT h54]
         refine az gb46 ?_
         simp(config:=cS)only[go_sem]
       ·cases b46
        obtain rfl:=(ak gb46).symm
        try dsimp only at h
        obtain ⟨q17,l56,h⟩:=ae h
        simp(config:=cS)only[go_sem,eqF h47]
        refine ay (m1:=.mk) (m2:=.mk) [.nf [2,4,6,7,132,133,134] [128,256,384,100024577,1728]] (ig s.nodes ((s.nodes.length:Nat):Int) s.ties s.horizon happens_1) l56 ?_ ?_
        ·simp(config:=cS)only[go_sem]
        ·intro nb57 sb57 bb57 b57 gb57
         obtain ⟨v134_4,h100024577_4⟩:=sb57
         unfold bV at b57
         try dsimp only at b57
         obtain ⟨h58,b57⟩|⟨h58,b57⟩:=af b57
         ·obtain ⟨x10,g59,b57⟩:=ae b57
          obtain ⟨h60,h61,h62⟩:=ao g59
          obtain ⟨q15,l63,b57⟩:=ae b57
          simp(config:=cS)only[go_sem,eqT h58,h60,h61,h62]
          refine ay (m1:=.mk) (m2:=.mk) [.nf [2,4,6,7,14,132,133,134,140,141,142] [128,256,384,100024577,1728]] (ie v134_4 s.nodes ((s.nodes.length:Nat):Int) x10.label ((x10.label.length:Nat):Int) s.ties s.horizon happens_1) l63 ?_ ?_
          ·simp(config:=cS)only[go_sem]
          ·intro nb64 sb64 bb64 b64 gb64
           obtain ⟨v142_5,h100024577_5⟩:=sb64
           unfold bU at b64
           try dsimp only at b64
           obtain ⟨h65,b64⟩|⟨h65,b64⟩:=af b64
           ·obtain ⟨x11,g66,b64⟩:=ae b64
            obtain ⟨h67,h68,h69⟩:=ao g66
            obtain ⟨x12,g70,b64⟩:=ae b64
            obtain ⟨h71,h72,h73⟩:=ao g70
            obtain ⟨h74,b64⟩|⟨h74,b64⟩:=af b64
            ·obtain ⟨r13,g75,b64⟩:=ae b64
             simp(config:=cS)only[go_sem,eqT h65,h67,h68,h69,h71,h72,h73,eZt h74]
             refine ah (fV g75) ?_
             obtain ⟨r14,g76,b64⟩:=ae b64
             simp(config:=cS)only[go_sem]
             refine ah (eg g76) ?_
             obtain ⟨h77,b64⟩:=aM b64
             obtain ⟨h78,b64⟩:=aM b64
             cases b64
             simp(config:=cS)only[go_sem,eqT h77,eqT h78]
             refine az gb64 ?_
             simp(config:=cS)only[go_sem]
            ·cases b64
             simp(config:=cS)only[go_sem,eqT h65,h67,h68,h69,h71,h72,h73,eZf h74]
             refine az gb64 ?_
             simp(config:=cS)only[go_sem]
           ·cases b64
            obtain rfl:=(ak gb64).symm
            try dsimp only at b57
            cases b57
            simp(config:=cS)only[go_sem,eqF h65]
            refine az gb57 ?_
            simp(config:=cS)only[go_sem]
         ·cases b57
          obtain rfl:=(ak gb57).symm
          try dsimp only at h
          obtain ⟨r16,g81,h⟩:=ae h
          simp(config:=cS)only[go_sem,eqF h58]
          refine ah (mO g81) ?_
          obtain ⟨h82,h⟩|⟨h82,h⟩:=af h
          ·cases h
           simp(config:=cS)only[go_sem,eZt h82]
          ·cases h
           simp(config:=cS)only[go_sem,eZf h82]
 ·cases h
  simp(config:=cS)only[go_sem,eZf h2]
@[go_sem] def hi55_1:DT:=.i2 0 (.i2 1 (.i2 2 (.i2 3 (.i2 4 (.i2 5 (.i2 6 (.i2 7 (.i2 8 (.i2 9 (.i2 10 (.i2 11 (.i2 12 (.i2 13 (.i2 14 (.i2 15 (.i2 16 (.i2 17 (.i2 18 (.i2 19 (.i2 20 (.i2 21 (.i2 22 (.i2 23 .nil)))))))))))))))))))))))
def hi55:Hint where
 acts:=fun _=>[]
 draws:=fun
  | 1=>⟨hi55_1,[[],[],[0,1],[0,1,2],[0,1,2,3],[0,1,2,3],[0,1,2,3,5],[0,1,2,3,5,6],[0,1,2,3,5,6,7],.range 9,.range 10,.range 11,.range 12,.range 13,.range 12,.range 15,.range 16,.range 17,.range 12,[0,1,2,3,4,5,6,7,8,9,10,11,18],.range 20,.range 21,.range 22,.range 23],.range 24⟩
  | _=>⟨.nil,[],[]⟩
theorem LS (i:Nat):hi55.acts i=[]:=rfl
theorem LT (i:Nat):hi55.views i=none:=rfl
attribute [go_sem] LS LT Tryz.ntmps55 Tryz.results55
@[go_sem] theorem OX:(hi55.draws 1).order=hi55_1:=rfl
theorem tV {s:GShow}{v1:GChoice}{node:Int}{res:Bool}(h:eZ s v1 node=some res):ar Tryz.prog 55 [.agg (GShow.encS s),.agg [.sl (ab eI v1.lengths),.sl (ab eI v1.values)],.lit (.int .i64 node)] [] (.lit (.bool res)) []:=by
 refine am (ra:=[]) (md:=mdT) hT (hi:=hi55) Tryz.func55 rfl rfl (by decide +kernel) (by simp) ?_
 unfold eZ at h
 obtain ⟨r01,g1,h⟩:=ae h
 simp(config:=cS)only[go_sem]
 refine ah (mM g1) ?_
 obtain ⟨h2,h⟩|⟨h2,h⟩:=af h
 ·obtain ⟨r02,g3,h⟩:=ae h
  simp(config:=cS)only[go_sem,eZt h2]
  refine ah (bB g3) ?_
  obtain ⟨h4,h⟩|⟨h4,h⟩:=af h
  ·obtain ⟨x03,g5,h⟩:=ae h
   obtain ⟨h6,h7,h8⟩:=ao g5
   obtain ⟨r04,g9,h⟩:=ae h
   simp(config:=cS)only[go_sem,eZt h4,h6,h7,h8]
   refine ah (mN g9) ?_
   cases h
   simp(config:=cS)only[go_sem]
  ·cases h
   simp(config:=cS)only[go_sem,eZf h4]
 ·cases h
  simp(config:=cS)only[go_sem,eZf h2]
def jo (a:List Int)(b c:Int):St:=⟨[(17,.sl (ab eI a)),(18,.lit (.int .i64 b)),(19,.lit (.int .i64 c))],[],2⟩
attribute [go_sem] jo
attribute [go_sem] Tryz.ntmps125 Tryz.results125
theorem mP {s:ai}{times:List Int}{res:Bool}(h:dW s times=some res):ar Tryz.prog 125 [.agg [.lit (.int .i64 s.events),.sl (ab GLink.enc s.links)],.sl (ab eI times)] [] (.lit (.bool res)) []:=by
 refine am (ra:=[]) (md:=mdT) hT (hi:=hi00) Tryz.func125 rfl rfl (by decide +kernel) (by simp) ?_
 unfold dW at h
 obtain ⟨r01,g1,h⟩:=ae h
 simp(config:=cS)only[go_sem]
 refine ah (mO g1) ?_
 obtain ⟨h2,h⟩|⟨h2,h⟩:=af h
 ·obtain ⟨h3,h⟩|⟨h3,h⟩:=af h
  ·obtain ⟨q04,l4,h⟩:=ae h
   simp(config:=cS)only[go_sem,eZt h2,eqT h3]
   refine ay (m1:=.mk) (m2:=.mk) [.nf [17,18,19] []] (jo times ((times.length:Nat):Int)) l4 ?_ ?_
   ·simp(config:=cS)only[go_sem]
   ·intro nb5 v19_1 bb5 b5 gb5
    unfold cP at b5
    try dsimp only at b5
    obtain ⟨h6,b5⟩|⟨h6,b5⟩:=af b5
    ·obtain ⟨x02,g7,b5⟩:=ae b5
     obtain ⟨h8,h9,h10⟩:=ao g7
     obtain ⟨r03,g11,b5⟩:=ae b5
     simp(config:=cS)only[go_sem,eqT h6,h8,h9,h10]
     refine ah (bB g11) ?_
     obtain ⟨h12,b5⟩|⟨h12,b5⟩:=af b5
     ·cases b5
      simp(config:=cS)only[go_sem,eZt h12]
      refine az gb5 ?_
      simp(config:=cS)only[go_sem]
     ·cases b5
      obtain rfl:=(ak gb5).symm
      try dsimp only at h
      cases h
      simp(config:=cS)only[go_sem,eZf h12]
    ·cases b5
     obtain rfl:=(ak gb5).symm
     try dsimp only at h
     cases h
     simp(config:=cS)only[go_sem,eqF h6]
  ·cases h
   simp(config:=cS)only[go_sem,eZt h2,eqF h3]
 ·cases h
  simp(config:=cS)only[go_sem,eZf h2]
attribute [go_sem] Tryz.ntmps200 Tryz.results200
theorem vT {i:aB}{n:Int}{res:Bool}(h:fx i n=some res):ar Tryz.prog 200 [.agg [.lit (.int .i64 i.low),.lit (.int .i64 i.high)],.lit (.int .i64 n)] [] (.lit (.bool res)) []:=by
 refine am (ra:=[]) (md:=mdT) hT (hi:=hi00) Tryz.func200 rfl rfl (by decide +kernel) (by simp) ?_
 unfold fx at h
 obtain ⟨r01,g1,h⟩:=ae h
 simp(config:=cS)only[go_sem]
 refine ah (lv g1) ?_
 obtain ⟨h2,h⟩|⟨h2,h⟩:=af h
 ·obtain ⟨h3,h⟩|⟨h3,h⟩:=af h
  ·obtain ⟨h4,h⟩|⟨h4,h⟩:=af h
   ·cases h
    simp(config:=cS)only[go_sem,eZt h2,eqT h3,eqT h4]
   ·cases h
    simp(config:=cS)only[go_sem,eZt h2,eqT h3,eqF h4]
  ·obtain ⟨h5,h⟩|⟨h5,h⟩:=af h
   ·obtain ⟨h6,h⟩|⟨h6,h⟩:=af h
    ·cases h
     simp(config:=cS)only[go_sem,eZt h2,eqF h3,eqT h5,eqT h6]
    ·cases h
     simp(config:=cS)only[go_sem,eZt h2,eqF h3,eqT h5,eqF h6]
   ·cases h
    simp(config:=cS)only[go_sem,eZt h2,eqF h3,eqF h5]
 ·cases h
  simp(config:=cS)only[go_sem,eZf h2]
def iE (a:List Int)(b:List GLink)(c d:Int):St:=⟨[(1,.sl (ab eI a)),(12,.sl (ab GLink.enc b)),(13,.lit (.int .i64 c)),(14,.lit (.int .i64 d))],[],2⟩
attribute [go_sem] iE
@[go_sem] def hi126_6:DT:=.i2 0 (.i2 1 (.i2 2 (.i2 3 (.i2 4 (.i2 5 (.i2 6 (.i2 7 (.i2 8 (.i2 9 (.i2 10 (.i2 11 (.i2 12 (.i2 13 (.i2 14 .nil))))))))))))))
def zO:Hint where
 acts:=fun _=>[]
 draws:=fun
  | 6=>⟨hi126_6,[[],[0],[],[],[3],[2,3,4],[2,3,4,5],[],[],[8],[7,8,9],[7,8,9,10],[2,3,4,5,6,7,8,9,10,11],.range 13,.range 14],.range 15⟩
  | _=>⟨.nil,[],[]⟩
theorem Kc (i:Nat):zO.acts i=[]:=rfl
theorem Kd (i:Nat):zO.views i=none:=rfl
attribute [go_sem] Kc Kd Tryz.ntmps126 Tryz.results126
@[go_sem] theorem Oh:(zO.draws 6).order=hi126_6:=rfl
theorem sd {s:ai}{times:List Int}{res:Int}(h:em s times=some res):ar Tryz.prog 126 [.agg [.lit (.int .i64 s.events),.sl (ab GLink.enc s.links)],.sl (ab eI times)] [] (.lit (.int .i64 res)) []:=by
 refine am (ra:=[]) (md:=mdT) hT (hi:=zO) Tryz.func126 rfl rfl (by decide +kernel) (by simp) ?_
 unfold em at h
 obtain ⟨r01,g1,h⟩:=ae h
 simp(config:=cS)only[go_sem]
 refine ah (mP g1) ?_
 obtain ⟨h2,h⟩|⟨h2,h⟩:=af h
 ·obtain ⟨q06,l3,h⟩:=ae h
  simp(config:=cS)only[go_sem,eZt h2]
  refine ay (m1:=.mk) (m2:=.mk) [.nf [1,12,13,14] []] (iE times s.links ((s.links.length:Nat):Int)) l3 ?_ ?_
  ·simp(config:=cS)only[go_sem]
  ·intro nb4 v14_1 bb4 b4 gb4
   unfold cj at b4
   try dsimp only at b4
   obtain ⟨h5,b4⟩|⟨h5,b4⟩:=af b4
   ·obtain ⟨x02,g6,b4⟩:=ae b4
    obtain ⟨h7,h8,h9⟩:=ao g6
    obtain ⟨x03,g10,b4⟩:=ae b4
    obtain ⟨h11,h12,h13⟩:=ao g10
    obtain ⟨x04,g14,b4⟩:=ae b4
    obtain ⟨h15,h16,h17⟩:=ao g14
    obtain ⟨r05,g18,b4⟩:=ae b4
    simp(config:=cS)only[go_sem,eqT h5,h7,h8,h9,h11,h12,h13,h15,h16,h17]
    refine ah (vT g18) ?_
    obtain ⟨h19,b4⟩|⟨h19,b4⟩:=af b4
    ·cases b4
     simp(config:=cS)only[go_sem,eZt h19]
     refine az gb4 ?_
     simp(config:=cS)only[go_sem]
    ·cases b4
     obtain rfl:=(ak gb4).symm
     try dsimp only at h
     cases h
     simp(config:=cS)only[go_sem,eZf h19]
   ·cases b4
    obtain rfl:=(ak gb4).symm
    try dsimp only at h
    cases h
    simp(config:=cS)only[go_sem,eqF h5]
 ·cases h
  simp(config:=cS)only[go_sem,eZf h2]
attribute [go_sem] Tryz.ntmps56 Tryz.results56
theorem se {s:ai}{times:List Int}{res:Bool}(h:eo s times=some res):ar Tryz.prog 56 [.agg [.lit (.int .i64 s.events),.sl (ab GLink.enc s.links)],.sl (ab eI times)] [] (.lit (.bool res)) []:=by
 refine am (ra:=[]) (md:=mdT) hT (hi:=hi00) Tryz.func56 rfl rfl (by decide +kernel) (by simp) ?_
 unfold eo at h
 obtain ⟨r01,g1,h⟩:=ae h
 simp(config:=cS)only[go_sem]
 refine ah (mP g1) ?_
 obtain ⟨h2,h⟩|⟨h2,h⟩:=af h
 ·obtain ⟨x02,g3,h⟩:=ae h
  obtain ⟨h5,h6⟩:=oJ (k:=0) g3
  obtain ⟨h7,h⟩|⟨h7,h⟩:=af h
  ·obtain ⟨r03,g8,h⟩:=ae h
   simp(config:=cS)only[go_sem,eZt h2,h5,h6,eqT h7]
   refine ah (sd g8) ?_
   cases h
   simp(config:=cS)only[go_sem]
  ·cases h
   simp(config:=cS)only[go_sem,eZt h2,h5,h6,eqF h7]
 ·cases h
  simp(config:=cS)only[go_sem,eZf h2]
def jp (e:List Int)(f:Int)(g:List GNode)(h:List GTie)(i:Int)(c d:List Int)(j:Int)(a:List GLink):(Int × (List Int))→St
 | (k,b)=>⟨[(3,.ptr 192 1 0 0),(4,.ptr 256 1 0 0),(7,.ptr 448 1 0 0),(9,.ref 1792 1 0 b.length),(29,.sl (ab eI e)),(30,.lit (.int .i64 f)),(31,.lit (.int .i64 k))],[(192,1,.var [.sl (ab GNode.encS g),.sl (ab GTie.enc h),.lit (.int .i64 i)]),(256,1,.var [.sl (ab eI c),.sl (ab eI d)]),(448,1,.var [.lit (.int .i64 j),.ref 960 1 0 a.length]),(960,1,.row true (ab GLink.enc a)),(1792,1,.row true (ab eI b))],2⟩
attribute [go_sem] jp
attribute [go_sem] Tryz.ntmps11 Tryz.results11
theorem vU {s:GShow}{v1:GChoice}{times:List Int}{res:Bool}(h:fy s v1 times=some res):ar Tryz.prog 11 [.agg (GShow.encS s),.agg [.sl (ab eI v1.lengths),.sl (ab eI v1.values)],.sl (ab eI times)] [] (.lit (.bool res)) []:=by
 refine am (ra:=[]) (md:=mdT) hT (hi:=hi00) Tryz.func11 rfl rfl (by decide +kernel) (by simp) ?_
 unfold fy at h
 obtain ⟨r01,g1,h⟩:=ae h
 simp(config:=cS)only[go_sem]
 refine ah (qD g1) ?_
 obtain ⟨h2,h⟩|⟨h2,h⟩:=af h
 ·obtain ⟨h3,h⟩|⟨h3,h⟩:=af h
  ·obtain ⟨q05,l4,h⟩:=ae h
   simp(config:=cS)only[go_sem,eZt h2,eqT h3]
   refine ay (m1:=.mk) (m2:=.mk) [.nf [3,4,7,9,29,30,31] [192,256,448,960,1792]] (jp times ((times.length:Nat):Int) s.nodes s.ties s.horizon v1.lengths v1.values r01.1.events r01.1.links) l4 ?_ ?_
   ·simp(config:=cS)only[go_sem]
   ·intro nb5 sb5 bb5 b5 gb5
    obtain ⟨v31_1,full_1⟩:=sb5
    unfold bY at b5
    try dsimp only at b5
    obtain ⟨h6,b5⟩|⟨h6,b5⟩:=af b5
    ·obtain ⟨x02,g7,b5⟩:=ae b5
     obtain ⟨h8,h9,h10⟩:=ao g7
     obtain ⟨r03,g11,b5⟩:=ae b5
     simp(config:=cS)only[go_sem,eqT h6,h8,h9,h10]
     refine ah (tV g11) ?_
     obtain ⟨h12,b5⟩|⟨h12,b5⟩:=af b5
     ·cases b5
      obtain rfl:=(ak gb5).symm
      try dsimp only at h
      cases h
      simp(config:=cS)only[go_sem,eqT h12]
     ·obtain ⟨h14,b5⟩:=aM b5
      obtain ⟨h15,b5⟩:=aM b5
      obtain ⟨h16,b5⟩|⟨h16,b5⟩:=af b5
      ·cases b5
       obtain rfl:=(ak gb5).symm
       try dsimp only at h
       cases h
       simp(config:=cS)only[go_sem,eqF h12,eqT h14,eqT h15,eqT h16]
      ·cases b5
       simp(config:=cS)only[go_sem,eqF h12,eqT h14,eqT h15,eqF h16]
       refine az gb5 ?_
       simp(config:=cS)only[go_sem]
    ·cases b5
     obtain rfl:=(ak gb5).symm
     try dsimp only at h
     obtain ⟨r04,g19,h⟩:=ae h
     simp(config:=cS)only[go_sem,eqF h6]
     refine ah (se g19) ?_
     cases h
     simp(config:=cS)only[go_sem]
  ·cases h
   simp(config:=cS)only[go_sem,eZt h2,eqF h3]
 ·cases h
  simp(config:=cS)only[go_sem,eZf h2]
def kX (a:Bool)(b:List GNode)(c:List GTie)(d n:Int):St:=⟨[(1,.lit (.bool a)),(2,.ptr 128 1 0 0),(5,.lit (.int .i64 n))],[(128,1,.var [.sl (ab GNode.encS b),.sl (ab GTie.enc c),.lit (.int .i64 d)])],2⟩
attribute [go_sem] kX
attribute [go_sem] Tryz.ntmps19 Tryz.results19
def kq (s:ByteArray)(i:Int):St:=⟨[(0,.lit (.string s)),(3,.lit (.int .i64 i))],[],2⟩
attribute [go_sem] kq
@[go_sem] def hi266_4:DT:=.i2 0 (.i2 1 (.i2 2 (.i2 3 (.i2 4 (.i2 5 (.i2 6 (.i2 7 (.i2 8 (.i2 9 (.i2 10 (.i2 11 (.i2 12 (.i2 13 (.i2 14 (.i2 15 (.i2 16 (.i2 17 (.i2 18 (.i2 19 (.i2 20 (.i2 21 .nil)))))))))))))))))))))
def zP:Hint where
 acts:=fun _=>[]
 draws:=fun
  | 4=>⟨hi266_4,[[],[],[0,1],[0,1,2],[0,1,2,3],.range 5,.range 5,.range 7,.range 8,.range 9,[],[],[10,11],[10,11,12],[0,1,2,3,4,10,11,12,13],[0,1,2,3,4,10,11,12,13,14],[0,1,2,3,4,10,11,12,13,14],[0,1,2,3,4,10,11,12,13,14,15,16],[0,1,2,3,4,10,11,12,13,14,15,16,17],[0,1,2,3,4,10,11,12,13,14,15,16,17,18],.range 15,.range 21],[0,1,2,3,4,5,6,7,8,9,10,11,12,13,14,16,17,18,19,20,15,21]⟩
  | _=>⟨.nil,[],[]⟩
theorem Ke (i:Nat):zP.acts i=[]:=rfl
theorem Kf (i:Nat):zP.views i=none:=rfl
attribute [go_sem] Ke Kf Tryz.ntmps266 Tryz.results266
@[go_sem] theorem Oi:(zP.draws 4).order=hi266_4:=rfl
theorem yM {s:ByteArray}{res:Bool}(h:gN s=some res):ar Tryz.prog 266 [.lit (.string s)] [] (.lit (.bool res)) []:=by
 refine am (ra:=[]) (md:=mdT) hT (hi:=zP) Tryz.func266 rfl rfl (by decide +kernel) (by simp) ?_
 unfold gN at h
 obtain ⟨q02,l1,h⟩:=ae h
 simp(config:=cS)only[go_sem]
 refine ay (m1:=.mk) (m2:=.mk) [.nf [0,3] []] (kq s) l1 ?_ ?_
 ·simp(config:=cS)only[go_sem]
 ·intro nb2 i_1 bb2 b2 gb2
  unfold dD at b2
  try dsimp only at b2
  obtain ⟨h3,b2⟩|⟨h3,b2⟩:=af b2
  ·obtain ⟨c1001,g4,b2⟩:=ae b2
   obtain ⟨h5,h6,h7⟩:=yg g4
   obtain ⟨h8,b2⟩|⟨h8,b2⟩:=af b2
   ·obtain ⟨h9,b2⟩|⟨h9,b2⟩:=af b2
    ·obtain ⟨h10,b2⟩|⟨h10,b2⟩:=af b2
     ·cases b2
      simp(config:=cS)only[go_sem,eqT h3,h5,h6,h7,eqT h8,eqT h9,eqT h10]
      refine az gb2 ?_
      simp(config:=cS)only[go_sem]
     ·obtain ⟨h11,b2⟩|⟨h11,b2⟩:=af b2
      ·obtain ⟨h12,b2⟩|⟨h12,b2⟩:=af b2
       ·cases b2
        obtain rfl:=(ak gb2).symm
        try dsimp only at h
        cases h
        simp(config:=cS)only[go_sem,eqT h3,h5,h6,h7,eqT h8,eqT h9,eqF h10,eqT h11,eqT h12]
       ·cases b2
        simp(config:=cS)only[go_sem,eqT h3,h5,h6,h7,eqT h8,eqT h9,eqF h10,eqT h11,eqF h12]
        refine az gb2 ?_
        simp(config:=cS)only[go_sem]
      ·cases b2
       obtain rfl:=(ak gb2).symm
       try dsimp only at h
       cases h
       simp(config:=cS)only[go_sem,eqT h3,h5,h6,h7,eqT h8,eqT h9,eqF h10,eqF h11]
    ·obtain ⟨h15,b2⟩|⟨h15,b2⟩:=af b2
     ·cases b2
      simp(config:=cS)only[go_sem,eqT h3,h5,h6,h7,eqT h8,eqF h9,eqT h15]
      refine az gb2 ?_
      simp(config:=cS)only[go_sem]
     ·cases b2
      obtain rfl:=(ak gb2).symm
      try dsimp only at h
      cases h
      simp(config:=cS)only[go_sem,eqT h3,h5,h6,h7,eqT h8,eqF h9,eqF h15]
   ·obtain ⟨h17,b2⟩|⟨h17,b2⟩:=af b2
    ·obtain ⟨h18,b2⟩|⟨h18,b2⟩:=af b2
     ·obtain ⟨h19,b2⟩|⟨h19,b2⟩:=af b2
      ·cases b2
       obtain rfl:=(ak gb2).symm
       try dsimp only at h
       cases h
       simp(config:=cS)only[go_sem,eqT h3,h5,h6,h7,eqF h8,eqT h17,eqT h18,eqT h19]
      ·cases b2
       simp(config:=cS)only[go_sem,eqT h3,h5,h6,h7,eqF h8,eqT h17,eqT h18,eqF h19]
       refine az gb2 ?_
       simp(config:=cS)only[go_sem]
     ·cases b2
      obtain rfl:=(ak gb2).symm
      try dsimp only at h
      cases h
      simp(config:=cS)only[go_sem,eqT h3,h5,h6,h7,eqF h8,eqT h17,eqF h18]
    ·cases b2
     obtain rfl:=(ak gb2).symm
     try dsimp only at h
     cases h
     simp(config:=cS)only[go_sem,eqT h3,h5,h6,h7,eqF h8,eqF h17]
  ·cases b2
   obtain rfl:=(ak gb2).symm
   try dsimp only at h
   obtain ⟨h24,h⟩|⟨h24,h⟩:=af h
   ·cases h
    simp(config:=cS)only[go_sem,eqF h3,eqT h24]
   ·cases h
    simp(config:=cS)only[go_sem,eqF h3,eqF h24]
attribute [go_sem] Tryz.ntmps176 Tryz.results176
theorem gB {l res:Int}(h:cE l=some res):ar Tryz.prog 176 [.lit (.int .i64 l)] [] (.lit (.int .i64 res)) []:=by
 refine am (ra:=[]) (md:=mdT) hT (hi:=hi00) Tryz.func176 rfl rfl (by decide +kernel) (by simp) ?_
 unfold cE at h
 cases h
 simp(config:=cS)only[go_sem]
def jS (l:List Int)(a b:Int):St:=⟨[(0,.sl (ab eI l)),(5,.sl (ab eI l)),(6,.lit (.int .i64 a)),(7,.lit (.int .i64 b))],[],2⟩
attribute [go_sem] jS
attribute [go_sem] Tryz.ntmps172 Tryz.results172
theorem iu {l:List Int}{res:Bool}(h:cQ l=some res):ar Tryz.prog 172 [.sl (ab eI l)] [] (.lit (.bool res)) []:=by
 refine am (ra:=[]) (md:=mdT) hT (hi:=hi00) Tryz.func172 rfl rfl (by decide +kernel) (by simp) ?_
 unfold cQ at h
 obtain ⟨q05,l1,h⟩:=ae h
 simp(config:=cS)only[go_sem]
 refine ay (m1:=.mk) (m2:=.mk) [.nf [0,5,6,7] []] (jS l ((l.length:Nat):Int)) l1 ?_ ?_
 ·simp(config:=cS)only[go_sem]
 ·intro nb2 v7_1 bb2 b2 gb2
  unfold di at b2
  try dsimp only at b2
  obtain ⟨h3,b2⟩|⟨h3,b2⟩:=af b2
  ·obtain ⟨x01,g4,b2⟩:=ae b2
   obtain ⟨h5,h6,h7⟩:=ao g4
   obtain ⟨h8,b2⟩|⟨h8,b2⟩:=af b2
   ·cases b2
    obtain rfl:=(ak gb2).symm
    try dsimp only at h
    cases h
    simp(config:=cS)only[go_sem,eqT h3,h5,h6,h7,eqT h8]
   ·obtain ⟨h10,b2⟩|⟨h10,b2⟩:=af b2
    ·cases b2
     obtain rfl:=(ak gb2).symm
     try dsimp only at h
     cases h
     simp(config:=cS)only[go_sem,eqT h3,h5,h6,h7,eqF h8,eqT h10]
    ·obtain ⟨h12,b2⟩|⟨h12,b2⟩:=af b2
     ·cases b2
      obtain rfl:=(ak gb2).symm
      try dsimp only at h
      cases h
      simp(config:=cS)only[go_sem,eqT h3,h5,h6,h7,eqF h8,eqF h10,eqT h12]
     ·obtain ⟨h14,b2⟩|⟨h14,b2⟩:=af b2
      ·obtain ⟨x02,g15,b2⟩:=ae b2
       obtain ⟨h16,h17,h18⟩:=ao g15
       obtain ⟨r03,g19,b2⟩:=ae b2
       simp(config:=cS)only[go_sem,eqT h3,h5,h6,h7,eqF h8,eqF h10,eqF h12,eqT h14,h16,h17,h18]
       refine ah (gB g19) ?_
       obtain ⟨r04,g20,b2⟩:=ae b2
       simp(config:=cS)only[go_sem]
       refine ah (gB g20) ?_
       obtain ⟨h21,b2⟩|⟨h21,b2⟩:=af b2
       ·cases b2
        obtain rfl:=(ak gb2).symm
        try dsimp only at h
        cases h
        simp(config:=cS)only[go_sem,eqT h21]
       ·cases b2
        simp(config:=cS)only[go_sem,eqF h21]
        refine az gb2 ?_
        simp(config:=cS)only[go_sem]
      ·cases b2
       simp(config:=cS)only[go_sem,eqT h3,h5,h6,h7,eqF h8,eqF h10,eqF h12,eqF h14]
       refine az gb2 ?_
       simp(config:=cS)only[go_sem]
  ·cases b2
   obtain rfl:=(ak gb2).symm
   try dsimp only at h
   cases h
   simp(config:=cS)only[go_sem,eqF h3]
attribute [go_sem] Tryz.ntmps223 Tryz.results223
theorem yN {n:GNode}{res:Bool}(h:gO n=some res):ar Tryz.prog 223 [.agg (GNode.encS n)] [] (.lit (.bool res)) []:=by
 refine am (ra:=[]) (md:=mdT) hT (hi:=hi00) Tryz.func223 rfl rfl (by decide +kernel) (by simp) ?_
 unfold gO at h
 obtain ⟨r01,g1,h⟩:=ae h
 simp(config:=cS)only[go_sem]
 refine ah (yM g1) ?_
 obtain ⟨h2,h⟩|⟨h2,h⟩:=af h
 ·obtain ⟨r02,g3,h⟩:=ae h
  simp(config:=cS)only[go_sem,eZt h2]
  refine ah (iu g3) ?_
  obtain ⟨h4,h⟩|⟨h4,h⟩:=af h
  ·obtain ⟨h5,h⟩|⟨h5,h⟩:=af h
   ·cases h
    simp(config:=cS)only[go_sem,eZt h2,eZt h4,eqT h5]
   ·cases h
    simp(config:=cS)only[go_sem,eZt h2,eZt h4,eqF h5]
  ·cases h
   simp(config:=cS)only[go_sem,eZt h2,eZf h4]
 ·cases h
  simp(config:=cS)only[go_sem,eZf h2]
def jq (a:List GNode)(b c:Int)(d:List GNode)(e:Int)(f:List GTie)(g:Int)(h:ByteArray)(i:List Int)(j k:Int):St:=⟨[(1,.ptr 64 1 0 0),(4,.ptr 256 1 0 0),(35,.sl (ab GNode.encS a)),(36,.lit (.int .i64 b)),(37,.lit (.int .i64 c)),(48,.sl (ab GNode.encS d)),(49,.lit (.int .i64 e)),(50,.lit (.int .i64 k))],[(64,1,.var [.sl (ab GNode.encS a),.sl (ab GTie.enc f),.lit (.int .i64 g)]),(256,1,.var [.lit (.string h),.sl (ab eI i),.lit (.int .i64 j)])],2⟩
attribute [go_sem] jq
def jr (a:List GNode)(b:Int)(c:List GTie)(d e:Int):St:=⟨[(1,.ptr 64 1 0 0),(35,.sl (ab GNode.encS a)),(36,.lit (.int .i64 b)),(37,.lit (.int .i64 e))],[(64,1,.var [.sl (ab GNode.encS a),.sl (ab GTie.enc c),.lit (.int .i64 d)])],2⟩
attribute [go_sem] jr
attribute [go_sem] Tryz.ntmps142 Tryz.results142
theorem vV {s:GShow}{res:Bool}(h:fz s=some res):ar Tryz.prog 142 [.agg (GShow.encS s)] [] (.lit (.bool res)) []:=by
 refine am (ra:=[]) (md:=mdT) hT (hi:=hi00) Tryz.func142 rfl rfl (by decide +kernel) (by simp) ?_
 unfold fz at h
 obtain ⟨h1,h⟩|⟨h1,h⟩:=af h
 ·cases h
  simp(config:=cS)only[go_sem,eqT h1]
 ·obtain ⟨h2,h⟩|⟨h2,h⟩:=af h
  ·cases h
   simp(config:=cS)only[go_sem,eqF h1,eqT h2]
  ·obtain ⟨x01,g3,h⟩:=ae h
   obtain ⟨h5,h6⟩:=oJ (k:=0) g3
   obtain ⟨h7,h⟩|⟨h7,h⟩:=af h
   ·cases h
    simp(config:=cS)only[go_sem,eqF h1,eqF h2,h5,h6,eqT h7]
   ·obtain ⟨h8,h⟩|⟨h8,h⟩:=af h
    ·obtain ⟨q06,l9,h⟩:=ae h
     simp(config:=cS)only[go_sem,eqF h1,eqF h2,h5,h6,eqF h7,eqT h8]
     refine ay (m1:=.mk) (m2:=.mk) [.nf [1,35,36,37] [64]] (jr s.nodes ((s.nodes.length:Nat):Int) s.ties s.horizon) l9 ?_ ?_
     ·simp(config:=cS)only[go_sem]
     ·intro nb10 v37_1 bb10 b10 gb10
      unfold cT at b10
      try dsimp only at b10
      obtain ⟨h11,b10⟩|⟨h11,b10⟩:=af b10
      ·obtain ⟨x02,g12,b10⟩:=ae b10
       obtain ⟨h13,h14,h15⟩:=ao g12
       obtain ⟨r03,g16,b10⟩:=ae b10
       simp(config:=cS)only[go_sem,eqT h11,h13,h14,h15]
       refine ah (yN g16) ?_
       obtain ⟨h17,b10⟩|⟨h17,b10⟩:=af b10
       ·obtain ⟨h18,b10⟩:=aM b10
        obtain ⟨h19,b10⟩:=aM b10
        obtain ⟨q05,l20,b10⟩:=ae b10
        simp(config:=cS)only[go_sem,eZt h17,eqT h18,eqT h19]
        refine ay (m1:=.mk) (m2:=.mk) [.nf [1,4,35,36,37,48,49,50] [64,256]] (jq s.nodes ((s.nodes.length:Nat):Int) v37_1 (s.nodes.take v37_1.toNat) (((s.nodes.take v37_1.toNat).length:Nat):Int) s.ties s.horizon x02.name x02.label x02.watch) l20 ?_ ?_
        ·simp(config:=cS)only[go_sem]
        ·intro nb21 v50_2 bb21 b21 gb21
         unfold cR at b21
         try dsimp only at b21
         obtain ⟨h22,b21⟩|⟨h22,b21⟩:=af b21
         ·obtain ⟨x04,g23,b21⟩:=ae b21
          obtain ⟨h24,h25,h26⟩:=ao g23
          obtain ⟨h27,b21⟩|⟨h27,b21⟩:=af b21
          ·cases b21
           obtain rfl:=(ak gb21).symm
           try dsimp only at b10
           cases b10
           obtain rfl:=(ak gb10).symm
           try dsimp only at h
           cases h
           simp(config:=cS)only[go_sem,eqT h22,h24,h25,h26,eqT h27]
          ·obtain ⟨h30,b21⟩|⟨h30,b21⟩:=af b21
           ·cases b21
            simp(config:=cS)only[go_sem,eqT h22,h24,h25,h26,eqF h27,eqT h30]
            refine az gb21 ?_
            simp(config:=cS)only[go_sem]
           ·obtain ⟨h31,b21⟩|⟨h31,b21⟩:=af b21
            ·cases b21
             obtain rfl:=(ak gb21).symm
             try dsimp only at b10
             cases b10
             obtain rfl:=(ak gb10).symm
             try dsimp only at h
             cases h
             simp(config:=cS)only[go_sem,eqT h22,h24,h25,h26,eqF h27,eqF h30,eqT h31]
            ·cases b21
             simp(config:=cS)only[go_sem,eqT h22,h24,h25,h26,eqF h27,eqF h30,eqF h31]
             refine az gb21 ?_
             simp(config:=cS)only[go_sem]
         ·cases b21
          obtain rfl:=(ak gb21).symm
          try dsimp only at b10
          cases b10
          simp(config:=cS)only[go_sem,eqF h22]
          refine az gb10 ?_
          simp(config:=cS)only[go_sem]
       ·cases b10
        obtain rfl:=(ak gb10).symm
        try dsimp only at h
        cases h
        simp(config:=cS)only[go_sem,eZf h17]
      ·cases b10
       obtain rfl:=(ak gb10).symm
       try dsimp only at h
       cases h
       simp(config:=cS)only[go_sem,eqF h11]
    ·cases h
     simp(config:=cS)only[go_sem,eqF h1,eqF h2,h5,h6,eqF h7,eqF h8]
attribute [go_sem] Tryz.ntmps103 Tryz.results103
theorem iV {n node:Int}{res:Bool}(h:dq n node=some res):ar Tryz.prog 103 [.lit (.int .i64 n),.lit (.int .i64 node)] [] (.lit (.bool res)) []:=by
 refine am (ra:=[]) (md:=mdT) hT (hi:=hi00) Tryz.func103 rfl rfl (by decide +kernel) (by simp) ?_
 unfold dq at h
 obtain ⟨h1,h⟩|⟨h1,h⟩:=af h
 ·cases h
  simp(config:=cS)only[go_sem,eqT h1]
 ·cases h
  simp(config:=cS)only[go_sem,eqF h1]
attribute [go_sem] Tryz.ntmps224 Tryz.results224
theorem pE {n:Int}{res:Bool}(h:fk n=some res):ar Tryz.prog 224 [.lit (.int .i64 n)] [] (.lit (.bool res)) []:=by
 refine am (ra:=[]) (md:=mdT) hT (hi:=hi00) Tryz.func224 rfl rfl (by decide +kernel) (by simp) ?_
 unfold fk at h
 obtain ⟨h1,h⟩|⟨h1,h⟩:=af h
 ·cases h
  simp(config:=cS)only[go_sem,eqT h1]
 ·cases h
  simp(config:=cS)only[go_sem,eqF h1]
def ii (c d:List Int)(a b:Int):St:=⟨[(0,.sl (ab eI c)),(1,.sl (ab eI d)),(12,.lit (.int .i64 a)),(13,.lit (.int .i64 b))],[],2⟩
attribute [go_sem] ii
@[go_sem] def hi91_6:DT:=.i2 0 (.i2 1 (.i2 2 (.i2 3 (.i2 4 (.i2 5 (.i2 6 (.i2 7 (.i2 8 .nil))))))))
def hi91:Hint where
 acts:=fun _=>[]
 draws:=fun
  | 6=>⟨hi91_6,[[],[],[0,1],[0,1,2],[],[],[4,5],[4,5,6],.range 8],.range 9⟩
  | _=>⟨.nil,[],[]⟩
theorem LU (i:Nat):hi91.acts i=[]:=rfl
theorem LV (i:Nat):hi91.views i=none:=rfl
attribute [go_sem] LU LV Tryz.ntmps91 Tryz.results91
@[go_sem] theorem OY:(hi91.draws 6).order=hi91_6:=rfl
theorem qE {v0 v1:List Int}{res:Bool}(h:dP v0 v1=some res):ar Tryz.prog 91 [.sl (ab eI v0),.sl (ab eI v1)] [] (.lit (.bool res)) []:=by
 refine am (ra:=[]) (md:=mdT) hT (hi:=hi91) Tryz.func91 rfl rfl (by decide +kernel) (by simp) ?_
 unfold dP at h
 obtain ⟨h1,h⟩|⟨h1,h⟩:=af h
 ·obtain ⟨q03,l2,h⟩:=ae h
  simp(config:=cS)only[go_sem,eqT h1]
  refine ay (m1:=.mk) (m2:=.mk) [.nf [0,1,12,13] []] (ii v0 v1 ((v0.length:Nat):Int)) l2 ?_ ?_
  ·simp(config:=cS)only[go_sem]
  ·intro nb3 v13_1 bb3 b3 gb3
   unfold bW at b3
   try dsimp only at b3
   obtain ⟨h4,b3⟩|⟨h4,b3⟩:=af b3
   ·obtain ⟨x01,g5,b3⟩:=ae b3
    obtain ⟨h6,h7,h8⟩:=ao g5
    obtain ⟨x02,g9,b3⟩:=ae b3
    obtain ⟨h10,h11,h12⟩:=ao g9
    obtain ⟨h13,b3⟩|⟨h13,b3⟩:=af b3
    ·cases b3
     simp(config:=cS)only[go_sem,eqT h4,h6,h7,h8,h10,h11,h12,eqT h13]
     refine az gb3 ?_
     simp(config:=cS)only[go_sem]
    ·cases b3
     obtain rfl:=(ak gb3).symm
     try dsimp only at h
     cases h
     simp(config:=cS)only[go_sem,eqT h4,h6,h7,h8,h10,h11,h12,eqF h13]
   ·cases b3
    obtain rfl:=(ak gb3).symm
    try dsimp only at h
    cases h
    simp(config:=cS)only[go_sem,eqF h4]
 ·cases h
  simp(config:=cS)only[go_sem,eqF h1]
def fW (c:List GTie)(a:Nat)(b:List AV)(d e:Int):St:=⟨[(0,.sl (ab GTie.enc c)),(1,.fn a b),(7,.lit (.int .i64 d)),(8,.lit (.int .i64 e))],[],2⟩
attribute [go_sem] fW
attribute [go_sem] Tryz.ntmps276 Tryz.results276
theorem nz {v0:List GTie}{v1:GTie→Option Bool}{f_v1:Nat}{k_v1:List AV}(hp_v1:∀ y0 r,v1 y0=some r→ar Tryz.prog f_v1 ([.agg (GTie.enc y0)]++k_v1) [] (.lit (.bool r)) [])(hc_v1:KC k_v1)(hm_v1:∀ a,mdT f_v1 a=⟨[],false⟩)(hk_v1:spf f_v1=false){res:Int}(h:cA v0 v1=some res):ar Tryz.prog 276 [.sl (ab GTie.enc v0),.fn f_v1 k_v1] [] (.lit (.int .i64 res)) []:=by
 refine am (ra:=[]) (md:=mdT) hT (hi:=hi00) Tryz.func276 rfl rfl (by decide +kernel) (by simp) ?_
 unfold cA at h
 obtain ⟨q03,l1,h⟩:=ae h
 simp(config:=cS)only[go_sem,hc_v1.1,hc_v1.2,hm_v1,hk_v1]
 refine ay (m1:=.mk) (m2:=.mk) [.nf [0,1,7,8] []] (fW v0 f_v1 k_v1 ((v0.length:Nat):Int)) l1 ?_ ?_
 ·simp(config:=cS)only[go_sem,hc_v1.1,hc_v1.2,hm_v1,hk_v1]
 ·intro nb2 v8_1 bb2 b2 gb2
  unfold bq at b2
  try dsimp only at b2
  obtain ⟨h3,b2⟩|⟨h3,b2⟩:=af b2
  ·obtain ⟨x01,g4,b2⟩:=ae b2
   obtain ⟨h5,h6,h7⟩:=ao g4
   obtain ⟨r02,g8,b2⟩:=ae b2
   simp(config:=cS)only[go_sem,hc_v1.1,hc_v1.2,hm_v1,hk_v1,eqT h3,h5,h6,h7]
   refine ah (hp_v1 _ _ g8) ?_
   obtain ⟨h9,b2⟩|⟨h9,b2⟩:=af b2
   ·cases b2
    obtain rfl:=(ak gb2).symm
    try dsimp only at h
    cases h
    simp(config:=cS)only[go_sem,hc_v1.1,hc_v1.2,hm_v1,hk_v1,eqT h3,h5,h6,h7,eZt h9]
   ·cases b2
    simp(config:=cS)only[go_sem,hc_v1.1,hc_v1.2,hm_v1,hk_v1,eqT h3,h5,h6,h7,eZf h9]
    refine az gb2 ?_
    simp(config:=cS)only[go_sem,hc_v1.1,hc_v1.2,hm_v1,hk_v1,eqT h3,h5,h6,h7,eZf h9]
  ·cases b2
   obtain rfl:=(ak gb2).symm
   try dsimp only at h
   cases h
   simp(config:=cS)only[go_sem,hc_v1.1,hc_v1.2,hm_v1,hk_v1,eqF h3]
attribute [go_sem] Tryz.ntmps225 Tryz.results225
theorem lK {v0:List GTie}{v1:GTie→Option Bool}{f_v1:Nat}{k_v1:List AV}(hp_v1:∀ y0 r,v1 y0=some r→ar Tryz.prog f_v1 ([.agg (GTie.enc y0)]++k_v1) [] (.lit (.bool r)) [])(hc_v1:KC k_v1)(hm_v1:∀ a,mdT f_v1 a=⟨[],false⟩)(hk_v1:spf f_v1=false){res:Bool}(h:br v0 v1=some res):ar Tryz.prog 225 [.sl (ab GTie.enc v0),.fn f_v1 k_v1] [] (.lit (.bool res)) []:=by
 refine am (ra:=[]) (md:=mdT) hT (hi:=hi00) Tryz.func225 rfl rfl (by decide +kernel) (by simp) ?_
 unfold br at h
 obtain ⟨r01,g1,h⟩:=ae h
 simp(config:=cS)only[go_sem,hc_v1.1,hc_v1.2,hm_v1,hk_v1]
 refine ah (nz hp_v1 hc_v1 hm_v1 hk_v1 g1) ?_
 cases h
 simp(config:=cS)only[go_sem]
attribute [go_sem] Tryz.ntmps226 Tryz.results226
theorem sf {u t:GTie}{res:Bool}(h:ep u t=some res):ar Tryz.prog 226 [.agg (GTie.enc u),.loc [.lit (.int .i64 t.from_),.lit (.int .i64 t.to),.lit (.int .i64 t.low),.lit (.int .i64 t.high),.lit (.bool t.free)]] [] (.lit (.bool res)) []:=by
 refine am (ra:=[]) (md:=mdT) hT (hi:=hi00) Tryz.func226 rfl rfl (by decide +kernel) (by simp) ?_
 unfold ep at h
 obtain ⟨h1,h⟩|⟨h1,h⟩:=af h
 ·cases h
  simp(config:=cS)only[go_sem,eZt h1]
 ·cases h
  simp(config:=cS)only[go_sem,eZf h1]
def jT (a:List GTie)(d:Int)(b:List GNode)(c e:Int):St:=⟨[(1,.ptr 64 1 0 0),(6,.sl (ab GTie.enc a)),(7,.lit (.int .i64 d)),(8,.lit (.int .i64 e))],[(64,1,.var [.sl (ab GNode.encS b),.sl (ab GTie.enc a),.lit (.int .i64 c)])],2⟩
attribute [go_sem] jT
@[go_sem] def hi143_7:DT:=.i2 0 (.i2 1 (.i2 2 (.i2 3 (.i2 4 (.i2 5 (.i2 6 (.i2 7 (.i2 8 (.i2 9 (.i2 10 (.i2 11 (.i2 12 (.i2 13 (.i2 14 (.i2 15 (.i2 16 (.i2 17 (.i2 18 (.i2 19 (.i2 20 (.i2 21 (.i2 22 (.i2 23 (.i2 24 (.i2 25 (.i2 26 (.i2 27 (.i2 28 (.i2 29 (.i2 30 (.i2 31 (.i2 32 (.i2 33 (.i2 34 (.i2 35 .nil)))))))))))))))))))))))))))))))))))
def zQ:Hint where
 acts:=fun _=>[]
 draws:=fun
  | 7=>⟨hi143_7,[[],[0],[0,1],[0,1,2],[0,1,2,3],.range 5,.range 6,.range 7,.range 8,.range 9,.range 10,.range 9,[0,1,2,3,4,5,6,7,8,11],.range 13,.range 14,.range 15,.range 16,.range 17,.range 18,.range 19,.range 20,.range 19,[0,1,2,3,4,5,6,7,8,9,10,11,12,13,14,15,16,17,18,21],.range 23,.range 24,.range 25,.range 19,[0,1,2,3,4,5,6,7,8,9,10,11,12,13,14,15,16,17,18,26],.range 19,[0,1,2,3,4,5,6,7,8,9,10,11,12,13,14,15,16,17,18,28],[0,1,2,3,4,5,6,7,8,9,10,11,12,13,14,15,16,17,18,26,27,28,29],[0,1,2,3,4,5,6,7,8,9,10,11,12,13,14,15,16,17,18,26,27,28,29,30],[0,1,2,3,4,5,6,7,8,9,10,11,12,13,14,15,16,17,18,26,27,28,29,30,31],.range 33,.range 34,.range 35],.range 36⟩
  | _=>⟨.nil,[],[]⟩
theorem Kg (i:Nat):zQ.acts i=[]:=rfl
theorem Kh (i:Nat):zQ.views i=none:=rfl
attribute [go_sem] Kg Kh Tryz.ntmps143 Tryz.results143
@[go_sem] theorem Oj:(zQ.draws 7).order=hi143_7:=rfl
theorem xo {s:GShow}{res:Bool}(h:gg s=some res):ar Tryz.prog 143 [.agg (GShow.encS s)] [] (.lit (.bool res)) []:=by
 refine am (ra:=[]) (md:=mdT) hT (hi:=zQ) Tryz.func143 rfl rfl (by decide +kernel) (by simp) ?_
 unfold gg at h
 obtain ⟨q10,l1,h⟩:=ae h
 simp(config:=cS)only[go_sem]
 refine ay (m1:=.mk) (m2:=.mk) [.nf [1,6,7,8] [64]] (jT s.ties ((s.ties.length:Nat):Int) s.nodes s.horizon) l1 ?_ ?_
 ·simp(config:=cS)only[go_sem]
 ·intro nb2 v8_1 bb2 b2 gb2
  unfold dj at b2
  try dsimp only at b2
  obtain ⟨h3,b2⟩|⟨h3,b2⟩:=af b2
  ·obtain ⟨x01,g4,b2⟩:=ae b2
   obtain ⟨h5,h6,h7⟩:=ao g4
   obtain ⟨r02,g8,b2⟩:=ae b2
   simp(config:=cS)only[go_sem,eqT h3,h5,h6,h7]
   refine ah (iV g8) ?_
   obtain ⟨h9,b2⟩|⟨h9,b2⟩:=af b2
   ·obtain ⟨r03,g10,b2⟩:=ae b2
    simp(config:=cS)only[go_sem,eqT h3,h5,h6,h7,eZt h9]
    refine ah (iV g10) ?_
    obtain ⟨h11,b2⟩|⟨h11,b2⟩:=af b2
    ·obtain ⟨h12,b2⟩|⟨h12,b2⟩:=af b2
     ·cases b2
      obtain rfl:=(ak gb2).symm
      try dsimp only at h
      cases h
      simp(config:=cS)only[go_sem,eqT h3,h5,h6,h7,eZt h9,eZt h11,eqT h12]
     ·obtain ⟨r04,g14,b2⟩:=ae b2
      simp(config:=cS)only[go_sem,eqT h3,h5,h6,h7,eZt h9,eZt h11,eqF h12]
      refine ah (pE g14) ?_
      obtain ⟨h15,b2⟩|⟨h15,b2⟩:=af b2
      ·obtain ⟨r05,g16,b2⟩:=ae b2
       simp(config:=cS)only[go_sem,eqT h3,h5,h6,h7,eZt h9,eZt h11,eqF h12,eZt h15]
       refine ah (pE g16) ?_
       obtain ⟨h17,b2⟩|⟨h17,b2⟩:=af b2
       ·obtain ⟨h18,b2⟩|⟨h18,b2⟩:=af b2
        ·cases b2
         obtain rfl:=(ak gb2).symm
         try dsimp only at h
         cases h
         simp(config:=cS)only[go_sem,eqT h3,h5,h6,h7,eZt h9,eZt h11,eqF h12,eZt h15,eZt h17,eqT h18]
        ·obtain ⟨h20,b2⟩|⟨h20,b2⟩:=af b2
         ·obtain ⟨h21,b2⟩|⟨h21,b2⟩:=af b2
          ·cases b2
           obtain rfl:=(ak gb2).symm
           try dsimp only at h
           cases h
           simp(config:=cS)only[go_sem,eqT h3,h5,h6,h7,eZt h9,eZt h11,eqF h12,eZt h15,eZt h17,eqF h18,eZt h20,eqT h21]
          ·obtain ⟨h23,b2⟩|⟨h23,b2⟩:=af b2
           ·cases b2
            obtain rfl:=(ak gb2).symm
            try dsimp only at h
            cases h
            simp(config:=cS)only[go_sem,eqT h3,h5,h6,h7,eZt h9,eZt h11,eqF h12,eZt h15,eZt h17,eqF h18,eZt h20,eqF h21,eqT h23]
           ·obtain ⟨x06,g25,b2⟩:=ae b2
            obtain ⟨h26,h27,h28⟩:=ao g25
            obtain ⟨h29,b2⟩|⟨h29,b2⟩:=af b2
            ·obtain ⟨x07,g30,b2⟩:=ae b2
             obtain ⟨h31,h32,h33⟩:=ao g30
             obtain ⟨r08,g34,b2⟩:=ae b2
             simp(config:=cS)only[go_sem,eqT h3,h5,h6,h7,eZt h9,eZt h11,eqF h12,eZt h15,eZt h17,eqF h18,eZt h20,eqF h21,eqF h23,h26,h27,h28,eqT h29,h31,h32,h33]
             refine ah (qE g34) ?_
             obtain ⟨h35,b2⟩|⟨h35,b2⟩:=af b2
             ·obtain ⟨h36,b2⟩:=aM b2
              obtain ⟨h37,b2⟩:=aM b2
              obtain ⟨r09,g38,b2⟩:=ae b2
              simp(config:=cS)only[go_sem,eqT h3,h5,h6,h7,eZt h9,eZt h11,eqF h12,eZt h15,eZt h17,eqF h18,eZt h20,eqF h21,eqF h23,h26,h27,h28,eqT h29,h31,h32,h33,eZt h35,eqT h36,eqT h37]
              refine ah (lK (by exact fun _ _ hr=>sf hr) (by refine ⟨fun _=>?_,fun _=>?_⟩ <;> simp only [go_sem]) (fun _=>rfl) rfl g38) ?_
              obtain ⟨h39,b2⟩|⟨h39,b2⟩:=af b2
              ·cases b2
               obtain rfl:=(ak gb2).symm
               try dsimp only at h
               cases h
               simp(config:=cS)only[go_sem,eqT h3,h5,h6,h7,eZt h9,eZt h11,eqF h12,eZt h15,eZt h17,eqF h18,eZt h20,eqF h21,eqF h23,h26,h27,h28,eqT h29,h31,h32,h33,eZt h35,eqT h36,eqT h37,eZt h39]
              ·cases b2
               simp(config:=cS)only[go_sem,eqT h3,h5,h6,h7,eZt h9,eZt h11,eqF h12,eZt h15,eZt h17,eqF h18,eZt h20,eqF h21,eqF h23,h26,h27,h28,eqT h29,h31,h32,h33,eZt h35,eqT h36,eqT h37,eZf h39]
               refine az gb2 ?_
               simp(config:=cS)only[go_sem,eqT h3,h5,h6,h7,eZt h9,eZt h11,eqF h12,eZt h15,eZt h17,eqF h18,eZt h20,eqF h21,eqF h23,h26,h27,h28,eqT h29,h31,h32,h33,eZt h35,eqT h36,eqT h37,eZf h39]
             ·cases b2
              obtain rfl:=(ak gb2).symm
              try dsimp only at h
              cases h
              simp(config:=cS)only[go_sem,eqT h3,h5,h6,h7,eZt h9,eZt h11,eqF h12,eZt h15,eZt h17,eqF h18,eZt h20,eqF h21,eqF h23,h26,h27,h28,eqT h29,h31,h32,h33,eZf h35]
            ·cases b2
             obtain rfl:=(ak gb2).symm
             try dsimp only at h
             cases h
             simp(config:=cS)only[go_sem,eqT h3,h5,h6,h7,eZt h9,eZt h11,eqF h12,eZt h15,eZt h17,eqF h18,eZt h20,eqF h21,eqF h23,h26,h27,h28,eqF h29]
         ·cases b2
          simp(config:=cS)only[go_sem,eqT h3,h5,h6,h7,eZt h9,eZt h11,eqF h12,eZt h15,eZt h17,eqF h18,eZf h20]
          refine az gb2 ?_
          simp(config:=cS)only[go_sem,eqT h3,h5,h6,h7,eZt h9,eZt h11,eqF h12,eZt h15,eZt h17,eqF h18,eZf h20]
       ·cases b2
        obtain rfl:=(ak gb2).symm
        try dsimp only at h
        cases h
        simp(config:=cS)only[go_sem,eqT h3,h5,h6,h7,eZt h9,eZt h11,eqF h12,eZt h15,eZf h17]
      ·cases b2
       obtain rfl:=(ak gb2).symm
       try dsimp only at h
       cases h
       simp(config:=cS)only[go_sem,eqT h3,h5,h6,h7,eZt h9,eZt h11,eqF h12,eZf h15]
    ·cases b2
     obtain rfl:=(ak gb2).symm
     try dsimp only at h
     cases h
     simp(config:=cS)only[go_sem,eqT h3,h5,h6,h7,eZt h9,eZf h11]
   ·cases b2
    obtain rfl:=(ak gb2).symm
    try dsimp only at h
    cases h
    simp(config:=cS)only[go_sem,eqT h3,h5,h6,h7,eZf h9]
  ·cases b2
   obtain rfl:=(ak gb2).symm
   try dsimp only at h
   cases h
   simp(config:=cS)only[go_sem,eqF h3]
def fX (c:List Int)(a:Nat)(b:List AV)(d e:Int):St:=⟨[(0,.sl (ab eI c)),(1,.fn a b),(7,.lit (.int .i64 d)),(8,.lit (.int .i64 e))],[],2⟩
attribute [go_sem] fX
attribute [go_sem] Tryz.ntmps227 Tryz.results227
theorem nD {v0:List Int}{v1:Int→Option Bool}{f_v1:Nat}{k_v1:List AV}(hp_v1:∀ y0 r,v1 y0=some r→ar Tryz.prog f_v1 ([.lit (.int .i64 y0)]++k_v1) [] (.lit (.bool r)) [])(hc_v1:KC k_v1)(hm_v1:∀ a,mdT f_v1 a=⟨[],false⟩)(hk_v1:spf f_v1=false){res:Int}(h:cB v0 v1=some res):ar Tryz.prog 227 [.sl (ab eI v0),.fn f_v1 k_v1] [] (.lit (.int .i64 res)) []:=by
 refine am (ra:=[]) (md:=mdT) hT (hi:=hi00) Tryz.func227 rfl rfl (by decide +kernel) (by simp) ?_
 unfold cB at h
 obtain ⟨q03,l1,h⟩:=ae h
 simp(config:=cS)only[go_sem,hc_v1.1,hc_v1.2,hm_v1,hk_v1]
 refine ay (m1:=.mk) (m2:=.mk) [.nf [0,1,7,8] []] (fX v0 f_v1 k_v1 ((v0.length:Nat):Int)) l1 ?_ ?_
 ·simp(config:=cS)only[go_sem,hc_v1.1,hc_v1.2,hm_v1,hk_v1]
 ·intro nb2 v8_1 bb2 b2 gb2
  unfold bu at b2
  try dsimp only at b2
  obtain ⟨h3,b2⟩|⟨h3,b2⟩:=af b2
  ·obtain ⟨x01,g4,b2⟩:=ae b2
   obtain ⟨h5,h6,h7⟩:=ao g4
   obtain ⟨r02,g8,b2⟩:=ae b2
   simp(config:=cS)only[go_sem,hc_v1.1,hc_v1.2,hm_v1,hk_v1,eqT h3,h5,h6,h7]
   refine ah (hp_v1 _ _ g8) ?_
   obtain ⟨h9,b2⟩|⟨h9,b2⟩:=af b2
   ·cases b2
    obtain rfl:=(ak gb2).symm
    try dsimp only at h
    cases h
    simp(config:=cS)only[go_sem,hc_v1.1,hc_v1.2,hm_v1,hk_v1,eqT h3,h5,h6,h7,eZt h9]
   ·cases b2
    simp(config:=cS)only[go_sem,hc_v1.1,hc_v1.2,hm_v1,hk_v1,eqT h3,h5,h6,h7,eZf h9]
    refine az gb2 ?_
    simp(config:=cS)only[go_sem,hc_v1.1,hc_v1.2,hm_v1,hk_v1,eqT h3,h5,h6,h7,eZf h9]
  ·cases b2
   obtain rfl:=(ak gb2).symm
   try dsimp only at h
   cases h
   simp(config:=cS)only[go_sem,hc_v1.1,hc_v1.2,hm_v1,hk_v1,eqF h3]
attribute [go_sem] Tryz.ntmps144 Tryz.results144
theorem cX {v0:List Int}{v1:Int→Option Bool}{f_v1:Nat}{k_v1:List AV}(hp_v1:∀ y0 r,v1 y0=some r→ar Tryz.prog f_v1 ([.lit (.int .i64 y0)]++k_v1) [] (.lit (.bool r)) [])(hc_v1:KC k_v1)(hm_v1:∀ a,mdT f_v1 a=⟨[],false⟩)(hk_v1:spf f_v1=false){res:Bool}(h:aP v0 v1=some res):ar Tryz.prog 144 [.sl (ab eI v0),.fn f_v1 k_v1] [] (.lit (.bool res)) []:=by
 refine am (ra:=[]) (md:=mdT) hT (hi:=hi00) Tryz.func144 rfl rfl (by decide +kernel) (by simp) ?_
 unfold aP at h
 obtain ⟨r01,g1,h⟩:=ae h
 simp(config:=cS)only[go_sem,hc_v1.1,hc_v1.2,hm_v1,hk_v1]
 refine ah (nD hp_v1 hc_v1 hm_v1 hk_v1 g1) ?_
 cases h
 simp(config:=cS)only[go_sem]
def fM (c:List GNode)(a:Nat)(b:List AV)(d e:Int):St:=⟨[(0,.sl (ab GNode.encS c)),(1,.fn a b),(7,.lit (.int .i64 d)),(8,.lit (.int .i64 e))],[],2⟩
attribute [go_sem] fM
attribute [go_sem] Tryz.ntmps230 Tryz.results230
theorem mz {v0:List GNode}{v1:GNode→Option Bool}{f_v1:Nat}{k_v1:List AV}(hp_v1:∀ y0 r,v1 y0=some r→ar Tryz.prog f_v1 ([.agg (GNode.encS y0)]++k_v1) [] (.lit (.bool r)) [])(hc_v1:KC k_v1)(hm_v1:∀ a,mdT f_v1 a=⟨[],false⟩)(hk_v1:spf f_v1=false){res:Int}(h:cn v0 v1=some res):ar Tryz.prog 230 [.sl (ab GNode.encS v0),.fn f_v1 k_v1] [] (.lit (.int .i64 res)) []:=by
 refine am (ra:=[]) (md:=mdT) hT (hi:=hi00) Tryz.func230 rfl rfl (by decide +kernel) (by simp) ?_
 unfold cn at h
 obtain ⟨q03,l1,h⟩:=ae h
 simp(config:=cS)only[go_sem,hc_v1.1,hc_v1.2,hm_v1,hk_v1]
 refine ay (m1:=.mk) (m2:=.mk) [.nf [0,1,7,8] []] (fM v0 f_v1 k_v1 ((v0.length:Nat):Int)) l1 ?_ ?_
 ·simp(config:=cS)only[go_sem,hc_v1.1,hc_v1.2,hm_v1,hk_v1]
 ·intro nb2 v8_1 bb2 b2 gb2
  unfold bm at b2
  try dsimp only at b2
  obtain ⟨h3,b2⟩|⟨h3,b2⟩:=af b2
  ·obtain ⟨x01,g4,b2⟩:=ae b2
   obtain ⟨h5,h6,h7⟩:=ao g4
   obtain ⟨r02,g8,b2⟩:=ae b2
   simp(config:=cS)only[go_sem,hc_v1.1,hc_v1.2,hm_v1,hk_v1,eqT h3,h5,h6,h7]
   refine ah (hp_v1 _ _ g8) ?_
   obtain ⟨h9,b2⟩|⟨h9,b2⟩:=af b2
   ·cases b2
    obtain rfl:=(ak gb2).symm
    try dsimp only at h
    cases h
    simp(config:=cS)only[go_sem,hc_v1.1,hc_v1.2,hm_v1,hk_v1,eqT h3,h5,h6,h7,eZt h9]
   ·cases b2
    simp(config:=cS)only[go_sem,hc_v1.1,hc_v1.2,hm_v1,hk_v1,eqT h3,h5,h6,h7,eZf h9]
    refine az gb2 ?_
    simp(config:=cS)only[go_sem,hc_v1.1,hc_v1.2,hm_v1,hk_v1,eqT h3,h5,h6,h7,eZf h9]
  ·cases b2
   obtain rfl:=(ak gb2).symm
   try dsimp only at h
   cases h
   simp(config:=cS)only[go_sem,hc_v1.1,hc_v1.2,hm_v1,hk_v1,eqF h3]
attribute [go_sem] Tryz.ntmps231 Tryz.results231
theorem sg {n:GNode}{p:Int}{res:Bool}(h:fP n p=some res):ar Tryz.prog 231 [.agg (GNode.encS n),.loc [.lit (.int .i64 p)]] [] (.lit (.bool res)) []:=by
 refine am (ra:=[]) (md:=mdT) hT (hi:=hi00) Tryz.func231 rfl rfl (by decide +kernel) (by simp) ?_
 unfold fP at h
 obtain ⟨h1,h⟩|⟨h1,h⟩:=af h
 ·cases h
  simp(config:=cS)only[go_sem,eqT h1]
 ·cases h
  simp(config:=cS)only[go_sem,eqF h1]
attribute [go_sem] Tryz.ntmps148 Tryz.results148
theorem iv {s:GShow}{p res:Int}(h:ck s p=some res):ar Tryz.prog 148 [.agg (GShow.encS s),.lit (.int .i64 p)] [] (.lit (.int .i64 res)) []:=by
 refine am (ra:=[]) (md:=mdT) hT (hi:=hi00) Tryz.func148 rfl rfl (by decide +kernel) (by simp) ?_
 unfold ck at h
 obtain ⟨r01,g1,h⟩:=ae h
 simp(config:=cS)only[go_sem]
 refine ah (mz (by exact fun _ _ hr=>sg hr) (by refine ⟨fun _=>?_,fun _=>?_⟩ <;> simp only [go_sem]) (fun _=>rfl) rfl g1) ?_
 cases h
 simp(config:=cS)only[go_sem]
def ij (a:List Int)(b c d:Int):St:=⟨[(0,.sl (ab eI a)),(1,.lit (.int .i64 b)),(7,.lit (.int .i64 c)),(8,.lit (.int .i64 d))],[],2⟩
attribute [go_sem] ij
attribute [go_sem] Tryz.ntmps169 Tryz.results169
theorem kY {v0:List Int}{v1 res:Int}(h:cU v0 v1=some res):ar Tryz.prog 169 [.sl (ab eI v0),.lit (.int .i64 v1)] [] (.lit (.int .i64 res)) []:=by
 refine am (ra:=[]) (md:=mdT) hT (hi:=hi00) Tryz.func169 rfl rfl (by decide +kernel) (by simp) ?_
 unfold cU at h
 obtain ⟨q02,l1,h⟩:=ae h
 simp(config:=cS)only[go_sem]
 refine ay (m1:=.mk) (m2:=.mk) [.nf [0,1,7,8] []] (ij v0 v1 ((v0.length:Nat):Int)) l1 ?_ ?_
 ·simp(config:=cS)only[go_sem]
 ·intro nb2 v8_1 bb2 b2 gb2
  unfold bX at b2
  try dsimp only at b2
  obtain ⟨h3,b2⟩|⟨h3,b2⟩:=af b2
  ·obtain ⟨x01,g4,b2⟩:=ae b2
   obtain ⟨h5,h6,h7⟩:=ao g4
   obtain ⟨h8,b2⟩|⟨h8,b2⟩:=af b2
   ·cases b2
    obtain rfl:=(ak gb2).symm
    try dsimp only at h
    cases h
    simp(config:=cS)only[go_sem,eqT h3,h5,h6,h7,eqT h8]
   ·cases b2
    simp(config:=cS)only[go_sem,eqT h3,h5,h6,h7,eqF h8]
    refine az gb2 ?_
    simp(config:=cS)only[go_sem]
  ·cases b2
   obtain rfl:=(ak gb2).symm
   try dsimp only at h
   cases h
   simp(config:=cS)only[go_sem,eqF h3]
attribute [go_sem] Tryz.ntmps228 Tryz.results228
theorem fY {v0:List Int}{v1:Int}{res:Bool}(h:bC v0 v1=some res):ar Tryz.prog 228 [.sl (ab eI v0),.lit (.int .i64 v1)] [] (.lit (.bool res)) []:=by
 refine am (ra:=[]) (md:=mdT) hT (hi:=hi00) Tryz.func228 rfl rfl (by decide +kernel) (by simp) ?_
 unfold bC at h
 obtain ⟨r01,g1,h⟩:=ae h
 simp(config:=cS)only[go_sem]
 refine ah (kY g1) ?_
 cases h
 simp(config:=cS)only[go_sem]
attribute [go_sem] Tryz.ntmps277 Tryz.results277
theorem nE {v0:Int}{a:List Int}{res:Bool}(h:dH v0 a=some res):ar Tryz.prog 277 [.lit (.int .i64 v0),.loc [.sl (ab eI a)]] [] (.lit (.bool res)) []:=by
 refine am (ra:=[]) (md:=mdT) hT (hi:=hi00) Tryz.func277 rfl rfl (by decide +kernel) (by simp) ?_
 unfold dH at h
 obtain ⟨r01,g1,h⟩:=ae h
 simp(config:=cS)only[go_sem]
 refine ah (fY g1) ?_
 cases h
 simp(config:=cS)only[go_sem]
attribute [go_sem] Tryz.ntmps229 Tryz.results229
theorem pN {a b:List Int}{res:Bool}(h:dt a b=some res):ar Tryz.prog 229 [.sl (ab eI a),.sl (ab eI b)] [] (.lit (.bool res)) []:=by
 refine am (ra:=[]) (md:=mdT) hT (hi:=hi00) Tryz.func229 rfl rfl (by decide +kernel) (by simp) ?_
 unfold dt at h
 obtain ⟨r01,g1,h⟩:=ae h
 simp(config:=cS)only[go_sem]
 refine ah (iu g1) ?_
 obtain ⟨h2,h⟩|⟨h2,h⟩:=af h
 ·obtain ⟨r02,g3,h⟩:=ae h
  simp(config:=cS)only[go_sem,eZt h2]
  refine ah (iu g3) ?_
  obtain ⟨h4,h⟩|⟨h4,h⟩:=af h
  ·obtain ⟨r03,g5,h⟩:=ae h
   simp(config:=cS)only[go_sem,eZt h2,eZt h4]
   refine ah (cX (by exact fun _ _ hr=>nE hr) (by refine ⟨fun _=>?_,fun _=>?_⟩ <;> simp only [go_sem]) (fun _=>rfl) rfl g5) ?_
   cases h
   simp(config:=cS)only[go_sem,eZt h2,eZt h4]
  ·cases h
   simp(config:=cS)only[go_sem,eZt h2,eZf h4]
 ·cases h
  simp(config:=cS)only[go_sem,eZf h2]
@[go_sem] def hi146_1:DT:=.i1 0 (.i2 1 (.i0 2 [0] (.i2 3 (.i2 4 .nil))))
def zR:Hint where
 acts:=fun _=>[]
 draws:=fun
  | 1=>⟨hi146_1,[[],[],[1],[0,1,2],[0,1,2,3]],.range 5⟩
  | _=>⟨.nil,[],[]⟩
theorem Ki (i:Nat):zR.acts i=[]:=rfl
theorem Kj (i:Nat):zR.views i=none:=rfl
attribute [go_sem] Ki Kj Tryz.ntmps146 Tryz.results146
@[go_sem] theorem Ok:(zR.draws 1).order=hi146_1:=rfl
theorem tW {s:GShow}{label:List Int}{v2:Int}{res:Bool}(h:fa s label v2=some res):ar Tryz.prog 146 [.agg (GShow.encS s),.sl (ab eI label),.lit (.int .i64 v2)] [] (.lit (.bool res)) []:=by
 refine am (ra:=[]) (md:=mdT) hT (hi:=zR) Tryz.func146 rfl rfl (by decide +kernel) (by simp) ?_
 unfold fa at h
 obtain ⟨r01,g1,h⟩:=ae h
 simp(config:=cS)only[go_sem]
 refine ah (gB g1) ?_
 obtain ⟨r02,g2,h⟩:=ae h
 simp(config:=cS)only[go_sem]
 refine ah (iv g2) ?_
 obtain ⟨h3,h⟩|⟨h3,h⟩:=af h
 ·cases h
  simp(config:=cS)only[go_sem,eqT h3]
 ·obtain ⟨x03,g4,h⟩:=ae h
  obtain ⟨h5,h6,h7⟩:=ao g4
  obtain ⟨r04,g8,h⟩:=ae h
  simp(config:=cS)only[go_sem,eqF h3,h5,h6,h7]
  refine ah (fY g8) ?_
  obtain ⟨h9,h⟩|⟨h9,h⟩:=af h
  ·cases h
   simp(config:=cS)only[go_sem,eqF h3,h5,h6,h7,eZt h9]
  ·obtain ⟨r05,g10,h⟩:=ae h
   simp(config:=cS)only[go_sem,eqF h3,h5,h6,h7,eZf h9]
   refine ah (fY g10) ?_
   obtain ⟨h11,h⟩|⟨h11,h⟩:=af h
   ·cases h
    simp(config:=cS)only[go_sem,eqF h3,h5,h6,h7,eZf h9,eZt h11]
   ·obtain ⟨r06,g12,h⟩:=ae h
    simp(config:=cS)only[go_sem,eqF h3,h5,h6,h7,eZf h9,eZf h11]
    refine ah (pN g12) ?_
    cases h
    simp(config:=cS)only[go_sem,eqF h3,h5,h6,h7,eZf h9,eZf h11]
attribute [go_sem] Tryz.ntmps145 Tryz.results145
theorem tX {v0:Int}{s:GShow}{n:GNode}{res:Bool}(h:fb v0 s n=some res):ar Tryz.prog 145 [.lit (.int .i64 v0),.loc [.sl (ab GNode.encS s.nodes),.sl (ab GTie.enc s.ties),.lit (.int .i64 s.horizon)],.loc [.lit (.string n.name),.sl (ab eI n.label),.lit (.int .i64 n.watch)]] [] (.lit (.bool res)) []:=by
 refine am (ra:=[]) (md:=mdT) hT (hi:=hi00) Tryz.func145 rfl rfl (by decide +kernel) (by simp) ?_
 unfold fb at h
 obtain ⟨r01,g1,h⟩:=ae h
 simp(config:=cS)only[go_sem]
 refine ah (tW g1) ?_
 cases h
 simp(config:=cS)only[go_sem]
def kr (a:List GNode)(b:Int)(c:List GTie)(d e:Int):St:=⟨[(1,.ptr 64 1 0 0),(24,.sl (ab GNode.encS a)),(25,.lit (.int .i64 b)),(26,.lit (.int .i64 e))],[(64,1,.var [.sl (ab GNode.encS a),.sl (ab GTie.enc c),.lit (.int .i64 d)])],2⟩
attribute [go_sem] kr
attribute [go_sem] Tryz.ntmps70 Tryz.results70
theorem yO {s:GShow}{res:Bool}(h:gP s=some res):ar Tryz.prog 70 [.agg (GShow.encS s)] [] (.lit (.bool res)) []:=by
 refine am (ra:=[]) (md:=mdT) hT (hi:=hi00) Tryz.func70 rfl rfl (by decide +kernel) (by simp) ?_
 unfold gP at h
 obtain ⟨r01,g1,h⟩:=ae h
 simp(config:=cS)only[go_sem]
 refine ah (vV g1) ?_
 obtain ⟨h2,h⟩|⟨h2,h⟩:=af h
 ·obtain ⟨r02,g3,h⟩:=ae h
  simp(config:=cS)only[go_sem,eZt h2]
  refine ah (xo g3) ?_
  obtain ⟨h4,h⟩|⟨h4,h⟩:=af h
  ·obtain ⟨h5,h⟩|⟨h5,h⟩:=af h
   ·cases h
    simp(config:=cS)only[go_sem,eZt h2,eZt h4,eqT h5]
   ·obtain ⟨h6,h⟩|⟨h6,h⟩:=af h
    ·cases h
     simp(config:=cS)only[go_sem,eZt h2,eZt h4,eqF h5,eqT h6]
    ·obtain ⟨q05,l7,h⟩:=ae h
     simp(config:=cS)only[go_sem,eZt h2,eZt h4,eqF h5,eqF h6]
     refine ay (m1:=.mk) (m2:=.mk) [.nf [1,24,25,26] [64]] (kr s.nodes ((s.nodes.length:Nat):Int) s.ties s.horizon) l7 ?_ ?_
     ·simp(config:=cS)only[go_sem,eZt h2,eZt h4,eqF h5,eqF h6]
     ·intro nb8 v26_1 bb8 b8 gb8
      unfold dE at b8
      try dsimp only at b8
      obtain ⟨h9,b8⟩|⟨h9,b8⟩:=af b8
      ·obtain ⟨x03,g10,b8⟩:=ae b8
       obtain ⟨h11,h12,h13⟩:=ao g10
       obtain ⟨r04,g14,b8⟩:=ae b8
       simp(config:=cS)only[go_sem,eZt h2,eZt h4,eqF h5,eqF h6,eqT h9,h11,h12,h13]
       refine ah (cX (by exact fun _ _ hr=>tX hr) (by refine ⟨fun _=>?_,fun _=>?_⟩ <;> simp only [go_sem]) (fun _=>rfl) rfl g14) ?_
       obtain ⟨h15,b8⟩|⟨h15,b8⟩:=af b8
       ·cases b8
        obtain rfl:=(ak gb8).symm
        try dsimp only at h
        cases h
        simp(config:=cS)only[go_sem,eZt h2,eZt h4,eqF h5,eqF h6,eqT h9,h11,h12,h13,eZt h15]
       ·cases b8
        simp(config:=cS)only[go_sem,eZt h2,eZt h4,eqF h5,eqF h6,eqT h9,h11,h12,h13,eZf h15]
        refine az gb8 ?_
        simp(config:=cS)only[go_sem,eZt h2,eZt h4,eqF h5,eqF h6,eqT h9,h11,h12,h13,eZf h15]
      ·cases b8
       obtain rfl:=(ak gb8).symm
       try dsimp only at h
       cases h
       simp(config:=cS)only[go_sem,eZt h2,eZt h4,eqF h5,eqF h6,eqF h9]
  ·cases h
   simp(config:=cS)only[go_sem,eZt h2,eZf h4]
 ·cases h
  simp(config:=cS)only[go_sem,eZf h2]
def js (b:List GTie)(c:Int):(Int × (List Int))→St
 | (d,a)=>⟨[(3,.ref 255 1 0 a.length),(7,.sl (ab GTie.enc b)),(8,.lit (.int .i64 c)),(9,.lit (.int .i64 d))],[(255,1,.row true (ab eI a))],2⟩
attribute [go_sem] js
attribute [go_sem] Tryz.ntmps147 Tryz.results147
theorem mQ {s:GShow}{res:List Int}(h:dX s=some res):ar Tryz.prog 147 [.agg (GShow.encS s)] [] (.ref 20000 1 0 res.length) [(20000,1,.row true (ab eI res))]:=by
 refine am (ra:=[.home 2]) (md:=mdT) hT (hi:=hi00) Tryz.func147 rfl rfl (by decide +kernel) (by simp) ?_
 unfold dX at h
 obtain ⟨q02,l1,h⟩:=ae h
 simp(config:=cS)only[go_sem]
 refine ay (m1:=.mk) (m2:=.mk) [.home 3,.nf [3,7,8,9] [255]] (js s.ties ((s.ties.length:Nat):Int)) l1 ?_ ?_
 ·simp(config:=cS)only[go_sem]
 ·intro nb2 sb2 bb2 b2 gb2
  obtain ⟨v9_1,out_1⟩:=sb2
  unfold dQ at b2
  try dsimp only at b2
  obtain ⟨h3,b2⟩|⟨h3,b2⟩:=af b2
  ·obtain ⟨x01,g4,b2⟩:=ae b2
   obtain ⟨h5,h6,h7⟩:=ao g4
   obtain ⟨h8,b2⟩|⟨h8,b2⟩:=af b2
   ·obtain ⟨h9,b2⟩:=aM b2
    obtain ⟨h10,b2⟩:=aM b2
    cases b2
    simp(config:=cS)only[go_sem,eqT h3,h5,h6,h7,eZt h8,eqT h9,eqT h10]
    refine az gb2 ?_
    simp(config:=cS)only[go_sem]
   ·cases b2
    simp(config:=cS)only[go_sem,eqT h3,h5,h6,h7,eZf h8]
    refine az gb2 ?_
    simp(config:=cS)only[go_sem]
  ·cases b2
   obtain rfl:=(ak gb2).symm
   try dsimp only at h
   cases h
   simp(config:=cS)only[go_sem,eqF h3]
def lL (b:Int)(c:List GNode)(d:List GTie)(e:Int)(a:List Int):(Int × Int)→St
 | (n,f)=>⟨[(1,.ptr 64 1 0 0),(3,.lit (.int .i64 n)),(11,.ref 704 1 0 a.length),(12,.lit (.int .i64 b)),(13,.lit (.int .i64 f))],[(64,1,.var [.sl (ab GNode.encS c),.sl (ab GTie.enc d),.lit (.int .i64 e)]),(704,1,.row true (ab eI a))],2⟩
attribute [go_sem] lL
def lM (a:List GNode)(b:List GTie)(c:Int):(Int × Int)→St
 | (n,p)=>⟨[(1,.ptr 64 1 0 0),(3,.lit (.int .i64 n)),(6,.lit (.int .i64 p))],[(64,1,.var [.sl (ab GNode.encS a),.sl (ab GTie.enc b),.lit (.int .i64 c)])],2⟩
attribute [go_sem] lM
@[go_sem] def hi71_7:DT:=.i2 0 (.i2 1 (.i2 2 (.i2 3 (.i2 4 (.i2 5 (.i2 6 (.i2 7 (.i2 8 (.i2 9 (.i2 10 (.i2 11 (.i2 12 (.i2 13 (.i2 14 (.i2 15 (.i2 16 .nil))))))))))))))))
def hi71:Hint where
 acts:=fun _=>[]
 draws:=fun
  | 7=>⟨hi71_7,[[],[],[1],[],[1,2,3],[1,2,3,4],[1,2,3,4,5],[],[7],[],[7,8,9],[7,8,9,10],[7,8,9,10,11],[1,2,3,4,5,6,7,8,9,10,11,12],[1,2,3,4,5,6,7,8,9,10,11,12,13],.range 15,.range 16],.range 17⟩
  | _=>⟨.nil,[],[]⟩
theorem LW (i:Nat):hi71.acts i=[]:=rfl
theorem LX (i:Nat):hi71.views i=none:=rfl
attribute [go_sem] LW LX Tryz.ntmps71 Tryz.results71
@[go_sem] theorem OZ:(hi71.draws 7).order=hi71_7:=rfl
def oc (c:Int)(d:List GNode)(e:List GTie)(f:Int)(b:List Int):(Int × Int × (List Int))→St
 | (n,g,a)=>⟨[(1,.lit (.int .i64 n)),(2,.ptr 128 1 0 0),(4,.ptr 256 1 0 0),(5,.ptr 320 1 0 0),(12,.ref 768 1 0 b.length),(13,.lit (.int .i64 c)),(14,.lit (.int .i64 g))],[(128,1,.var [.sl (ab GNode.encS d),.sl (ab GTie.enc e),.lit (.int .i64 f)]),(256,1,.var [.lit (.slice none 0 0),.lit (.slice none 0 0)]),(320,1,.var [.ref 100020480 1 0 a.length,.lit (.slice none 0 0)]),(100020480,1,.row true (ab eI a)),(768,1,.row true (ab eI b))],2⟩
attribute [go_sem] oc
def oe (c:List GNode)(d:List GTie)(e:Int)(a:List Int):(Int × Int × (List Int))→St
 | (n,p,b)=>⟨[(1,.lit (.int .i64 n)),(2,.ptr 128 1 0 0),(4,.ptr 256 1 0 0),(5,.ptr 320 1 0 0),(9,.lit (.int .i64 p))],[(128,1,.var [.sl (ab GNode.encS c),.sl (ab GTie.enc d),.lit (.int .i64 e)]),(256,1,.var [.lit (.slice none 0 0),.lit (.slice none 0 0)]),(320,1,.var [.ref 100020480 1 0 a.length,.ref 100020481 1 0 b.length]),(100020480,1,.row true (ab eI a)),(100020481,1,.row true (ab eI b))],2⟩
attribute [go_sem] oe
@[go_sem] def hi72_6:DT:=.i1 0 (.i1 1 (.i2 2 (.i2 3 (.i2 4 (.i2 5 (.i2 6 (.i2 7 (.i2 8 (.i2 9 (.i2 10 (.i2 11 (.i0 12 [0,1] (.i2 13 (.i2 14 (.i2 15 .nil)))))))))))))))
@[go_sem] def hi72_5:DT:=.i2 0 (.i2 1 (.i2 2 (.i2 3 (.i2 4 (.i2 5 (.i2 6 (.i2 7 (.i2 8 (.i2 9 (.i2 10 (.i2 11 (.i2 12 (.i2 13 (.i2 14 .nil))))))))))))))
def hi72:Hint where
 acts:=fun _=>[]
 draws:=fun
  | 5=>⟨hi72_5,[[],[0],[],[0,1,2],[0,1,2,3],.range 5,[],[6],[],[6,7,8],[6,7,8,9],[6,7,8,9,10],.range 12,.range 13,.range 14],.range 15⟩
  | 6=>⟨hi72_6,[[],[0],[],[2],[],[2,3,4],[2,3,4,5],[2,3,4,5,6],[],[],[8,9],[2,3,4,5,6,7,8,9,10],[2,3,4,5,6,7,8,9,10,11],.range 13,.range 14,.range 15],.range 16⟩
  | _=>⟨.nil,[],[]⟩
theorem LY (i:Nat):hi72.acts i=[]:=rfl
theorem LZ (i:Nat):hi72.views i=none:=rfl
attribute [go_sem] LY LZ Tryz.ntmps72 Tryz.results72
@[go_sem] theorem Pa:(hi72.draws 5).order=hi72_5:=rfl
@[go_sem] theorem Pb:(hi72.draws 6).order=hi72_6:=rfl
attribute [go_sem] Tryz.ntmps158 Tryz.results158
attribute [go_sem] Tryz.ntmps60 Tryz.results60
theorem qF {v0 res:List Int}(h:dR v0=some res):ar Tryz.prog 60 [.sl (ab eI v0)] [] (.ref 20000 1 0 res.length) [(20000,1,.row true (ab eI res))]:=by
 refine am (ra:=[.home 2]) (md:=mdT) hT (hi:=hi00) Tryz.func60 rfl rfl (by decide +kernel) (by simp) ?_
 unfold dR at h
 obtain ⟨h1,h3,h2⟩|⟨h1,h3⟩:=Em h
 ·cases h3
  simp(config:=cS)only[go_sem,h1]
 ·obtain ⟨h4,h3⟩:=aM h3
  obtain ⟨h5,h3⟩:=aM h3
  cases h3
  simp(config:=cS)only[go_sem,CI h1,eqT h4,eqT h5]
def og (d:List GNode)(e c:Int)(b:List GTie):(Int × (List GNode))→St
 | (f,a)=>⟨[(2,.ptr 128 1 0 0),(3,.ptr 192 1 0 0),(13,.sl (ab GNode.encS d)),(14,.lit (.int .i64 e)),(15,.lit (.int .i64 f))],[(128,1,.var [.lit (.slice none 0 0),.lit (.slice none 0 0),.lit (.int .i64 0)]),(192,1,.var [.ref 100012288 1 0 a.length,.ref 512 1 0 b.length,.lit (.int .i64 c)]),(100012288,1,.row true (ab GNode.encO a)),(512,1,.row true (ab GTie.enc b))],2⟩
attribute [go_sem] og
@[go_sem] def hi81_1:DT:=.i1 0 (.i1 1 (.i1 3 (.i1 4 (.fork (.i0 2 [3,4] (.i2 5 (.i0 6 [0,1,3,4] (.i2 7 .nil)))) (.i0 6 [0,1,3,4] (.i0 2 [3,4] (.i2 5 (.i2 7 .nil))))))))
def hi81:Hint where
 acts:=fun _=>[]
 draws:=fun
  | 1=>⟨hi81_1,[[],[0],[0,1],[],[3],.range 5,[],.range 7],.range 8⟩
  | _=>⟨.nil,[],[]⟩
theorem Ma (i:Nat):hi81.acts i=[]:=rfl
theorem Mb (i:Nat):hi81.views i=none:=rfl
attribute [go_sem] Ma Mb Tryz.ntmps81 Tryz.results81
@[go_sem] theorem Pc:(hi81.draws 1).order=hi81_1:=rfl
attribute [go_sem] Tryz.ntmps263 Tryz.results263
attribute [go_sem] Tryz.ntmps192 Tryz.results192
end Go.Proofs.Qa
