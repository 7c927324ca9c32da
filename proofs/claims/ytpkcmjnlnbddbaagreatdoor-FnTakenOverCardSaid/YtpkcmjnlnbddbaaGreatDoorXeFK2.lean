/- Functions. -/
import Derived.Test.YtpkcmjnlnbddbaaGreatDoorXeFK1
set_option linter.all false
set_option maxRecDepth 100000
set_option maxHeartbeats 4000000
namespace Go.Proofs.Qe
open Go Tryz
def vI (d:List GNode)(g:Int)(h:List GTie)(i:Int)(e f:List Int):(Int × Int × (List aG) × (List ByteArray))→St
 | (j,c,a,b)=>⟨[(2,.ptr 128 1 0 0),(3,.ptr 192 1 0 0),(4,.ptr 256 1 0 0),(6,.ptr 384 1 0 0),(7,.ptr 448 1 0 0),(8,.fn 203 [.ptr 384 1 0 0,.ptr 448 1 0 0]),(28,.sl (ab GNode.encS d)),(29,.lit (.int .i64 g)),(30,.lit (.int .i64 j))],[(128,1,.var [.sl (ab GNode.encS d),.sl (ab GTie.enc h),.lit (.int .i64 i)]),(192,1,.var [.sl (ab eI e),.sl (ab eI f)]),(256,1,.var [.lit (.int .i64 0),.lit (.slice none 0 0)]),(384,1,.var [.lit (.int .i64 c),.ref 100024577 1 0 a.length]),(100024577,1,.row true (ab aG.enc a)),(448,1,.var [.ref 100028672 1 0 b.length]),(100028672,1,.row true (ab eS b))],2⟩
attribute[go_sem] vI
def vJ (e:List GTie)(h:Int)(i:List GNode)(j:Int)(f g c:List Int):(Int × Int × (List aG) × (List ByteArray))→St
 | (k,d,a,b)=>⟨[(2,.ptr 128 1 0 0),(3,.ptr 192 1 0 0),(4,.ptr 256 1 0 0),(6,.ptr 384 1 0 0),(7,.ptr 448 1 0 0),(8,.fn 203 [.ptr 384 1 0 0,.ptr 448 1 0 0]),(11,.ref 3136 1 0 c.length),(51,.sl (ab GTie.enc e)),(52,.lit (.int .i64 h)),(53,.lit (.int .i64 k))],[(128,1,.var [.sl (ab GNode.encS i),.sl (ab GTie.enc e),.lit (.int .i64 j)]),(192,1,.var [.sl (ab eI f),.sl (ab eI g)]),(256,1,.var [.lit (.int .i64 0),.lit (.slice none 0 0)]),(384,1,.var [.lit (.int .i64 d),.ref 100024577 1 0 a.length]),(100024577,1,.row true (ab aG.enc a)),(448,1,.var [.ref 100028672 1 0 b.length]),(100028672,1,.row true (ab eS b)),(3136,1,.row true (ab eI c))],2⟩
attribute[go_sem] vJ
def vK (d:Int)(h:List GNode)(i:List GTie)(j:Int)(e f:List Int):(Int × Int × (List aG) × (List ByteArray))→St
 | (g,c,a,b)=>⟨[(2,.ptr 128 1 0 0),(3,.ptr 192 1 0 0),(4,.ptr 256 1 0 0),(6,.ptr 384 1 0 0),(7,.ptr 448 1 0 0),(8,.fn 203 [.ptr 384 1 0 0,.ptr 448 1 0 0]),(100,.lit (.int .i64 d)),(101,.lit (.int .i64 g))],[(128,1,.var [.sl (ab GNode.encS h),.sl (ab GTie.enc i),.lit (.int .i64 j)]),(192,1,.var [.sl (ab eI e),.sl (ab eI f)]),(256,1,.var [.lit (.int .i64 0),.lit (.slice none 0 0)]),(384,1,.var [.lit (.int .i64 c),.ref 100024577 1 0 a.length]),(100024577,1,.row true (ab aG.enc a)),(448,1,.var [.ref 100028672 1 0 b.length]),(100028672,1,.row true (ab eS b))],2⟩
attribute[go_sem] vK
def vL (i:Int)(c:List GNode)(f:Int)(d:List Int)(g:Int)(l:List GTie)(m:Int)(h j:List Int)(n:ByteArray)(o:Int):(Int × Int × (List aG) × (List ByteArray))→St
 | (k,e,a,b)=>⟨[(2,.ptr 128 1 0 0),(3,.ptr 192 1 0 0),(4,.ptr 256 1 0 0),(6,.ptr 384 1 0 0),(7,.ptr 448 1 0 0),(8,.fn 203 [.ptr 384 1 0 0,.ptr 448 1 0 0]),(17,.lit (.int .i64 i)),(18,.ptr 1152 1 0 0),(114,.sl (ab GNode.encS c)),(115,.lit (.int .i64 f)),(116,.lit (.int .i64 i)),(122,.sl (ab eI d)),(123,.lit (.int .i64 g)),(124,.lit (.int .i64 k))],[(128,1,.var [.sl (ab GNode.encS c),.sl (ab GTie.enc l),.lit (.int .i64 m)]),(192,1,.var [.sl (ab eI h),.sl (ab eI j)]),(256,1,.var [.lit (.int .i64 0),.lit (.slice none 0 0)]),(384,1,.var [.lit (.int .i64 e),.ref 100024577 1 0 a.length]),(100024577,1,.row true (ab aG.enc a)),(448,1,.var [.ref 100028672 1 0 b.length]),(100028672,1,.row true (ab eS b)),(1152,1,.var [.lit (.string n),.sl (ab eI d),.lit (.int .i64 o)])],2⟩
attribute[go_sem] vL
def vM (c:List GNode)(e:Int)(i:List GTie)(j:Int)(f g:List Int):(Int × Int × (List aG) × (List ByteArray))→St
 | (h,d,a,b)=>⟨[(2,.ptr 128 1 0 0),(3,.ptr 192 1 0 0),(4,.ptr 256 1 0 0),(6,.ptr 384 1 0 0),(7,.ptr 448 1 0 0),(8,.fn 203 [.ptr 384 1 0 0,.ptr 448 1 0 0]),(114,.sl (ab GNode.encS c)),(115,.lit (.int .i64 e)),(116,.lit (.int .i64 h))],[(128,1,.var [.sl (ab GNode.encS c),.sl (ab GTie.enc i),.lit (.int .i64 j)]),(192,1,.var [.sl (ab eI f),.sl (ab eI g)]),(256,1,.var [.lit (.int .i64 0),.lit (.slice none 0 0)]),(384,1,.var [.lit (.int .i64 d),.ref 100024577 1 0 a.length]),(100024577,1,.row true (ab aG.enc a)),(448,1,.var [.ref 100028672 1 0 b.length]),(100028672,1,.row true (ab eS b))],2⟩
attribute[go_sem] vM
@[go_sem] def hi130_38:DT:=.i2 0 (.i1 1 (.i0 2 [1] (.i2 3 .nil)))
@[go_sem] def hi130_35:DT:=.r2 0 15 .nil
@[go_sem] def hi130_34:DT:=.i1 0 (.i2 1 (.i0 2 [0] (.i2 3 (.i2 4 .nil))))
@[go_sem] def hi130_19:DT:=.i2 0 (.i1 1 (.i1 2 (.i1 3 (.i1 4 (.r2 5 4 (.i0 9 [1,2,3,4] (.i2 10 .nil)))))))
@[go_sem] def hi130_17:DT:=.i1 0 (.i1 1 (.i2 2 (.i2 3 (.i0 4 [0,1] (.r2 5 3 .nil)))))
@[go_sem] def hi130_15:DT:=.r2 0 6 .nil
def bq:Hint where
 acts:=fun i=>match i with|8=>[.homeCell 384 1,.homeCell 448 0]|_=>[]
 draws:=fun
  | 15=>⟨hi130_15,[[],[0],[],[2],[0,1],.range 5],[0,1,3,4,2,5]⟩
  | 17=>⟨hi130_17,[[],[0],[],[],[2,3],.range 5,.range 6,.range 7],.range 8⟩
  | 19=>⟨hi130_19,[[],[],[1],[],[3],[],[],[],[],[7,8],.range 10],.range 11⟩
  | 34=>⟨hi130_34,[[],[],[1],[0,1,2],[0,1,2,3]],.range 5⟩
  | 35=>⟨hi130_35,[[],[],[],[],[3],[],[3,4,5],[3,4,5,6],[3,4,5,6,7],[3,4,5,6,7,8],[3,4,5,6,7,8,9],[],[11],[3,4,5,6,7,8,9,10,11,12],.range 14],.range 15⟩
  | 38=>⟨hi130_38,[[],[],[0],[0,1,2]],[0,2,1,3]⟩
  | _=>⟨.nil,[],[]⟩
@[go_sem] theorem YR:bq.acts 0=[]:=rfl
@[go_sem] theorem YS:bq.acts 1=[]:=rfl
@[go_sem] theorem YT:bq.acts 2=[]:=rfl
@[go_sem] theorem YU:bq.acts 3=[]:=rfl
@[go_sem] theorem YV:bq.acts 4=[]:=rfl
@[go_sem] theorem YW:bq.acts 5=[]:=rfl
@[go_sem] theorem YX:bq.acts 6=[]:=rfl
@[go_sem] theorem YY:bq.acts 7=[]:=rfl
@[go_sem] theorem YZ:bq.acts 8=[.homeCell 384 1,.homeCell 448 0]:=rfl
@[go_sem] theorem Za:bq.acts 9=[]:=rfl
@[go_sem] theorem Xo:bq.acts 10=[]:=rfl
@[go_sem] theorem Xp:bq.acts 11=[]:=rfl
@[go_sem] theorem Xq:bq.acts 12=[]:=rfl
@[go_sem] theorem Xr:bq.acts 13=[]:=rfl
@[go_sem] theorem Xs:bq.acts 14=[]:=rfl
@[go_sem] theorem Xt:bq.acts 15=[]:=rfl
@[go_sem] theorem Xu:bq.acts 16=[]:=rfl
@[go_sem] theorem Xv:bq.acts 17=[]:=rfl
@[go_sem] theorem Xw:bq.acts 18=[]:=rfl
@[go_sem] theorem Xx:bq.acts 19=[]:=rfl
@[go_sem] theorem Xy:bq.acts 20=[]:=rfl
@[go_sem] theorem Xz:bq.acts 21=[]:=rfl
@[go_sem] theorem XA:bq.acts 22=[]:=rfl
@[go_sem] theorem XB:bq.acts 23=[]:=rfl
@[go_sem] theorem XC:bq.acts 24=[]:=rfl
@[go_sem] theorem XD:bq.acts 25=[]:=rfl
@[go_sem] theorem XE:bq.acts 26=[]:=rfl
@[go_sem] theorem XF:bq.acts 27=[]:=rfl
@[go_sem] theorem XG:bq.acts 28=[]:=rfl
@[go_sem] theorem XH:bq.acts 29=[]:=rfl
@[go_sem] theorem XI:bq.acts 30=[]:=rfl
@[go_sem] theorem XJ:bq.acts 31=[]:=rfl
@[go_sem] theorem XK:bq.acts 32=[]:=rfl
@[go_sem] theorem XL:bq.acts 33=[]:=rfl
@[go_sem] theorem XM:bq.acts 34=[]:=rfl
@[go_sem] theorem XN:bq.acts 35=[]:=rfl
@[go_sem] theorem XO:bq.acts 36=[]:=rfl
@[go_sem] theorem XP:bq.acts 37=[]:=rfl
@[go_sem] theorem XQ:bq.acts 38=[]:=rfl
theorem UL (i:Nat):bq.views i=none:=rfl
attribute[go_sem] UL ntmps130 results130
@[go_sem] theorem XR:(bq.draws 15).order=hi130_15:=rfl
@[go_sem] theorem XS:(bq.draws 17).order=hi130_17:=rfl
@[go_sem] theorem XT:(bq.draws 19).order=hi130_19:=rfl
@[go_sem] theorem XU:(bq.draws 34).order=hi130_34:=rfl
@[go_sem] theorem XV:(bq.draws 35).order=hi130_35:=rfl
@[go_sem] theorem XW:(bq.draws 38).order=hi130_38:=rfl
def qY (c:List aG)(a:Nat)(b:List AV)(d e:Int):St:=⟨[(0,.sl (ab aG.enc c)),(1,.fn a b),(7,.lit (.int .i64 d)),(8,.lit (.int .i64 e))],[],2⟩
attribute[go_sem] qY
attribute[go_sem] ntmps209 results209 ntmps205 results205 ntmps207 results207 ntmps206 results206 ntmps131 results131 ntmps62 results62 ntmps208 results208 ntmps132 results132 ntmps211 results211 ntmps133 results133 ntmps63 results63 ntmps15 results15 ntmps20 results20 ntmps134 results134 ntmps135 results135 ntmps16 results16 ntmps236 results236 ntmps153 results153
@[go_sem] def hi210_1:DT:=.r2 0 16 .nil
def LY:Hint where
 acts:=fun _=>[]
 draws:=fun
  | 1=>⟨hi210_1,[[],[0],[],[],[3],[2,3,4],[2,3,4,5],[],[],[8],[7,8,9],[7,8,9,10],[2,3,4,5,6,7,8,9,10,11],.range 13,.range 14,.range 15],.range 16⟩
  | _=>⟨.nil,[],[]⟩
theorem UM (i:Nat):LY.acts i=[]:=rfl
theorem UN (i:Nat):LY.views i=none:=rfl
attribute[go_sem] UM UN ntmps210 results210
@[go_sem] theorem Zb:(LY.draws 1).order=hi210_1:=rfl
def va (d:List Int)(e:Int)(f:List GNode)(g:List GTie)(h:Int)(b c:List Int):(Int × (List Int))→St
 | (i,a)=>⟨[(3,.ptr 192 1 0 0),(4,.ptr 256 1 0 0),(7,.ref 1600 1 0 a.length),(26,.sl (ab eI d)),(27,.lit (.int .i64 e)),(28,.lit (.int .i64 i))],[(192,1,.var [.sl (ab GNode.encS f),.sl (ab GTie.enc g),.lit (.int .i64 h)]),(256,1,.var [.sl (ab eI b),.sl (ab eI c)]),(1600,1,.row true (ab eI a))],2⟩
attribute[go_sem] va
def sc (a:Bool)(b:Int)(c:List GNode)(d:List GTie)(e n:Int):St:=⟨[(1,.lit (.bool a)),(2,.ptr 128 1 0 0),(5,.lit (.int .i64 n)),(6,.lit (.int .i64 b))],[(128,1,.var [.sl (ab GNode.encS c),.sl (ab GTie.enc d),.lit (.int .i64 e)])],2⟩
attribute[go_sem] sc
def wD (a b:List Int)(i:Int):St:=⟨[(0,.sl (ab eI a)),(1,.sl (ab eI b)),(5,.lit (.int .i64 i))],[],2⟩
attribute[go_sem] wD
@[go_sem] def hi18_6:DT:=.r2 0 9 .nil
def hi18:Hint where
 acts:=fun _=>[]
 draws:=fun
  | 6=>⟨hi18_6,[[],[],[0,1],[0,1,2],[],[],[4,5],[4,5,6],.range 8],.range 9⟩
  | _=>⟨.nil,[],[]⟩
theorem Wy (i:Nat):hi18.acts i=[]:=rfl
theorem Wz (i:Nat):hi18.views i=none:=rfl
attribute[go_sem] Wy Wz ntmps18 results18
@[go_sem] theorem ZT:(hi18.draws 6).order=hi18_6:=rfl
def vN (a b:List GNode)(i:Int):St:=⟨[(0,.sl (ab GNode.encS a)),(1,.sl (ab GNode.encS b)),(5,.lit (.int .i64 i))],[],2⟩
attribute[go_sem] vN
@[go_sem] def hi64_6:DT:=.r2 0 10 .nil
def hi64:Hint where
 acts:=fun _=>[]
 draws:=fun
  | 6=>⟨hi64_6,[[],[],[0,1],[0,1,2],[],[],[4,5],[4,5,6],.range 8,.range 9],.range 10⟩
  | _=>⟨.nil,[],[]⟩
theorem WA (i:Nat):hi64.acts i=[]:=rfl
theorem WB (i:Nat):hi64.views i=none:=rfl
attribute[go_sem] WA WB ntmps64 results64
@[go_sem] theorem ZU:(hi64.draws 6).order=hi64_6:=rfl
def wE (a b:List GTie)(i:Int):St:=⟨[(0,.sl (ab GTie.enc a)),(1,.sl (ab GTie.enc b)),(5,.lit (.int .i64 i))],[],2⟩
attribute[go_sem] wE
@[go_sem] def hi65_6:DT:=.r2 0 10 .nil
def hi65:Hint where
 acts:=fun _=>[]
 draws:=fun
  | 6=>⟨hi65_6,[[],[],[0,1],[0,1,2],[],[],[4,5],[4,5,6],.range 8,.range 9],.range 10⟩
  | _=>⟨.nil,[],[]⟩
theorem WC (i:Nat):hi65.acts i=[]:=rfl
theorem WD (i:Nat):hi65.views i=none:=rfl
attribute[go_sem] WC WD ntmps65 results65
@[go_sem] theorem ZV:(hi65.draws 6).order=hi65_6:=rfl
@[go_sem] def hi4_10:DT:=.i1 0 (.i2 1 (.i0 2 [0] (.i2 3 (.i2 4 .nil))))
def hi4:Hint where
 acts:=fun _=>[]
 draws:=fun
  | 10=>⟨hi4_10,[[],[],[1],[0,1,2],[0,1,2,3]],.range 5⟩
  | _=>⟨.nil,[],[]⟩
theorem hi4a (i:Nat):hi4.acts i=[]:=rfl
theorem hi4v (i:Nat):hi4.views i=none:=rfl
attribute[go_sem] hi4a hi4v ntmps4 results4
@[go_sem] theorem ZW:(hi4.draws 10).order=hi4_10:=rfl
instance k236 {parts:List ByteArray} {by_:ByteArray}:Ctr (mX parts by_) (fun (res:ByteArray)=>aj prog 236 [.sl (ab eS parts),.lit (.string by_)] [] (.lit (.string res)) []):=⟨by
 intro res h0
 refine co (hi:=hi00) func236 rfl rfl ?_
 unfold mX at h0
 exact run⟩
def pV (b:List Int)(c:Int):(Int × (List ByteArray))→St
 | (d,a)=>⟨[(3,.ref 255 1 0 a.length),(6,.sl (ab eI b)),(7,.lit (.int .i64 c)),(8,.lit (.int .i64 d))],[(255,1,.row true (ab eS a))],2⟩
attribute[go_sem] pV
instance k153 {list:List Int}:Ctr (fJ list) (fun (res:ByteArray)=>aj prog 153 [.sl (ab eI list)] [] (.lit (.string res)) []):=⟨by
 intro res h0
 refine co (hi:=hi00) func153 rfl rfl ?_
 unfold fJ at h0
 obtain⟨q04,l0,h0⟩:=ae h0
 simp(config:=cS)only[go_sem, *]
 refine ai (m1:=.mk) (m2:=.mk) [.home 3,.nf [3,6,7,8] [255]] (pV list ((list.length:Nat):Int)) l0 ?_ ?_
 ·simp(config:=cS)only[go_sem, *]
 ·have k0:=h0
  clear h0 l0
  intro _ s0 _ h0 gb0
  obtain⟨v8_1,parts_1⟩:=s0
  unfold kU at h0
  try dsimp only at h0
  exact run⟩
@[go_sem] def hi77_1:DT:=.i2 0 (.i2 1 (.i1 3 (.i1 4 (.i1 6 (.i1 7 (.i1 9 (.i1 10 (.i0 2 [3,4,6,7,9,10] (.i0 5 [6,7,9,10] (.i0 8 [9,10] (.r2 11 4 .nil)))))))))))
def hi77:Hint where
 acts:=fun _=>[]
 draws:=fun
  | 1=>⟨hi77_1,[[],[0],[0,1],[],[3],.range 5,[],[6],.range 8,[],[9],.range 11,.range 12,.range 13,.range 14],.range 15⟩
  | _=>⟨.nil,[],[]⟩
theorem WE (i:Nat):hi77.acts i=[]:=rfl
theorem WF (i:Nat):hi77.views i=none:=rfl
attribute[go_sem] WE WF ntmps77 results77
@[go_sem] theorem ZX:(hi77.draws 1).order=hi77_1:=rfl
instance k77 {e:GEntry}:Ctr (ct e) (fun (res:ByteArray)=>aj prog 77 [.agg (GEntry.encS e)] [] (.lit (.string res)) []):=⟨by
 intro res h0
 refine co (hi:=hi77) func77 rfl rfl ?_
 unfold ct at h0
 exact run⟩
theorem xx {e:GEntry}{res:ByteArray}(h0:ct e=some res):aj prog 77 [.agg (GEntry.encS e)] [] (.lit (.string res)) []:=by have q:=ctr h0;exact q
end Go.Proofs.Qe
