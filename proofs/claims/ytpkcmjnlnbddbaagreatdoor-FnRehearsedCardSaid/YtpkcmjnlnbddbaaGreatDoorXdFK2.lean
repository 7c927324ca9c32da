/- Functions. -/
import Derived.Test.YtpkcmjnlnbddbaaGreatDoorXdFK1
set_option linter.all false
set_option maxRecDepth 100000
set_option maxHeartbeats 4000000
namespace Go.Proofs.Qd
open Go
def sZ (d:List GNode)(g:Int)(h:List GTie)(i:Int)(e f:List Int):(Int × Int × (List aI) × (List ByteArray))→St
 | (j,c,a,b)=>⟨[(2,.ptr 128 1 0 0),(3,.ptr 192 1 0 0),(4,.ptr 256 1 0 0),(6,.ptr 384 1 0 0),(7,.ptr 448 1 0 0),(8,.fn 203 [.ptr 384 1 0 0,.ptr 448 1 0 0]),(28,.sl (ab GNode.encS d)),(29,.lit (.int .i64 g)),(30,.lit (.int .i64 j))],[(128,1,.var [.sl (ab GNode.encS d),.sl (ab GTie.enc h),.lit (.int .i64 i)]),(192,1,.var [.sl (ab eI e),.sl (ab eI f)]),(256,1,.var [.lit (.int .i64 0),.lit (.slice none 0 0)]),(384,1,.var [.lit (.int .i64 c),.ref 100024577 1 0 a.length]),(100024577,1,.row true (ab aI.enc a)),(448,1,.var [.ref 100028672 1 0 b.length]),(100028672,1,.row true (ab eS b))],2⟩
attribute [go_sem] sZ
def ta (e:List GTie)(h:Int)(i:List GNode)(j:Int)(f g c:List Int):(Int × Int × (List aI) × (List ByteArray))→St
 | (k,d,a,b)=>⟨[(2,.ptr 128 1 0 0),(3,.ptr 192 1 0 0),(4,.ptr 256 1 0 0),(6,.ptr 384 1 0 0),(7,.ptr 448 1 0 0),(8,.fn 203 [.ptr 384 1 0 0,.ptr 448 1 0 0]),(11,.ref 3136 1 0 c.length),(51,.sl (ab GTie.enc e)),(52,.lit (.int .i64 h)),(53,.lit (.int .i64 k))],[(128,1,.var [.sl (ab GNode.encS i),.sl (ab GTie.enc e),.lit (.int .i64 j)]),(192,1,.var [.sl (ab eI f),.sl (ab eI g)]),(256,1,.var [.lit (.int .i64 0),.lit (.slice none 0 0)]),(384,1,.var [.lit (.int .i64 d),.ref 100024577 1 0 a.length]),(100024577,1,.row true (ab aI.enc a)),(448,1,.var [.ref 100028672 1 0 b.length]),(100028672,1,.row true (ab eS b)),(3136,1,.row true (ab eI c))],2⟩
attribute [go_sem] ta
def tb (d:Int)(h:List GNode)(i:List GTie)(j:Int)(e f:List Int):(Int × Int × (List aI) × (List ByteArray))→St
 | (g,c,a,b)=>⟨[(2,.ptr 128 1 0 0),(3,.ptr 192 1 0 0),(4,.ptr 256 1 0 0),(6,.ptr 384 1 0 0),(7,.ptr 448 1 0 0),(8,.fn 203 [.ptr 384 1 0 0,.ptr 448 1 0 0]),(100,.lit (.int .i64 d)),(101,.lit (.int .i64 g))],[(128,1,.var [.sl (ab GNode.encS h),.sl (ab GTie.enc i),.lit (.int .i64 j)]),(192,1,.var [.sl (ab eI e),.sl (ab eI f)]),(256,1,.var [.lit (.int .i64 0),.lit (.slice none 0 0)]),(384,1,.var [.lit (.int .i64 c),.ref 100024577 1 0 a.length]),(100024577,1,.row true (ab aI.enc a)),(448,1,.var [.ref 100028672 1 0 b.length]),(100028672,1,.row true (ab eS b))],2⟩
attribute [go_sem] tb
def tc (i:Int)(c:List GNode)(f:Int)(d:List Int)(g:Int)(l:List GTie)(m:Int)(h j:List Int)(n:ByteArray)(o:Int):(Int × Int × (List aI) × (List ByteArray))→St
 | (k,e,a,b)=>⟨[(2,.ptr 128 1 0 0),(3,.ptr 192 1 0 0),(4,.ptr 256 1 0 0),(6,.ptr 384 1 0 0),(7,.ptr 448 1 0 0),(8,.fn 203 [.ptr 384 1 0 0,.ptr 448 1 0 0]),(17,.lit (.int .i64 i)),(18,.ptr 1152 1 0 0),(114,.sl (ab GNode.encS c)),(115,.lit (.int .i64 f)),(116,.lit (.int .i64 i)),(122,.sl (ab eI d)),(123,.lit (.int .i64 g)),(124,.lit (.int .i64 k))],[(128,1,.var [.sl (ab GNode.encS c),.sl (ab GTie.enc l),.lit (.int .i64 m)]),(192,1,.var [.sl (ab eI h),.sl (ab eI j)]),(256,1,.var [.lit (.int .i64 0),.lit (.slice none 0 0)]),(384,1,.var [.lit (.int .i64 e),.ref 100024577 1 0 a.length]),(100024577,1,.row true (ab aI.enc a)),(448,1,.var [.ref 100028672 1 0 b.length]),(100028672,1,.row true (ab eS b)),(1152,1,.var [.lit (.string n),.sl (ab eI d),.lit (.int .i64 o)])],2⟩
attribute [go_sem] tc
def td (c:List GNode)(e:Int)(i:List GTie)(j:Int)(f g:List Int):(Int × Int × (List aI) × (List ByteArray))→St
 | (h,d,a,b)=>⟨[(2,.ptr 128 1 0 0),(3,.ptr 192 1 0 0),(4,.ptr 256 1 0 0),(6,.ptr 384 1 0 0),(7,.ptr 448 1 0 0),(8,.fn 203 [.ptr 384 1 0 0,.ptr 448 1 0 0]),(114,.sl (ab GNode.encS c)),(115,.lit (.int .i64 e)),(116,.lit (.int .i64 h))],[(128,1,.var [.sl (ab GNode.encS c),.sl (ab GTie.enc i),.lit (.int .i64 j)]),(192,1,.var [.sl (ab eI f),.sl (ab eI g)]),(256,1,.var [.lit (.int .i64 0),.lit (.slice none 0 0)]),(384,1,.var [.lit (.int .i64 d),.ref 100024577 1 0 a.length]),(100024577,1,.row true (ab aI.enc a)),(448,1,.var [.ref 100028672 1 0 b.length]),(100028672,1,.row true (ab eS b))],2⟩
attribute [go_sem] td
@[go_sem] def hi130_38:DT:=.i2 0 (.i1 1 (.i0 2 [1] (.i2 3 .nil)))
@[go_sem] def hi130_35:DT:=.r2 0 15 .nil
@[go_sem] def hi130_34:DT:=.i1 0 (.i2 1 (.i0 2 [0] (.i2 3 (.i2 4 .nil))))
@[go_sem] def hi130_19:DT:=.i2 0 (.i1 1 (.i1 2 (.i1 3 (.i1 4 (.r2 5 4 (.i0 9 [1,2,3,4] (.i2 10 .nil)))))))
@[go_sem] def hi130_17:DT:=.i1 0 (.i1 1 (.i2 2 (.i2 3 (.i0 4 [0,1] (.r2 5 3 .nil)))))
@[go_sem] def hi130_15:DT:=.r2 0 6 .nil
def bj:Hint where
 acts:=fun i=>match i with | 8=>[.homeCell 384 1,.homeCell 448 0] | _=>[]
 draws:=fun
  | 15=>⟨hi130_15,[[],[0],[],[2],[0,1],.range 5],[0,1,3,4,2,5]⟩
  | 17=>⟨hi130_17,[[],[0],[],[],[2,3],.range 5,.range 6,.range 7],.range 8⟩
  | 19=>⟨hi130_19,[[],[],[1],[],[3],[],[],[],[],[7,8],.range 10],.range 11⟩
  | 34=>⟨hi130_34,[[],[],[1],[0,1,2],[0,1,2,3]],.range 5⟩
  | 35=>⟨hi130_35,[[],[],[],[],[3],[],[3,4,5],[3,4,5,6],[3,4,5,6,7],[3,4,5,6,7,8],[3,4,5,6,7,8,9],[],[11],[3,4,5,6,7,8,9,10,11,12],.range 14],.range 15⟩
  | 38=>⟨hi130_38,[[],[],[0],[0,1,2]],[0,2,1,3]⟩
  | _=>⟨.nil,[],[]⟩
@[go_sem] theorem VG:bj.acts 0=[]:=rfl
@[go_sem] theorem VH:bj.acts 1=[]:=rfl
@[go_sem] theorem VI:bj.acts 2=[]:=rfl
@[go_sem] theorem VJ:bj.acts 3=[]:=rfl
@[go_sem] theorem VK:bj.acts 4=[]:=rfl
@[go_sem] theorem VL:bj.acts 5=[]:=rfl
@[go_sem] theorem VM:bj.acts 6=[]:=rfl
@[go_sem] theorem VN:bj.acts 7=[]:=rfl
@[go_sem] theorem VO:bj.acts 8=[.homeCell 384 1,.homeCell 448 0]:=rfl
@[go_sem] theorem VP:bj.acts 9=[]:=rfl
@[go_sem] theorem Ub:bj.acts 10=[]:=rfl
@[go_sem] theorem Uc:bj.acts 11=[]:=rfl
@[go_sem] theorem Ud:bj.acts 12=[]:=rfl
@[go_sem] theorem Ue:bj.acts 13=[]:=rfl
@[go_sem] theorem Uf:bj.acts 14=[]:=rfl
@[go_sem] theorem Ug:bj.acts 15=[]:=rfl
@[go_sem] theorem Uh:bj.acts 16=[]:=rfl
@[go_sem] theorem Ui:bj.acts 17=[]:=rfl
@[go_sem] theorem Uj:bj.acts 18=[]:=rfl
@[go_sem] theorem Uk:bj.acts 19=[]:=rfl
@[go_sem] theorem Ul:bj.acts 20=[]:=rfl
@[go_sem] theorem Um:bj.acts 21=[]:=rfl
@[go_sem] theorem Un:bj.acts 22=[]:=rfl
@[go_sem] theorem Uo:bj.acts 23=[]:=rfl
@[go_sem] theorem Up:bj.acts 24=[]:=rfl
@[go_sem] theorem Uq:bj.acts 25=[]:=rfl
@[go_sem] theorem Ur:bj.acts 26=[]:=rfl
@[go_sem] theorem Us:bj.acts 27=[]:=rfl
@[go_sem] theorem Ut:bj.acts 28=[]:=rfl
@[go_sem] theorem Uu:bj.acts 29=[]:=rfl
@[go_sem] theorem Uv:bj.acts 30=[]:=rfl
@[go_sem] theorem Uw:bj.acts 31=[]:=rfl
@[go_sem] theorem Ux:bj.acts 32=[]:=rfl
@[go_sem] theorem Uy:bj.acts 33=[]:=rfl
@[go_sem] theorem Uz:bj.acts 34=[]:=rfl
@[go_sem] theorem UA:bj.acts 35=[]:=rfl
@[go_sem] theorem UB:bj.acts 36=[]:=rfl
@[go_sem] theorem UC:bj.acts 37=[]:=rfl
@[go_sem] theorem UD:bj.acts 38=[]:=rfl
theorem Rm (i:Nat):bj.views i=none:=rfl
attribute [go_sem] Rm Tryz.ntmps130 Tryz.results130
@[go_sem] theorem UE:(bj.draws 15).order=hi130_15:=rfl
@[go_sem] theorem UF:(bj.draws 17).order=hi130_17:=rfl
@[go_sem] theorem UG:(bj.draws 19).order=hi130_19:=rfl
@[go_sem] theorem UH:(bj.draws 34).order=hi130_34:=rfl
@[go_sem] theorem UI:(bj.draws 35).order=hi130_35:=rfl
@[go_sem] theorem UJ:(bj.draws 38).order=hi130_38:=rfl
def oo (c:List aI)(a:Nat)(b:List AV)(d e:Int):St:=⟨[(0,.sl (ab aI.enc c)),(1,.fn a b),(7,.lit (.int .i64 d)),(8,.lit (.int .i64 e))],[],2⟩
attribute [go_sem] oo
attribute [go_sem] Tryz.ntmps209 Tryz.results209
attribute [go_sem] Tryz.ntmps205 Tryz.results205
attribute [go_sem] Tryz.ntmps207 Tryz.results207
attribute [go_sem] Tryz.ntmps206 Tryz.results206
attribute [go_sem] Tryz.ntmps131 Tryz.results131
attribute [go_sem] Tryz.ntmps62 Tryz.results62
attribute [go_sem] Tryz.ntmps208 Tryz.results208
attribute [go_sem] Tryz.ntmps132 Tryz.results132
attribute [go_sem] Tryz.ntmps211 Tryz.results211
@[go_sem] def hi210_1:DT:=.r2 0 16 .nil
def Ir:Hint where
 acts:=fun _=>[]
 draws:=fun
  | 1=>⟨hi210_1,[[],[0],[],[],[3],[2,3,4],[2,3,4,5],[],[],[8],[7,8,9],[7,8,9,10],[2,3,4,5,6,7,8,9,10,11],.range 13,.range 14,.range 15],.range 16⟩
  | _=>⟨.nil,[],[]⟩
theorem Rn (i:Nat):Ir.acts i=[]:=rfl
theorem Ro (i:Nat):Ir.views i=none:=rfl
attribute [go_sem] Rn Ro Tryz.ntmps210 Tryz.results210
@[go_sem] theorem VQ:(Ir.draws 1).order=hi210_1:=rfl
attribute [go_sem] Tryz.ntmps133 Tryz.results133
attribute [go_sem] Tryz.ntmps63 Tryz.results63
def sj (d:List Int)(e:Int)(f:List GNode)(g:List GTie)(h:Int)(b c:List Int):(Int × (List Int))→St
 | (i,a)=>⟨[(3,.ptr 192 1 0 0),(4,.ptr 256 1 0 0),(7,.ref 1600 1 0 a.length),(26,.sl (ab eI d)),(27,.lit (.int .i64 e)),(28,.lit (.int .i64 i))],[(192,1,.var [.sl (ab GNode.encS f),.sl (ab GTie.enc g),.lit (.int .i64 h)]),(256,1,.var [.sl (ab eI b),.sl (ab eI c)]),(1600,1,.row true (ab eI a))],2⟩
attribute [go_sem] sj
attribute [go_sem] Tryz.ntmps15 Tryz.results15
def pq (a:Bool)(b:Int)(c:List GNode)(d:List GTie)(e n:Int):St:=⟨[(1,.lit (.bool a)),(2,.ptr 128 1 0 0),(5,.lit (.int .i64 n)),(6,.lit (.int .i64 b))],[(128,1,.var [.sl (ab GNode.encS c),.sl (ab GTie.enc d),.lit (.int .i64 e)])],2⟩
attribute [go_sem] pq
attribute [go_sem] Tryz.ntmps20 Tryz.results20
def tQ (a b:List Int)(i:Int):St:=⟨[(0,.sl (ab eI a)),(1,.sl (ab eI b)),(5,.lit (.int .i64 i))],[],2⟩
attribute [go_sem] tQ
@[go_sem] def hi18_6:DT:=.r2 0 9 .nil
def hi18:Hint where
 acts:=fun _=>[]
 draws:=fun
  | 6=>⟨hi18_6,[[],[],[0,1],[0,1,2],[],[],[4,5],[4,5,6],.range 8],.range 9⟩
  | _=>⟨.nil,[],[]⟩
theorem Tj (i:Nat):hi18.acts i=[]:=rfl
theorem Tk (i:Nat):hi18.views i=none:=rfl
attribute [go_sem] Tj Tk Tryz.ntmps18 Tryz.results18
@[go_sem] theorem WA:(hi18.draws 6).order=hi18_6:=rfl
attribute [go_sem] Tryz.ntmps134 Tryz.results134
def te (a b:List GNode)(i:Int):St:=⟨[(0,.sl (ab GNode.encS a)),(1,.sl (ab GNode.encS b)),(5,.lit (.int .i64 i))],[],2⟩
attribute [go_sem] te
@[go_sem] def hi64_6:DT:=.r2 0 10 .nil
def hi64:Hint where
 acts:=fun _=>[]
 draws:=fun
  | 6=>⟨hi64_6,[[],[],[0,1],[0,1,2],[],[],[4,5],[4,5,6],.range 8,.range 9],.range 10⟩
  | _=>⟨.nil,[],[]⟩
theorem Tl (i:Nat):hi64.acts i=[]:=rfl
theorem Tm (i:Nat):hi64.views i=none:=rfl
attribute [go_sem] Tl Tm Tryz.ntmps64 Tryz.results64
@[go_sem] theorem WB:(hi64.draws 6).order=hi64_6:=rfl
attribute [go_sem] Tryz.ntmps135 Tryz.results135
def tR (a b:List GTie)(i:Int):St:=⟨[(0,.sl (ab GTie.enc a)),(1,.sl (ab GTie.enc b)),(5,.lit (.int .i64 i))],[],2⟩
attribute [go_sem] tR
@[go_sem] def hi65_6:DT:=.r2 0 10 .nil
def hi65:Hint where
 acts:=fun _=>[]
 draws:=fun
  | 6=>⟨hi65_6,[[],[],[0,1],[0,1,2],[],[],[4,5],[4,5,6],.range 8,.range 9],.range 10⟩
  | _=>⟨.nil,[],[]⟩
theorem Tn (i:Nat):hi65.acts i=[]:=rfl
theorem To (i:Nat):hi65.views i=none:=rfl
attribute [go_sem] Tn To Tryz.ntmps65 Tryz.results65
@[go_sem] theorem WC:(hi65.draws 6).order=hi65_6:=rfl
attribute [go_sem] Tryz.ntmps16 Tryz.results16
@[go_sem] def hi4_10:DT:=.i1 0 (.i2 1 (.i0 2 [0] (.i2 3 (.i2 4 .nil))))
def hi4:Hint where
 acts:=fun _=>[]
 draws:=fun
  | 10=>⟨hi4_10,[[],[],[1],[0,1,2],[0,1,2,3]],.range 5⟩
  | _=>⟨.nil,[],[]⟩
theorem hi4a (i:Nat):hi4.acts i=[]:=rfl
theorem hi4v (i:Nat):hi4.views i=none:=rfl
attribute [go_sem] hi4a hi4v Tryz.ntmps4 Tryz.results4
@[go_sem] theorem WD:(hi4.draws 10).order=hi4_10:=rfl
attribute [go_sem] Tryz.ntmps236 Tryz.results236
def sk (b:List Int)(c:Int):(Int × (List ByteArray))→St
 | (d,a)=>⟨[(3,.ref 255 1 0 a.length),(6,.sl (ab eI b)),(7,.lit (.int .i64 c)),(8,.lit (.int .i64 d))],[(255,1,.row true (ab eS a))],2⟩
attribute [go_sem] sk
attribute [go_sem] Tryz.ntmps153 Tryz.results153
@[go_sem] def hi77_1:DT:=.i2 0 (.i2 1 (.i1 3 (.i1 4 (.i1 6 (.i1 7 (.i1 9 (.i1 10 (.i0 2 [3,4,6,7,9,10] (.i0 5 [6,7,9,10] (.i0 8 [9,10] (.r2 11 4 .nil)))))))))))
def hi77:Hint where
 acts:=fun _=>[]
 draws:=fun
  | 1=>⟨hi77_1,[[],[0],[0,1],[],[3],.range 5,[],[6],.range 8,[],[9],.range 11,.range 12,.range 13,.range 14],.range 15⟩
  | _=>⟨.nil,[],[]⟩
theorem Tp (i:Nat):hi77.acts i=[]:=rfl
theorem Tq (i:Nat):hi77.views i=none:=rfl
attribute [go_sem] Tp Tq Tryz.ntmps77 Tryz.results77
@[go_sem] theorem WE:(hi77.draws 1).order=hi77_1:=rfl
end Go.Proofs.Qd
