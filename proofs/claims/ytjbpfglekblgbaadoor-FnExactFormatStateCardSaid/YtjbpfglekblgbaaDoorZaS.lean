/- The things of the program. -/
import Derived.Test.YtjbpfglekblgbaaDoorZaT
import Derived.Test.YtjbpfglekblgbaaDoorZa33
set_option linter.all false
set_option maxRecDepth 100000
set_option maxHeartbeats 400000
namespace Go.Proofs.Qa
open Go
structure aB where
 now:Int
 ties:List Int
 nodes:List Int
 values:List Int
 deriving DecidableEq
def aB.encS (x:aB):List AV:=[.lit (.int .i64 x.now),.sl (ab eI x.ties),.sl (ab eI x.nodes),.sl (ab eI x.values)]
theorem oM (xs:List aB)(a0:Int)(a1 a2 a3:List Int):ab aB.encS xs++[[.lit (.int .i64 a0),.sl (ab eI a1),.sl (ab eI a2),.sl (ab eI a3)]]=ab aB.encS (xs++[(aB.mk a0 a1 a2 a3)]):=aA (e:=aB.encS) xs (aB.mk a0 a1 a2 a3)
theorem qn (xs:List aB)(i:Nat)(a0:Int)(a1 a2 a3:List Int):(ab aB.encS xs).set i [.lit (.int .i64 a0),.sl (ab eI a1),.sl (ab eI a2),.sl (ab eI a3)]=ab aB.encS (xs.set i (aB.mk a0 a1 a2 a3)):=aR (e:=aB.encS) xs i (aB.mk a0 a1 a2 a3)
theorem qo (xs:List aB):(ab aB.encS xs).all (fun r=>r.length == 4)=true:=aU (e:=aB.encS) (fun _=>rfl) xs
theorem qp (a0:Int)(a1 a2 a3:List Int):[[.lit (.int .i64 a0),.sl (ab eI a1),.sl (ab eI a2),.sl (ab eI a3)]]=ab aB.encS [(aB.mk a0 a1 a2 a3)]:=rfl
theorem oN (xs:List aB)(a0:Int)(a1 a2 a3:List Int):[.lit (.int .i64 a0),.sl (ab eI a1),.sl (ab eI a2),.sl (ab eI a3)]::ab aB.encS xs=ab aB.encS ((aB.mk a0 a1 a2 a3)::xs):=rfl
attribute [go_sem] aB.encS oM qn qo qp oN
def aB.encO (x:aB):List AV:=[.lit (.int .i64 x.now),.own (ab eI x.ties),.own (ab eI x.nodes),.own (ab eI x.values)]
theorem oO (xs:List aB)(a0:Int)(a1 a2 a3:List Int):ab aB.encO xs++[[.lit (.int .i64 a0),.own (ab eI a1),.own (ab eI a2),.own (ab eI a3)]]=ab aB.encO (xs++[(aB.mk a0 a1 a2 a3)]):=aA (e:=aB.encO) xs (aB.mk a0 a1 a2 a3)
theorem qq (xs:List aB)(i:Nat)(a0:Int)(a1 a2 a3:List Int):(ab aB.encO xs).set i [.lit (.int .i64 a0),.own (ab eI a1),.own (ab eI a2),.own (ab eI a3)]=ab aB.encO (xs.set i (aB.mk a0 a1 a2 a3)):=aR (e:=aB.encO) xs i (aB.mk a0 a1 a2 a3)
theorem qr (xs:List aB):(ab aB.encO xs).all (fun r=>r.length == 4)=true:=aU (e:=aB.encO) (fun _=>rfl) xs
theorem qt (a0:Int)(a1 a2 a3:List Int):[[.lit (.int .i64 a0),.own (ab eI a1),.own (ab eI a2),.own (ab eI a3)]]=ab aB.encO [(aB.mk a0 a1 a2 a3)]:=rfl
theorem oP (xs:List aB)(a0:Int)(a1 a2 a3:List Int):[.lit (.int .i64 a0),.own (ab eI a1),.own (ab eI a2),.own (ab eI a3)]::ab aB.encO xs=ab aB.encO ((aB.mk a0 a1 a2 a3)::xs):=rfl
theorem qu (xs:List aB):frsR (ab aB.encO xs)=true:=cp (e:=aB.encO) (fun x=>by simp only [go_sem,aB.encO]) xs
theorem oQ (xs:List aB):aW (ab aB.encO xs)=ab aB.encS xs:=bA (e:=aB.encO) (fun x=>by simp only [go_sem,dT,toSl,aB.encO,aB.encS]) xs
theorem qv (n:Nat):List.replicate n [.lit (.int .i64 0),.own [],.own [],.own []]=ab aB.encO (List.replicate n (aB.mk 0 ([]) ([]) ([]))):=aP (e:=aB.encO) n (aB.mk 0 ([]) ([]) ([]))
attribute [go_sem] aB.encO oO qq qr qt oP qu oQ qv
structure an where
 b:List Int
 i:Int
 h:Int
 deriving DecidableEq
def an.encS (x:an):List AV:=[.sl (ab (eK .u8) x.b),.lit (.int .i64 x.i),.lit (.int .i64 x.h)]
theorem nm (xs:List an)(a0:List Int)(a1 a2:Int):ab an.encS xs++[[.sl (ab (eK .u8) a0),.lit (.int .i64 a1),.lit (.int .i64 a2)]]=ab an.encS (xs++[(an.mk a0 a1 a2)]):=aA (e:=an.encS) xs (an.mk a0 a1 a2)
theorem oR (xs:List an)(i:Nat)(a0:List Int)(a1 a2:Int):(ab an.encS xs).set i [.sl (ab (eK .u8) a0),.lit (.int .i64 a1),.lit (.int .i64 a2)]=ab an.encS (xs.set i (an.mk a0 a1 a2)):=aR (e:=an.encS) xs i (an.mk a0 a1 a2)
theorem oS (xs:List an):(ab an.encS xs).all (fun r=>r.length == 3)=true:=aU (e:=an.encS) (fun _=>rfl) xs
theorem oT (a0:List Int)(a1 a2:Int):[[.sl (ab (eK .u8) a0),.lit (.int .i64 a1),.lit (.int .i64 a2)]]=ab an.encS [(an.mk a0 a1 a2)]:=rfl
theorem nn (xs:List an)(a0:List Int)(a1 a2:Int):[.sl (ab (eK .u8) a0),.lit (.int .i64 a1),.lit (.int .i64 a2)]::ab an.encS xs=ab an.encS ((an.mk a0 a1 a2)::xs):=rfl
theorem lK (xs:List an)(a1 a2:Int):ab an.encS xs++[[.sl [],.lit (.int .i64 a1),.lit (.int .i64 a2)]]=ab an.encS (xs++[(an.mk [] a1 a2)]):=aA (e:=an.encS) xs (an.mk [] a1 a2)
theorem mB (a1 a2:Int):[[.sl [],.lit (.int .i64 a1),.lit (.int .i64 a2)]]=ab an.encS [(an.mk [] a1 a2)]:=rfl
theorem lL (xs:List an)(a1 a2:Int):[.sl [],.lit (.int .i64 a1),.lit (.int .i64 a2)]::ab an.encS xs=ab an.encS ((an.mk [] a1 a2)::xs):=rfl
attribute [go_sem] an.encS nm oR oS oT nn lK mB lL
def an.encO (x:an):List AV:=[.own (ab (eK .u8) x.b),.lit (.int .i64 x.i),.lit (.int .i64 x.h)]
theorem np (xs:List an)(a0:List Int)(a1 a2:Int):ab an.encO xs++[[.own (ab (eK .u8) a0),.lit (.int .i64 a1),.lit (.int .i64 a2)]]=ab an.encO (xs++[(an.mk a0 a1 a2)]):=aA (e:=an.encO) xs (an.mk a0 a1 a2)
theorem oU (xs:List an)(i:Nat)(a0:List Int)(a1 a2:Int):(ab an.encO xs).set i [.own (ab (eK .u8) a0),.lit (.int .i64 a1),.lit (.int .i64 a2)]=ab an.encO (xs.set i (an.mk a0 a1 a2)):=aR (e:=an.encO) xs i (an.mk a0 a1 a2)
theorem oV (xs:List an):(ab an.encO xs).all (fun r=>r.length == 3)=true:=aU (e:=an.encO) (fun _=>rfl) xs
theorem oW (a0:List Int)(a1 a2:Int):[[.own (ab (eK .u8) a0),.lit (.int .i64 a1),.lit (.int .i64 a2)]]=ab an.encO [(an.mk a0 a1 a2)]:=rfl
theorem nq (xs:List an)(a0:List Int)(a1 a2:Int):[.own (ab (eK .u8) a0),.lit (.int .i64 a1),.lit (.int .i64 a2)]::ab an.encO xs=ab an.encO ((an.mk a0 a1 a2)::xs):=rfl
theorem oX (xs:List an):frsR (ab an.encO xs)=true:=cp (e:=an.encO) (fun x=>by simp only [go_sem,an.encO]) xs
theorem nr (xs:List an):aW (ab an.encO xs)=ab an.encS xs:=bA (e:=an.encO) (fun x=>by simp only [go_sem,dT,toSl,an.encO,an.encS]) xs
theorem oY (n:Nat):List.replicate n [.own [],.lit (.int .i64 0),.lit (.int .i64 0)]=ab an.encO (List.replicate n (an.mk ([]) 0 0)):=aP (e:=an.encO) n (an.mk ([]) 0 0)
theorem lM (xs:List an)(a1 a2:Int):ab an.encO xs++[[.own [],.lit (.int .i64 a1),.lit (.int .i64 a2)]]=ab an.encO (xs++[(an.mk [] a1 a2)]):=aA (e:=an.encO) xs (an.mk [] a1 a2)
theorem mC (a1 a2:Int):[[.own [],.lit (.int .i64 a1),.lit (.int .i64 a2)]]=ab an.encO [(an.mk [] a1 a2)]:=rfl
theorem lN (xs:List an)(a1 a2:Int):[.own [],.lit (.int .i64 a1),.lit (.int .i64 a2)]::ab an.encO xs=ab an.encO ((an.mk [] a1 a2)::xs):=rfl
attribute [go_sem] an.encO np oU oV oW nq oX nr oY lM mC lN
structure GNode where
 name:ByteArray
 label:List Int
 watch:Int
 deriving DecidableEq
def GNode.encS (x:GNode):List AV:=[.lit (.string x.name),.sl (ab eI x.label),.lit (.int .i64 x.watch)]
theorem qw (xs:List GNode)(a0:ByteArray)(a1:List Int)(a2:Int):ab GNode.encS xs++[[.lit (.string a0),.sl (ab eI a1),.lit (.int .i64 a2)]]=ab GNode.encS (xs++[(GNode.mk a0 a1 a2)]):=aA (e:=GNode.encS) xs (GNode.mk a0 a1 a2)
theorem rn (xs:List GNode)(i:Nat)(a0:ByteArray)(a1:List Int)(a2:Int):(ab GNode.encS xs).set i [.lit (.string a0),.sl (ab eI a1),.lit (.int .i64 a2)]=ab GNode.encS (xs.set i (GNode.mk a0 a1 a2)):=aR (e:=GNode.encS) xs i (GNode.mk a0 a1 a2)
theorem ro (xs:List GNode):(ab GNode.encS xs).all (fun r=>r.length == 3)=true:=aU (e:=GNode.encS) (fun _=>rfl) xs
theorem rp (a0:ByteArray)(a1:List Int)(a2:Int):[[.lit (.string a0),.sl (ab eI a1),.lit (.int .i64 a2)]]=ab GNode.encS [(GNode.mk a0 a1 a2)]:=rfl
theorem qx (xs:List GNode)(a0:ByteArray)(a1:List Int)(a2:Int):[.lit (.string a0),.sl (ab eI a1),.lit (.int .i64 a2)]::ab GNode.encS xs=ab GNode.encS ((GNode.mk a0 a1 a2)::xs):=rfl
theorem nu (xs:List GNode)(a0:ByteArray)(a2:Int):ab GNode.encS xs++[[.lit (.string a0),.sl [],.lit (.int .i64 a2)]]=ab GNode.encS (xs++[(GNode.mk a0 [] a2)]):=aA (e:=GNode.encS) xs (GNode.mk a0 [] a2)
theorem oZ (a0:ByteArray)(a2:Int):[[.lit (.string a0),.sl [],.lit (.int .i64 a2)]]=ab GNode.encS [(GNode.mk a0 [] a2)]:=rfl
theorem nw (xs:List GNode)(a0:ByteArray)(a2:Int):[.lit (.string a0),.sl [],.lit (.int .i64 a2)]::ab GNode.encS xs=ab GNode.encS ((GNode.mk a0 [] a2)::xs):=rfl
attribute [go_sem] GNode.encS qw rn ro rp qx nu oZ nw
def GNode.encO (x:GNode):List AV:=[.lit (.string x.name),.own (ab eI x.label),.lit (.int .i64 x.watch)]
theorem qy (xs:List GNode)(a0:ByteArray)(a1:List Int)(a2:Int):ab GNode.encO xs++[[.lit (.string a0),.own (ab eI a1),.lit (.int .i64 a2)]]=ab GNode.encO (xs++[(GNode.mk a0 a1 a2)]):=aA (e:=GNode.encO) xs (GNode.mk a0 a1 a2)
theorem rq (xs:List GNode)(i:Nat)(a0:ByteArray)(a1:List Int)(a2:Int):(ab GNode.encO xs).set i [.lit (.string a0),.own (ab eI a1),.lit (.int .i64 a2)]=ab GNode.encO (xs.set i (GNode.mk a0 a1 a2)):=aR (e:=GNode.encO) xs i (GNode.mk a0 a1 a2)
theorem rr (xs:List GNode):(ab GNode.encO xs).all (fun r=>r.length == 3)=true:=aU (e:=GNode.encO) (fun _=>rfl) xs
theorem rt (a0:ByteArray)(a1:List Int)(a2:Int):[[.lit (.string a0),.own (ab eI a1),.lit (.int .i64 a2)]]=ab GNode.encO [(GNode.mk a0 a1 a2)]:=rfl
theorem qz (xs:List GNode)(a0:ByteArray)(a1:List Int)(a2:Int):[.lit (.string a0),.own (ab eI a1),.lit (.int .i64 a2)]::ab GNode.encO xs=ab GNode.encO ((GNode.mk a0 a1 a2)::xs):=rfl
theorem ru (xs:List GNode):frsR (ab GNode.encO xs)=true:=cp (e:=GNode.encO) (fun x=>by simp only [go_sem,GNode.encO]) xs
theorem qA (xs:List GNode):aW (ab GNode.encO xs)=ab GNode.encS xs:=bA (e:=GNode.encO) (fun x=>by simp only [go_sem,dT,toSl,GNode.encO,GNode.encS]) xs
theorem rv (n:Nat):List.replicate n [.lit (.string (ByteArray.mk #[])),.own [],.lit (.int .i64 0)]=ab GNode.encO (List.replicate n (GNode.mk (ByteArray.mk #[]) ([]) 0)):=aP (e:=GNode.encO) n (GNode.mk (ByteArray.mk #[]) ([]) 0)
theorem nx (xs:List GNode)(a0:ByteArray)(a2:Int):ab GNode.encO xs++[[.lit (.string a0),.own [],.lit (.int .i64 a2)]]=ab GNode.encO (xs++[(GNode.mk a0 [] a2)]):=aA (e:=GNode.encO) xs (GNode.mk a0 [] a2)
theorem pd (a0:ByteArray)(a2:Int):[[.lit (.string a0),.own [],.lit (.int .i64 a2)]]=ab GNode.encO [(GNode.mk a0 [] a2)]:=rfl
theorem ny (xs:List GNode)(a0:ByteArray)(a2:Int):[.lit (.string a0),.own [],.lit (.int .i64 a2)]::ab GNode.encO xs=ab GNode.encO ((GNode.mk a0 [] a2)::xs):=rfl
attribute [go_sem] GNode.encO qy rq rr rt qz ru qA rv nx pd ny
structure GTie where
 from_:Int
 to:Int
 low:Int
 high:Int
 free:Bool
 deriving DecidableEq
def GTie.enc (x:GTie):List AV:=[.lit (.int .i64 x.from_),.lit (.int .i64 x.to),.lit (.int .i64 x.low),.lit (.int .i64 x.high),.lit (.bool x.free)]
theorem sF (xs:List GTie)(a0 a1 a2 a3:Int)(a4:Bool):ab GTie.enc xs++[[.lit (.int .i64 a0),.lit (.int .i64 a1),.lit (.int .i64 a2),.lit (.int .i64 a3),.lit (.bool a4)]]=ab GTie.enc (xs++[(GTie.mk a0 a1 a2 a3 a4)]):=aA (e:=GTie.enc) xs (GTie.mk a0 a1 a2 a3 a4)
theorem tZ (xs:List GTie)(i:Nat)(a0 a1 a2 a3:Int)(a4:Bool):(ab GTie.enc xs).set i [.lit (.int .i64 a0),.lit (.int .i64 a1),.lit (.int .i64 a2),.lit (.int .i64 a3),.lit (.bool a4)]=ab GTie.enc (xs.set i (GTie.mk a0 a1 a2 a3 a4)):=aR (e:=GTie.enc) xs i (GTie.mk a0 a1 a2 a3 a4)
theorem ua (xs:List GTie):(ab GTie.enc xs).all (fun r=>r.length == 5)=true:=aU (e:=GTie.enc) (fun _=>rfl) xs
theorem ub (a0 a1 a2 a3:Int)(a4:Bool):[[.lit (.int .i64 a0),.lit (.int .i64 a1),.lit (.int .i64 a2),.lit (.int .i64 a3),.lit (.bool a4)]]=ab GTie.enc [(GTie.mk a0 a1 a2 a3 a4)]:=rfl
theorem sG (xs:List GTie)(a0 a1 a2 a3:Int)(a4:Bool):[.lit (.int .i64 a0),.lit (.int .i64 a1),.lit (.int .i64 a2),.lit (.int .i64 a3),.lit (.bool a4)]::ab GTie.enc xs=ab GTie.enc ((GTie.mk a0 a1 a2 a3 a4)::xs):=rfl
theorem uc (xs:List GTie):frsR (ab GTie.enc xs)=true:=cp (e:=GTie.enc) (fun x=>by simp only [go_sem,GTie.enc]) xs
theorem sH (xs:List GTie):aW (ab GTie.enc xs)=ab GTie.enc xs:=bA (e:=GTie.enc) (fun x=>by simp only [go_sem,dT,toSl,GTie.enc]) xs
theorem ud (n:Nat):List.replicate n [.lit (.int .i64 0),.lit (.int .i64 0),.lit (.int .i64 0),.lit (.int .i64 0),.lit (.bool false)]=ab GTie.enc (List.replicate n (GTie.mk 0 0 0 0 false)):=aP (e:=GTie.enc) n (GTie.mk 0 0 0 0 false)
attribute [go_sem] GTie.enc sF tZ ua ub sG uc sH ud
structure GShow where
 nodes:List GNode
 ties:List GTie
 horizon:Int
 deriving DecidableEq
def GShow.encS (x:GShow):List AV:=[.sl (ab GNode.encS x.nodes),.sl (ab GTie.enc x.ties),.lit (.int .i64 x.horizon)]
theorem qB (xs:List GShow)(a0:List GNode)(a1:List GTie)(a2:Int):ab GShow.encS xs++[[.sl (ab GNode.encS a0),.sl (ab GTie.enc a1),.lit (.int .i64 a2)]]=ab GShow.encS (xs++[(GShow.mk a0 a1 a2)]):=aA (e:=GShow.encS) xs (GShow.mk a0 a1 a2)
theorem rx (xs:List GShow)(i:Nat)(a0:List GNode)(a1:List GTie)(a2:Int):(ab GShow.encS xs).set i [.sl (ab GNode.encS a0),.sl (ab GTie.enc a1),.lit (.int .i64 a2)]=ab GShow.encS (xs.set i (GShow.mk a0 a1 a2)):=aR (e:=GShow.encS) xs i (GShow.mk a0 a1 a2)
theorem ry (xs:List GShow):(ab GShow.encS xs).all (fun r=>r.length == 3)=true:=aU (e:=GShow.encS) (fun _=>rfl) xs
theorem rz (a0:List GNode)(a1:List GTie)(a2:Int):[[.sl (ab GNode.encS a0),.sl (ab GTie.enc a1),.lit (.int .i64 a2)]]=ab GShow.encS [(GShow.mk a0 a1 a2)]:=rfl
theorem qC (xs:List GShow)(a0:List GNode)(a1:List GTie)(a2:Int):[.sl (ab GNode.encS a0),.sl (ab GTie.enc a1),.lit (.int .i64 a2)]::ab GShow.encS xs=ab GShow.encS ((GShow.mk a0 a1 a2)::xs):=rfl
theorem nz (xs:List GShow)(a1:List GTie)(a2:Int):ab GShow.encS xs++[[.sl [],.sl (ab GTie.enc a1),.lit (.int .i64 a2)]]=ab GShow.encS (xs++[(GShow.mk [] a1 a2)]):=aA (e:=GShow.encS) xs (GShow.mk [] a1 a2)
theorem pf (a1:List GTie)(a2:Int):[[.sl [],.sl (ab GTie.enc a1),.lit (.int .i64 a2)]]=ab GShow.encS [(GShow.mk [] a1 a2)]:=rfl
theorem nD (xs:List GShow)(a1:List GTie)(a2:Int):[.sl [],.sl (ab GTie.enc a1),.lit (.int .i64 a2)]::ab GShow.encS xs=ab GShow.encS ((GShow.mk [] a1 a2)::xs):=rfl
theorem nE (xs:List GShow)(a0:List GNode)(a2:Int):ab GShow.encS xs++[[.sl (ab GNode.encS a0),.sl [],.lit (.int .i64 a2)]]=ab GShow.encS (xs++[(GShow.mk a0 [] a2)]):=aA (e:=GShow.encS) xs (GShow.mk a0 [] a2)
theorem pg (a0:List GNode)(a2:Int):[[.sl (ab GNode.encS a0),.sl [],.lit (.int .i64 a2)]]=ab GShow.encS [(GShow.mk a0 [] a2)]:=rfl
theorem nF (xs:List GShow)(a0:List GNode)(a2:Int):[.sl (ab GNode.encS a0),.sl [],.lit (.int .i64 a2)]::ab GShow.encS xs=ab GShow.encS ((GShow.mk a0 [] a2)::xs):=rfl
theorem nG (xs:List GShow)(a2:Int):ab GShow.encS xs++[[.sl [],.sl [],.lit (.int .i64 a2)]]=ab GShow.encS (xs++[(GShow.mk [] [] a2)]):=aA (e:=GShow.encS) xs (GShow.mk [] [] a2)
theorem ph (a2:Int):[[.sl [],.sl [],.lit (.int .i64 a2)]]=ab GShow.encS [(GShow.mk [] [] a2)]:=rfl
theorem nH (xs:List GShow)(a2:Int):[.sl [],.sl [],.lit (.int .i64 a2)]::ab GShow.encS xs=ab GShow.encS ((GShow.mk [] [] a2)::xs):=rfl
attribute [go_sem] GShow.encS qB rx ry rz qC nz pf nD nE pg nF nG ph nH
def GShow.encO (x:GShow):List AV:=[.own (ab GNode.encO x.nodes),.own (ab GTie.enc x.ties),.lit (.int .i64 x.horizon)]
theorem qD (xs:List GShow)(a0:List GNode)(a1:List GTie)(a2:Int):ab GShow.encO xs++[[.own (ab GNode.encO a0),.own (ab GTie.enc a1),.lit (.int .i64 a2)]]=ab GShow.encO (xs++[(GShow.mk a0 a1 a2)]):=aA (e:=GShow.encO) xs (GShow.mk a0 a1 a2)
theorem rA (xs:List GShow)(i:Nat)(a0:List GNode)(a1:List GTie)(a2:Int):(ab GShow.encO xs).set i [.own (ab GNode.encO a0),.own (ab GTie.enc a1),.lit (.int .i64 a2)]=ab GShow.encO (xs.set i (GShow.mk a0 a1 a2)):=aR (e:=GShow.encO) xs i (GShow.mk a0 a1 a2)
theorem rB (xs:List GShow):(ab GShow.encO xs).all (fun r=>r.length == 3)=true:=aU (e:=GShow.encO) (fun _=>rfl) xs
theorem rC (a0:List GNode)(a1:List GTie)(a2:Int):[[.own (ab GNode.encO a0),.own (ab GTie.enc a1),.lit (.int .i64 a2)]]=ab GShow.encO [(GShow.mk a0 a1 a2)]:=rfl
theorem qE (xs:List GShow)(a0:List GNode)(a1:List GTie)(a2:Int):[.own (ab GNode.encO a0),.own (ab GTie.enc a1),.lit (.int .i64 a2)]::ab GShow.encO xs=ab GShow.encO ((GShow.mk a0 a1 a2)::xs):=rfl
theorem rD (xs:List GShow):frsR (ab GShow.encO xs)=true:=cp (e:=GShow.encO) (fun x=>by simp only [go_sem,GShow.encO]) xs
theorem qF (xs:List GShow):aW (ab GShow.encO xs)=ab GShow.encS xs:=bA (e:=GShow.encO) (fun x=>by simp only [go_sem,dT,toSl,GShow.encO,GShow.encS]) xs
theorem rE (n:Nat):List.replicate n [.own [],.own [],.lit (.int .i64 0)]=ab GShow.encO (List.replicate n (GShow.mk ([]) ([]) 0)):=aP (e:=GShow.encO) n (GShow.mk ([]) ([]) 0)
theorem nI (xs:List GShow)(a1:List GTie)(a2:Int):ab GShow.encO xs++[[.own [],.own (ab GTie.enc a1),.lit (.int .i64 a2)]]=ab GShow.encO (xs++[(GShow.mk [] a1 a2)]):=aA (e:=GShow.encO) xs (GShow.mk [] a1 a2)
theorem pi (a1:List GTie)(a2:Int):[[.own [],.own (ab GTie.enc a1),.lit (.int .i64 a2)]]=ab GShow.encO [(GShow.mk [] a1 a2)]:=rfl
theorem nJ (xs:List GShow)(a1:List GTie)(a2:Int):[.own [],.own (ab GTie.enc a1),.lit (.int .i64 a2)]::ab GShow.encO xs=ab GShow.encO ((GShow.mk [] a1 a2)::xs):=rfl
theorem nK (xs:List GShow)(a0:List GNode)(a2:Int):ab GShow.encO xs++[[.own (ab GNode.encO a0),.own [],.lit (.int .i64 a2)]]=ab GShow.encO (xs++[(GShow.mk a0 [] a2)]):=aA (e:=GShow.encO) xs (GShow.mk a0 [] a2)
theorem pj (a0:List GNode)(a2:Int):[[.own (ab GNode.encO a0),.own [],.lit (.int .i64 a2)]]=ab GShow.encO [(GShow.mk a0 [] a2)]:=rfl
theorem nL (xs:List GShow)(a0:List GNode)(a2:Int):[.own (ab GNode.encO a0),.own [],.lit (.int .i64 a2)]::ab GShow.encO xs=ab GShow.encO ((GShow.mk a0 [] a2)::xs):=rfl
theorem nM (xs:List GShow)(a2:Int):ab GShow.encO xs++[[.own [],.own [],.lit (.int .i64 a2)]]=ab GShow.encO (xs++[(GShow.mk [] [] a2)]):=aA (e:=GShow.encO) xs (GShow.mk [] [] a2)
theorem pk (a2:Int):[[.own [],.own [],.lit (.int .i64 a2)]]=ab GShow.encO [(GShow.mk [] [] a2)]:=rfl
theorem nN (xs:List GShow)(a2:Int):[.own [],.own [],.lit (.int .i64 a2)]::ab GShow.encO xs=ab GShow.encO ((GShow.mk [] [] a2)::xs):=rfl
attribute [go_sem] GShow.encO qD rA rB rC qE rD qF rE nI pi nJ nK pj nL nM pk nN
structure GState where
 now:Int
 times:List Int
 values:List Int
 deriving DecidableEq
def GState.encS (x:GState):List AV:=[.lit (.int .i64 x.now),.sl (ab eI x.times),.sl (ab eI x.values)]
theorem pl (xs:List GState)(a0:Int)(a1 a2:List Int):ab GState.encS xs++[[.lit (.int .i64 a0),.sl (ab eI a1),.sl (ab eI a2)]]=ab GState.encS (xs++[(GState.mk a0 a1 a2)]):=aA (e:=GState.encS) xs (GState.mk a0 a1 a2)
theorem qG (xs:List GState)(i:Nat)(a0:Int)(a1 a2:List Int):(ab GState.encS xs).set i [.lit (.int .i64 a0),.sl (ab eI a1),.sl (ab eI a2)]=ab GState.encS (xs.set i (GState.mk a0 a1 a2)):=aR (e:=GState.encS) xs i (GState.mk a0 a1 a2)
theorem qH (xs:List GState):(ab GState.encS xs).all (fun r=>r.length == 3)=true:=aU (e:=GState.encS) (fun _=>rfl) xs
theorem qI (a0:Int)(a1 a2:List Int):[[.lit (.int .i64 a0),.sl (ab eI a1),.sl (ab eI a2)]]=ab GState.encS [(GState.mk a0 a1 a2)]:=rfl
theorem pm (xs:List GState)(a0:Int)(a1 a2:List Int):[.lit (.int .i64 a0),.sl (ab eI a1),.sl (ab eI a2)]::ab GState.encS xs=ab GState.encS ((GState.mk a0 a1 a2)::xs):=rfl
theorem mD (xs:List GState)(a0:Int)(a2:List Int):ab GState.encS xs++[[.lit (.int .i64 a0),.sl [],.sl (ab eI a2)]]=ab GState.encS (xs++[(GState.mk a0 [] a2)]):=aA (e:=GState.encS) xs (GState.mk a0 [] a2)
theorem nO (a0:Int)(a2:List Int):[[.lit (.int .i64 a0),.sl [],.sl (ab eI a2)]]=ab GState.encS [(GState.mk a0 [] a2)]:=rfl
theorem mE (xs:List GState)(a0:Int)(a2:List Int):[.lit (.int .i64 a0),.sl [],.sl (ab eI a2)]::ab GState.encS xs=ab GState.encS ((GState.mk a0 [] a2)::xs):=rfl
theorem mF (xs:List GState)(a0:Int)(a1:List Int):ab GState.encS xs++[[.lit (.int .i64 a0),.sl (ab eI a1),.sl []]]=ab GState.encS (xs++[(GState.mk a0 a1 [])]):=aA (e:=GState.encS) xs (GState.mk a0 a1 [])
theorem nP (a0:Int)(a1:List Int):[[.lit (.int .i64 a0),.sl (ab eI a1),.sl []]]=ab GState.encS [(GState.mk a0 a1 [])]:=rfl
theorem mG (xs:List GState)(a0:Int)(a1:List Int):[.lit (.int .i64 a0),.sl (ab eI a1),.sl []]::ab GState.encS xs=ab GState.encS ((GState.mk a0 a1 [])::xs):=rfl
theorem mH (xs:List GState)(a0:Int):ab GState.encS xs++[[.lit (.int .i64 a0),.sl [],.sl []]]=ab GState.encS (xs++[(GState.mk a0 [] [])]):=aA (e:=GState.encS) xs (GState.mk a0 [] [])
theorem nQ (a0:Int):[[.lit (.int .i64 a0),.sl [],.sl []]]=ab GState.encS [(GState.mk a0 [] [])]:=rfl
theorem mI (xs:List GState)(a0:Int):[.lit (.int .i64 a0),.sl [],.sl []]::ab GState.encS xs=ab GState.encS ((GState.mk a0 [] [])::xs):=rfl
attribute [go_sem] GState.encS pl qG qH qI pm mD nO mE mF nP mG mH nQ mI
def GState.encO (x:GState):List AV:=[.lit (.int .i64 x.now),.own (ab eI x.times),.own (ab eI x.values)]
theorem pn (xs:List GState)(a0:Int)(a1 a2:List Int):ab GState.encO xs++[[.lit (.int .i64 a0),.own (ab eI a1),.own (ab eI a2)]]=ab GState.encO (xs++[(GState.mk a0 a1 a2)]):=aA (e:=GState.encO) xs (GState.mk a0 a1 a2)
theorem qJ (xs:List GState)(i:Nat)(a0:Int)(a1 a2:List Int):(ab GState.encO xs).set i [.lit (.int .i64 a0),.own (ab eI a1),.own (ab eI a2)]=ab GState.encO (xs.set i (GState.mk a0 a1 a2)):=aR (e:=GState.encO) xs i (GState.mk a0 a1 a2)
theorem qK (xs:List GState):(ab GState.encO xs).all (fun r=>r.length == 3)=true:=aU (e:=GState.encO) (fun _=>rfl) xs
theorem qL (a0:Int)(a1 a2:List Int):[[.lit (.int .i64 a0),.own (ab eI a1),.own (ab eI a2)]]=ab GState.encO [(GState.mk a0 a1 a2)]:=rfl
theorem po (xs:List GState)(a0:Int)(a1 a2:List Int):[.lit (.int .i64 a0),.own (ab eI a1),.own (ab eI a2)]::ab GState.encO xs=ab GState.encO ((GState.mk a0 a1 a2)::xs):=rfl
theorem qM (xs:List GState):frsR (ab GState.encO xs)=true:=cp (e:=GState.encO) (fun x=>by simp only [go_sem,GState.encO]) xs
theorem pq (xs:List GState):aW (ab GState.encO xs)=ab GState.encS xs:=bA (e:=GState.encO) (fun x=>by simp only [go_sem,dT,toSl,GState.encO,GState.encS]) xs
theorem qN (n:Nat):List.replicate n [.lit (.int .i64 0),.own [],.own []]=ab GState.encO (List.replicate n (GState.mk 0 ([]) ([]))):=aP (e:=GState.encO) n (GState.mk 0 ([]) ([]))
theorem mJ (xs:List GState)(a0:Int)(a2:List Int):ab GState.encO xs++[[.lit (.int .i64 a0),.own [],.own (ab eI a2)]]=ab GState.encO (xs++[(GState.mk a0 [] a2)]):=aA (e:=GState.encO) xs (GState.mk a0 [] a2)
theorem nR (a0:Int)(a2:List Int):[[.lit (.int .i64 a0),.own [],.own (ab eI a2)]]=ab GState.encO [(GState.mk a0 [] a2)]:=rfl
theorem mK (xs:List GState)(a0:Int)(a2:List Int):[.lit (.int .i64 a0),.own [],.own (ab eI a2)]::ab GState.encO xs=ab GState.encO ((GState.mk a0 [] a2)::xs):=rfl
theorem mL (xs:List GState)(a0:Int)(a1:List Int):ab GState.encO xs++[[.lit (.int .i64 a0),.own (ab eI a1),.own []]]=ab GState.encO (xs++[(GState.mk a0 a1 [])]):=aA (e:=GState.encO) xs (GState.mk a0 a1 [])
theorem nS (a0:Int)(a1:List Int):[[.lit (.int .i64 a0),.own (ab eI a1),.own []]]=ab GState.encO [(GState.mk a0 a1 [])]:=rfl
theorem mM (xs:List GState)(a0:Int)(a1:List Int):[.lit (.int .i64 a0),.own (ab eI a1),.own []]::ab GState.encO xs=ab GState.encO ((GState.mk a0 a1 [])::xs):=rfl
theorem mN (xs:List GState)(a0:Int):ab GState.encO xs++[[.lit (.int .i64 a0),.own [],.own []]]=ab GState.encO (xs++[(GState.mk a0 [] [])]):=aA (e:=GState.encO) xs (GState.mk a0 [] [])
theorem nT (a0:Int):[[.lit (.int .i64 a0),.own [],.own []]]=ab GState.encO [(GState.mk a0 [] [])]:=rfl
theorem mO (xs:List GState)(a0:Int):[.lit (.int .i64 a0),.own [],.own []]::ab GState.encO xs=ab GState.encO ((GState.mk a0 [] [])::xs):=rfl
attribute [go_sem] GState.encO pn qJ qK qL po qM pq qN mJ nR mK mL nS mM mN nT mO
def spf (f:Nat):Bool:=[].contains f
@[go_sem] theorem CA:spf 94=false:=rfl
@[go_sem] theorem Ct:spf 125=false:=rfl
@[go_sem] theorem Cu:spf 147=false:=rfl
@[go_sem] theorem Cv:spf 149=false:=rfl
@[go_sem] theorem Cw:spf 150=false:=rfl
def mdT:Nat→List AV→Md:=fun n a=>match n with
 | 16=>⟨[0],false⟩
 | 27=>⟨[0],false⟩
 | 28=>⟨[0],false⟩
 | 32=>⟨[0],false⟩
 | 53=>⟨[0],false⟩
 | 55=>⟨[0],true⟩
 | 56=>⟨[],true⟩
 | 66=>⟨[0],false⟩
 | 67=>⟨[0],false⟩
 | 82=>⟨[0],true⟩
 | 83=>⟨[0],true⟩
 | 112=>⟨[0],true⟩
 | _=>⟨[],false⟩
@[go_sem] theorem md3 (a:List AV):mdT 3 a=⟨[],false⟩:=rfl
@[go_sem] theorem md4 (a:List AV):mdT 4 a=⟨[],false⟩:=rfl
@[go_sem] theorem md5 (a:List AV):mdT 5 a=⟨[],false⟩:=rfl
@[go_sem] theorem md6 (a:List AV):mdT 6 a=⟨[],false⟩:=rfl
@[go_sem] theorem md7 (a:List AV):mdT 7 a=⟨[],false⟩:=rfl
@[go_sem] theorem md8 (a:List AV):mdT 8 a=⟨[],false⟩:=rfl
@[go_sem] theorem md9 (a:List AV):mdT 9 a=⟨[],false⟩:=rfl
@[go_sem] theorem md10 (a:List AV):mdT 10 a=⟨[],false⟩:=rfl
@[go_sem] theorem md11 (a:List AV):mdT 11 a=⟨[],false⟩:=rfl
@[go_sem] theorem md12 (a:List AV):mdT 12 a=⟨[],false⟩:=rfl
@[go_sem] theorem md13 (a:List AV):mdT 13 a=⟨[],false⟩:=rfl
@[go_sem] theorem md14 (a:List AV):mdT 14 a=⟨[],false⟩:=rfl
@[go_sem] theorem md15 (a:List AV):mdT 15 a=⟨[],false⟩:=rfl
@[go_sem] theorem md16 (a:List AV):mdT 16 a=⟨[0],false⟩:=rfl
@[go_sem] theorem md17 (a:List AV):mdT 17 a=⟨[],false⟩:=rfl
@[go_sem] theorem md18 (a:List AV):mdT 18 a=⟨[],false⟩:=rfl
@[go_sem] theorem md19 (a:List AV):mdT 19 a=⟨[],false⟩:=rfl
@[go_sem] theorem md20 (a:List AV):mdT 20 a=⟨[],false⟩:=rfl
@[go_sem] theorem md21 (a:List AV):mdT 21 a=⟨[],false⟩:=rfl
@[go_sem] theorem md22 (a:List AV):mdT 22 a=⟨[],false⟩:=rfl
@[go_sem] theorem md23 (a:List AV):mdT 23 a=⟨[],false⟩:=rfl
@[go_sem] theorem md24 (a:List AV):mdT 24 a=⟨[],false⟩:=rfl
@[go_sem] theorem md25 (a:List AV):mdT 25 a=⟨[],false⟩:=rfl
@[go_sem] theorem md26 (a:List AV):mdT 26 a=⟨[],false⟩:=rfl
@[go_sem] theorem md27 (a:List AV):mdT 27 a=⟨[0],false⟩:=rfl
@[go_sem] theorem md28 (a:List AV):mdT 28 a=⟨[0],false⟩:=rfl
@[go_sem] theorem md29 (a:List AV):mdT 29 a=⟨[],false⟩:=rfl
@[go_sem] theorem md30 (a:List AV):mdT 30 a=⟨[],false⟩:=rfl
@[go_sem] theorem md31 (a:List AV):mdT 31 a=⟨[],false⟩:=rfl
@[go_sem] theorem md32 (a:List AV):mdT 32 a=⟨[0],false⟩:=rfl
@[go_sem] theorem md33 (a:List AV):mdT 33 a=⟨[],false⟩:=rfl
@[go_sem] theorem md34 (a:List AV):mdT 34 a=⟨[],false⟩:=rfl
@[go_sem] theorem md35 (a:List AV):mdT 35 a=⟨[],false⟩:=rfl
@[go_sem] theorem md36 (a:List AV):mdT 36 a=⟨[],false⟩:=rfl
@[go_sem] theorem md37 (a:List AV):mdT 37 a=⟨[],false⟩:=rfl
@[go_sem] theorem md38 (a:List AV):mdT 38 a=⟨[],false⟩:=rfl
@[go_sem] theorem md39 (a:List AV):mdT 39 a=⟨[],false⟩:=rfl
@[go_sem] theorem md40 (a:List AV):mdT 40 a=⟨[],false⟩:=rfl
@[go_sem] theorem md41 (a:List AV):mdT 41 a=⟨[],false⟩:=rfl
@[go_sem] theorem md42 (a:List AV):mdT 42 a=⟨[],false⟩:=rfl
@[go_sem] theorem md43 (a:List AV):mdT 43 a=⟨[],false⟩:=rfl
@[go_sem] theorem md44 (a:List AV):mdT 44 a=⟨[],false⟩:=rfl
@[go_sem] theorem md45 (a:List AV):mdT 45 a=⟨[],false⟩:=rfl
@[go_sem] theorem md46 (a:List AV):mdT 46 a=⟨[],false⟩:=rfl
@[go_sem] theorem md47 (a:List AV):mdT 47 a=⟨[],false⟩:=rfl
@[go_sem] theorem md48 (a:List AV):mdT 48 a=⟨[],false⟩:=rfl
@[go_sem] theorem md49 (a:List AV):mdT 49 a=⟨[],false⟩:=rfl
@[go_sem] theorem md50 (a:List AV):mdT 50 a=⟨[],false⟩:=rfl
@[go_sem] theorem md51 (a:List AV):mdT 51 a=⟨[],false⟩:=rfl
@[go_sem] theorem md52 (a:List AV):mdT 52 a=⟨[],false⟩:=rfl
@[go_sem] theorem md53 (a:List AV):mdT 53 a=⟨[0],false⟩:=rfl
@[go_sem] theorem md54 (a:List AV):mdT 54 a=⟨[],false⟩:=rfl
@[go_sem] theorem md55 (a:List AV):mdT 55 a=⟨[0],true⟩:=rfl
@[go_sem] theorem md56 (a:List AV):mdT 56 a=⟨[],true⟩:=rfl
@[go_sem] theorem md57 (a:List AV):mdT 57 a=⟨[],false⟩:=rfl
@[go_sem] theorem md58 (a:List AV):mdT 58 a=⟨[],false⟩:=rfl
@[go_sem] theorem md59 (a:List AV):mdT 59 a=⟨[],false⟩:=rfl
@[go_sem] theorem md60 (a:List AV):mdT 60 a=⟨[],false⟩:=rfl
@[go_sem] theorem md61 (a:List AV):mdT 61 a=⟨[],false⟩:=rfl
@[go_sem] theorem md62 (a:List AV):mdT 62 a=⟨[],false⟩:=rfl
@[go_sem] theorem md63 (a:List AV):mdT 63 a=⟨[],false⟩:=rfl
@[go_sem] theorem md64 (a:List AV):mdT 64 a=⟨[],false⟩:=rfl
@[go_sem] theorem md65 (a:List AV):mdT 65 a=⟨[],false⟩:=rfl
@[go_sem] theorem md66 (a:List AV):mdT 66 a=⟨[0],false⟩:=rfl
@[go_sem] theorem md67 (a:List AV):mdT 67 a=⟨[0],false⟩:=rfl
@[go_sem] theorem md68 (a:List AV):mdT 68 a=⟨[],false⟩:=rfl
@[go_sem] theorem md69 (a:List AV):mdT 69 a=⟨[],false⟩:=rfl
@[go_sem] theorem md70 (a:List AV):mdT 70 a=⟨[],false⟩:=rfl
@[go_sem] theorem md71 (a:List AV):mdT 71 a=⟨[],false⟩:=rfl
@[go_sem] theorem md72 (a:List AV):mdT 72 a=⟨[],false⟩:=rfl
@[go_sem] theorem md73 (a:List AV):mdT 73 a=⟨[],false⟩:=rfl
@[go_sem] theorem md74 (a:List AV):mdT 74 a=⟨[],false⟩:=rfl
@[go_sem] theorem md75 (a:List AV):mdT 75 a=⟨[],false⟩:=rfl
@[go_sem] theorem md76 (a:List AV):mdT 76 a=⟨[],false⟩:=rfl
@[go_sem] theorem md77 (a:List AV):mdT 77 a=⟨[],false⟩:=rfl
@[go_sem] theorem md78 (a:List AV):mdT 78 a=⟨[],false⟩:=rfl
@[go_sem] theorem md79 (a:List AV):mdT 79 a=⟨[],false⟩:=rfl
@[go_sem] theorem md80 (a:List AV):mdT 80 a=⟨[],false⟩:=rfl
@[go_sem] theorem md82 (a:List AV):mdT 82 a=⟨[0],true⟩:=rfl
@[go_sem] theorem md83 (a:List AV):mdT 83 a=⟨[0],true⟩:=rfl
@[go_sem] theorem md85 (a:List AV):mdT 85 a=⟨[],false⟩:=rfl
@[go_sem] theorem md86 (a:List AV):mdT 86 a=⟨[],false⟩:=rfl
@[go_sem] theorem md87 (a:List AV):mdT 87 a=⟨[],false⟩:=rfl
@[go_sem] theorem md88 (a:List AV):mdT 88 a=⟨[],false⟩:=rfl
@[go_sem] theorem md89 (a:List AV):mdT 89 a=⟨[],false⟩:=rfl
@[go_sem] theorem md90 (a:List AV):mdT 90 a=⟨[],false⟩:=rfl
@[go_sem] theorem md91 (a:List AV):mdT 91 a=⟨[],false⟩:=rfl
@[go_sem] theorem md92 (a:List AV):mdT 92 a=⟨[],false⟩:=rfl
@[go_sem] theorem md93 (a:List AV):mdT 93 a=⟨[],false⟩:=rfl
@[go_sem] theorem md94 (a:List AV):mdT 94 a=⟨[],false⟩:=rfl
@[go_sem] theorem md95 (a:List AV):mdT 95 a=⟨[],false⟩:=rfl
@[go_sem] theorem md96 (a:List AV):mdT 96 a=⟨[],false⟩:=rfl
@[go_sem] theorem md97 (a:List AV):mdT 97 a=⟨[],false⟩:=rfl
@[go_sem] theorem md98 (a:List AV):mdT 98 a=⟨[],false⟩:=rfl
@[go_sem] theorem md99 (a:List AV):mdT 99 a=⟨[],false⟩:=rfl
@[go_sem] theorem CB (a:List AV):mdT 100 a=⟨[],false⟩:=rfl
@[go_sem] theorem CC (a:List AV):mdT 101 a=⟨[],false⟩:=rfl
@[go_sem] theorem CD (a:List AV):mdT 102 a=⟨[],false⟩:=rfl
@[go_sem] theorem CE (a:List AV):mdT 103 a=⟨[],false⟩:=rfl
@[go_sem] theorem CF (a:List AV):mdT 104 a=⟨[],false⟩:=rfl
@[go_sem] theorem CG (a:List AV):mdT 112 a=⟨[0],true⟩:=rfl
@[go_sem] theorem CH (a:List AV):mdT 114 a=⟨[],false⟩:=rfl
@[go_sem] theorem CI (a:List AV):mdT 115 a=⟨[],false⟩:=rfl
@[go_sem] theorem CJ (a:List AV):mdT 116 a=⟨[],false⟩:=rfl
@[go_sem] theorem CK (a:List AV):mdT 117 a=⟨[],false⟩:=rfl
@[go_sem] theorem CL (a:List AV):mdT 118 a=⟨[],false⟩:=rfl
@[go_sem] theorem CM (a:List AV):mdT 119 a=⟨[],false⟩:=rfl
@[go_sem] theorem CN (a:List AV):mdT 120 a=⟨[],false⟩:=rfl
@[go_sem] theorem CO (a:List AV):mdT 121 a=⟨[],false⟩:=rfl
@[go_sem] theorem CP (a:List AV):mdT 122 a=⟨[],false⟩:=rfl
@[go_sem] theorem CQ (a:List AV):mdT 123 a=⟨[],false⟩:=rfl
@[go_sem] theorem CR (a:List AV):mdT 124 a=⟨[],false⟩:=rfl
@[go_sem] theorem CS (a:List AV):mdT 125 a=⟨[],false⟩:=rfl
@[go_sem] theorem CT (a:List AV):mdT 126 a=⟨[],false⟩:=rfl
@[go_sem] theorem CU (a:List AV):mdT 127 a=⟨[],false⟩:=rfl
@[go_sem] theorem CV (a:List AV):mdT 128 a=⟨[],false⟩:=rfl
@[go_sem] theorem CW (a:List AV):mdT 129 a=⟨[],false⟩:=rfl
@[go_sem] theorem CX (a:List AV):mdT 130 a=⟨[],false⟩:=rfl
@[go_sem] theorem CY (a:List AV):mdT 143 a=⟨[],false⟩:=rfl
@[go_sem] theorem CZ (a:List AV):mdT 144 a=⟨[],false⟩:=rfl
@[go_sem] theorem Da (a:List AV):mdT 145 a=⟨[],false⟩:=rfl
@[go_sem] theorem Db (a:List AV):mdT 146 a=⟨[],false⟩:=rfl
@[go_sem] theorem Dc (a:List AV):mdT 147 a=⟨[],false⟩:=rfl
@[go_sem] theorem Dd (a:List AV):mdT 148 a=⟨[],false⟩:=rfl
@[go_sem] theorem De (a:List AV):mdT 149 a=⟨[],false⟩:=rfl
@[go_sem] theorem Df (a:List AV):mdT 150 a=⟨[],false⟩:=rfl
end Go.Proofs.Qa
