/- The things of the program. -/
import Derived.Test.YtpkcmjnlnbddbaaGreatDoorXbT
import Derived.Test.YtpkcmjnlnbddbaaGreatDoorXb33
set_option linter.all false
set_option maxRecDepth 100000
set_option maxHeartbeats 400000
namespace Go.Proofs.Qb
open Go
structure GNode where
 name:ByteArray
 label:List Int
 watch:Int
 deriving DecidableEq
def GNode.encS (x:GNode):List AV:=[.lit (.string x.name),.sl (ab eI x.label),.lit (.int .i64 x.watch)]
theorem Cd (xs:List GNode)(a0:ByteArray)(a1:List Int)(a2:Int):ab GNode.encS xs++[[.lit (.string a0),.sl (ab eI a1),.lit (.int .i64 a2)]]=ab GNode.encS (xs++[(GNode.mk a0 a1 a2)]):=au (e:=GNode.encS) xs (GNode.mk a0 a1 a2)
theorem Dm (xs:List GNode)(i:Nat)(a0:ByteArray)(a1:List Int)(a2:Int):(ab GNode.encS xs).set i [.lit (.string a0),.sl (ab eI a1),.lit (.int .i64 a2)]=ab GNode.encS (xs.set i (GNode.mk a0 a1 a2)):=aT (e:=GNode.encS) xs i (GNode.mk a0 a1 a2)
theorem Dn (xs:List GNode):(ab GNode.encS xs).all (fun r=>r.length == 3)=true:=aV (e:=GNode.encS) (fun _=>rfl) xs
theorem Do (a0:ByteArray)(a1:List Int)(a2:Int):[[.lit (.string a0),.sl (ab eI a1),.lit (.int .i64 a2)]]=ab GNode.encS [(GNode.mk a0 a1 a2)]:=rfl
theorem Ce (xs:List GNode)(a0:ByteArray)(a1:List Int)(a2:Int):[.lit (.string a0),.sl (ab eI a1),.lit (.int .i64 a2)]::ab GNode.encS xs=ab GNode.encS ((GNode.mk a0 a1 a2)::xs):=rfl
theorem xT (xs:List GNode)(a0:ByteArray)(a2:Int):ab GNode.encS xs++[[.lit (.string a0),.sl [],.lit (.int .i64 a2)]]=ab GNode.encS (xs++[(GNode.mk a0 [] a2)]):=au (e:=GNode.encS) xs (GNode.mk a0 [] a2)
theorem zM (a0:ByteArray)(a2:Int):[[.lit (.string a0),.sl [],.lit (.int .i64 a2)]]=ab GNode.encS [(GNode.mk a0 [] a2)]:=rfl
theorem xU (xs:List GNode)(a0:ByteArray)(a2:Int):[.lit (.string a0),.sl [],.lit (.int .i64 a2)]::ab GNode.encS xs=ab GNode.encS ((GNode.mk a0 [] a2)::xs):=rfl
attribute [go_sem] GNode.encS Cd Dm Dn Do Ce xT zM xU
def GNode.encO (x:GNode):List AV:=[.lit (.string x.name),.own (ab eI x.label),.lit (.int .i64 x.watch)]
theorem Cf (xs:List GNode)(a0:ByteArray)(a1:List Int)(a2:Int):ab GNode.encO xs++[[.lit (.string a0),.own (ab eI a1),.lit (.int .i64 a2)]]=ab GNode.encO (xs++[(GNode.mk a0 a1 a2)]):=au (e:=GNode.encO) xs (GNode.mk a0 a1 a2)
theorem Dp (xs:List GNode)(i:Nat)(a0:ByteArray)(a1:List Int)(a2:Int):(ab GNode.encO xs).set i [.lit (.string a0),.own (ab eI a1),.lit (.int .i64 a2)]=ab GNode.encO (xs.set i (GNode.mk a0 a1 a2)):=aT (e:=GNode.encO) xs i (GNode.mk a0 a1 a2)
theorem Dq (xs:List GNode):(ab GNode.encO xs).all (fun r=>r.length == 3)=true:=aV (e:=GNode.encO) (fun _=>rfl) xs
theorem Dr (a0:ByteArray)(a1:List Int)(a2:Int):[[.lit (.string a0),.own (ab eI a1),.lit (.int .i64 a2)]]=ab GNode.encO [(GNode.mk a0 a1 a2)]:=rfl
theorem Cg (xs:List GNode)(a0:ByteArray)(a1:List Int)(a2:Int):[.lit (.string a0),.own (ab eI a1),.lit (.int .i64 a2)]::ab GNode.encO xs=ab GNode.encO ((GNode.mk a0 a1 a2)::xs):=rfl
theorem Ds (xs:List GNode):frsR (ab GNode.encO xs)=true:=bR (e:=GNode.encO) (fun x=>by simp only [go_sem,GNode.encO]) xs
theorem Ch (xs:List GNode):bM (ab GNode.encO xs)=ab GNode.encS xs:=bz (e:=GNode.encO) (fun x=>by simp only [go_sem,dV,toSl,GNode.encO,GNode.encS]) xs
theorem Dt (n:Nat):List.replicate n [.lit (.string (ByteArray.mk #[])),.own [],.lit (.int .i64 0)]=ab GNode.encO (List.replicate n (GNode.mk (ByteArray.mk #[]) ([]) 0)):=aS (e:=GNode.encO) n (GNode.mk (ByteArray.mk #[]) ([]) 0)
theorem xV (xs:List GNode)(a0:ByteArray)(a2:Int):ab GNode.encO xs++[[.lit (.string a0),.own [],.lit (.int .i64 a2)]]=ab GNode.encO (xs++[(GNode.mk a0 [] a2)]):=au (e:=GNode.encO) xs (GNode.mk a0 [] a2)
theorem zN (a0:ByteArray)(a2:Int):[[.lit (.string a0),.own [],.lit (.int .i64 a2)]]=ab GNode.encO [(GNode.mk a0 [] a2)]:=rfl
theorem xW (xs:List GNode)(a0:ByteArray)(a2:Int):[.lit (.string a0),.own [],.lit (.int .i64 a2)]::ab GNode.encO xs=ab GNode.encO ((GNode.mk a0 [] a2)::xs):=rfl
attribute [go_sem] GNode.encO Cf Dp Dq Dr Cg Ds Ch Dt xV zN xW
structure GTie where
 from_:Int
 to:Int
 low:Int
 high:Int
 free:Bool
 deriving DecidableEq
def GTie.enc (x:GTie):List AV:=[.lit (.int .i64 x.from_),.lit (.int .i64 x.to),.lit (.int .i64 x.low),.lit (.int .i64 x.high),.lit (.bool x.free)]
theorem EO (xs:List GTie)(a0 a1 a2 a3:Int)(a4:Bool):ab GTie.enc xs++[[.lit (.int .i64 a0),.lit (.int .i64 a1),.lit (.int .i64 a2),.lit (.int .i64 a3),.lit (.bool a4)]]=ab GTie.enc (xs++[(GTie.mk a0 a1 a2 a3 a4)]):=au (e:=GTie.enc) xs (GTie.mk a0 a1 a2 a3 a4)
theorem HC (xs:List GTie)(i:Nat)(a0 a1 a2 a3:Int)(a4:Bool):(ab GTie.enc xs).set i [.lit (.int .i64 a0),.lit (.int .i64 a1),.lit (.int .i64 a2),.lit (.int .i64 a3),.lit (.bool a4)]=ab GTie.enc (xs.set i (GTie.mk a0 a1 a2 a3 a4)):=aT (e:=GTie.enc) xs i (GTie.mk a0 a1 a2 a3 a4)
theorem HD (xs:List GTie):(ab GTie.enc xs).all (fun r=>r.length == 5)=true:=aV (e:=GTie.enc) (fun _=>rfl) xs
theorem HE (a0 a1 a2 a3:Int)(a4:Bool):[[.lit (.int .i64 a0),.lit (.int .i64 a1),.lit (.int .i64 a2),.lit (.int .i64 a3),.lit (.bool a4)]]=ab GTie.enc [(GTie.mk a0 a1 a2 a3 a4)]:=rfl
theorem EP (xs:List GTie)(a0 a1 a2 a3:Int)(a4:Bool):[.lit (.int .i64 a0),.lit (.int .i64 a1),.lit (.int .i64 a2),.lit (.int .i64 a3),.lit (.bool a4)]::ab GTie.enc xs=ab GTie.enc ((GTie.mk a0 a1 a2 a3 a4)::xs):=rfl
theorem HF (xs:List GTie):frsR (ab GTie.enc xs)=true:=bR (e:=GTie.enc) (fun x=>by simp only [go_sem,GTie.enc]) xs
theorem EQ (xs:List GTie):bM (ab GTie.enc xs)=ab GTie.enc xs:=bz (e:=GTie.enc) (fun x=>by simp only [go_sem,dV,toSl,GTie.enc]) xs
theorem HG (n:Nat):List.replicate n [.lit (.int .i64 0),.lit (.int .i64 0),.lit (.int .i64 0),.lit (.int .i64 0),.lit (.bool false)]=ab GTie.enc (List.replicate n (GTie.mk 0 0 0 0 false)):=aS (e:=GTie.enc) n (GTie.mk 0 0 0 0 false)
attribute [go_sem] GTie.enc EO HC HD HE EP HF EQ HG
structure GShow where
 nodes:List GNode
 ties:List GTie
 horizon:Int
 deriving DecidableEq
def GShow.encS (x:GShow):List AV:=[.sl (ab GNode.encS x.nodes),.sl (ab GTie.enc x.ties),.lit (.int .i64 x.horizon)]
theorem Ci (xs:List GShow)(a0:List GNode)(a1:List GTie)(a2:Int):ab GShow.encS xs++[[.sl (ab GNode.encS a0),.sl (ab GTie.enc a1),.lit (.int .i64 a2)]]=ab GShow.encS (xs++[(GShow.mk a0 a1 a2)]):=au (e:=GShow.encS) xs (GShow.mk a0 a1 a2)
theorem Du (xs:List GShow)(i:Nat)(a0:List GNode)(a1:List GTie)(a2:Int):(ab GShow.encS xs).set i [.sl (ab GNode.encS a0),.sl (ab GTie.enc a1),.lit (.int .i64 a2)]=ab GShow.encS (xs.set i (GShow.mk a0 a1 a2)):=aT (e:=GShow.encS) xs i (GShow.mk a0 a1 a2)
theorem Dv (xs:List GShow):(ab GShow.encS xs).all (fun r=>r.length == 3)=true:=aV (e:=GShow.encS) (fun _=>rfl) xs
theorem Dw (a0:List GNode)(a1:List GTie)(a2:Int):[[.sl (ab GNode.encS a0),.sl (ab GTie.enc a1),.lit (.int .i64 a2)]]=ab GShow.encS [(GShow.mk a0 a1 a2)]:=rfl
theorem Cj (xs:List GShow)(a0:List GNode)(a1:List GTie)(a2:Int):[.sl (ab GNode.encS a0),.sl (ab GTie.enc a1),.lit (.int .i64 a2)]::ab GShow.encS xs=ab GShow.encS ((GShow.mk a0 a1 a2)::xs):=rfl
theorem xX (xs:List GShow)(a1:List GTie)(a2:Int):ab GShow.encS xs++[[.sl [],.sl (ab GTie.enc a1),.lit (.int .i64 a2)]]=ab GShow.encS (xs++[(GShow.mk [] a1 a2)]):=au (e:=GShow.encS) xs (GShow.mk [] a1 a2)
theorem zO (a1:List GTie)(a2:Int):[[.sl [],.sl (ab GTie.enc a1),.lit (.int .i64 a2)]]=ab GShow.encS [(GShow.mk [] a1 a2)]:=rfl
theorem xY (xs:List GShow)(a1:List GTie)(a2:Int):[.sl [],.sl (ab GTie.enc a1),.lit (.int .i64 a2)]::ab GShow.encS xs=ab GShow.encS ((GShow.mk [] a1 a2)::xs):=rfl
theorem xZ (xs:List GShow)(a0:List GNode)(a2:Int):ab GShow.encS xs++[[.sl (ab GNode.encS a0),.sl [],.lit (.int .i64 a2)]]=ab GShow.encS (xs++[(GShow.mk a0 [] a2)]):=au (e:=GShow.encS) xs (GShow.mk a0 [] a2)
theorem zP (a0:List GNode)(a2:Int):[[.sl (ab GNode.encS a0),.sl [],.lit (.int .i64 a2)]]=ab GShow.encS [(GShow.mk a0 [] a2)]:=rfl
theorem ya (xs:List GShow)(a0:List GNode)(a2:Int):[.sl (ab GNode.encS a0),.sl [],.lit (.int .i64 a2)]::ab GShow.encS xs=ab GShow.encS ((GShow.mk a0 [] a2)::xs):=rfl
theorem yb (xs:List GShow)(a2:Int):ab GShow.encS xs++[[.sl [],.sl [],.lit (.int .i64 a2)]]=ab GShow.encS (xs++[(GShow.mk [] [] a2)]):=au (e:=GShow.encS) xs (GShow.mk [] [] a2)
theorem zQ (a2:Int):[[.sl [],.sl [],.lit (.int .i64 a2)]]=ab GShow.encS [(GShow.mk [] [] a2)]:=rfl
theorem yc (xs:List GShow)(a2:Int):[.sl [],.sl [],.lit (.int .i64 a2)]::ab GShow.encS xs=ab GShow.encS ((GShow.mk [] [] a2)::xs):=rfl
attribute [go_sem] GShow.encS Ci Du Dv Dw Cj xX zO xY xZ zP ya yb zQ yc
def GShow.encO (x:GShow):List AV:=[.own (ab GNode.encO x.nodes),.own (ab GTie.enc x.ties),.lit (.int .i64 x.horizon)]
theorem Ck (xs:List GShow)(a0:List GNode)(a1:List GTie)(a2:Int):ab GShow.encO xs++[[.own (ab GNode.encO a0),.own (ab GTie.enc a1),.lit (.int .i64 a2)]]=ab GShow.encO (xs++[(GShow.mk a0 a1 a2)]):=au (e:=GShow.encO) xs (GShow.mk a0 a1 a2)
theorem Dx (xs:List GShow)(i:Nat)(a0:List GNode)(a1:List GTie)(a2:Int):(ab GShow.encO xs).set i [.own (ab GNode.encO a0),.own (ab GTie.enc a1),.lit (.int .i64 a2)]=ab GShow.encO (xs.set i (GShow.mk a0 a1 a2)):=aT (e:=GShow.encO) xs i (GShow.mk a0 a1 a2)
theorem Dy (xs:List GShow):(ab GShow.encO xs).all (fun r=>r.length == 3)=true:=aV (e:=GShow.encO) (fun _=>rfl) xs
theorem Dz (a0:List GNode)(a1:List GTie)(a2:Int):[[.own (ab GNode.encO a0),.own (ab GTie.enc a1),.lit (.int .i64 a2)]]=ab GShow.encO [(GShow.mk a0 a1 a2)]:=rfl
theorem Cl (xs:List GShow)(a0:List GNode)(a1:List GTie)(a2:Int):[.own (ab GNode.encO a0),.own (ab GTie.enc a1),.lit (.int .i64 a2)]::ab GShow.encO xs=ab GShow.encO ((GShow.mk a0 a1 a2)::xs):=rfl
theorem DA (xs:List GShow):frsR (ab GShow.encO xs)=true:=bR (e:=GShow.encO) (fun x=>by simp only [go_sem,GShow.encO]) xs
theorem Cm (xs:List GShow):bM (ab GShow.encO xs)=ab GShow.encS xs:=bz (e:=GShow.encO) (fun x=>by simp only [go_sem,dV,toSl,GShow.encO,GShow.encS]) xs
theorem DB (n:Nat):List.replicate n [.own [],.own [],.lit (.int .i64 0)]=ab GShow.encO (List.replicate n (GShow.mk ([]) ([]) 0)):=aS (e:=GShow.encO) n (GShow.mk ([]) ([]) 0)
theorem yd (xs:List GShow)(a1:List GTie)(a2:Int):ab GShow.encO xs++[[.own [],.own (ab GTie.enc a1),.lit (.int .i64 a2)]]=ab GShow.encO (xs++[(GShow.mk [] a1 a2)]):=au (e:=GShow.encO) xs (GShow.mk [] a1 a2)
theorem zR (a1:List GTie)(a2:Int):[[.own [],.own (ab GTie.enc a1),.lit (.int .i64 a2)]]=ab GShow.encO [(GShow.mk [] a1 a2)]:=rfl
theorem ye (xs:List GShow)(a1:List GTie)(a2:Int):[.own [],.own (ab GTie.enc a1),.lit (.int .i64 a2)]::ab GShow.encO xs=ab GShow.encO ((GShow.mk [] a1 a2)::xs):=rfl
theorem yf (xs:List GShow)(a0:List GNode)(a2:Int):ab GShow.encO xs++[[.own (ab GNode.encO a0),.own [],.lit (.int .i64 a2)]]=ab GShow.encO (xs++[(GShow.mk a0 [] a2)]):=au (e:=GShow.encO) xs (GShow.mk a0 [] a2)
theorem zS (a0:List GNode)(a2:Int):[[.own (ab GNode.encO a0),.own [],.lit (.int .i64 a2)]]=ab GShow.encO [(GShow.mk a0 [] a2)]:=rfl
theorem yg (xs:List GShow)(a0:List GNode)(a2:Int):[.own (ab GNode.encO a0),.own [],.lit (.int .i64 a2)]::ab GShow.encO xs=ab GShow.encO ((GShow.mk a0 [] a2)::xs):=rfl
theorem yh (xs:List GShow)(a2:Int):ab GShow.encO xs++[[.own [],.own [],.lit (.int .i64 a2)]]=ab GShow.encO (xs++[(GShow.mk [] [] a2)]):=au (e:=GShow.encO) xs (GShow.mk [] [] a2)
theorem zT (a2:Int):[[.own [],.own [],.lit (.int .i64 a2)]]=ab GShow.encO [(GShow.mk [] [] a2)]:=rfl
theorem yi (xs:List GShow)(a2:Int):[.own [],.own [],.lit (.int .i64 a2)]::ab GShow.encO xs=ab GShow.encO ((GShow.mk [] [] a2)::xs):=rfl
attribute [go_sem] GShow.encO Ck Dx Dy Dz Cl DA Cm DB yd zR ye yf zS yg yh zT yi
structure GChoice where
 lengths:List Int
 values:List Int
 deriving DecidableEq
def GChoice.encS (x:GChoice):List AV:=[.sl (ab eI x.lengths),.sl (ab eI x.values)]
theorem yj (xs:List GChoice)(a0 a1:List Int):ab GChoice.encS xs++[[.sl (ab eI a0),.sl (ab eI a1)]]=ab GChoice.encS (xs++[(GChoice.mk a0 a1)]):=au (e:=GChoice.encS) xs (GChoice.mk a0 a1)
theorem zU (xs:List GChoice)(i:Nat)(a0 a1:List Int):(ab GChoice.encS xs).set i [.sl (ab eI a0),.sl (ab eI a1)]=ab GChoice.encS (xs.set i (GChoice.mk a0 a1)):=aT (e:=GChoice.encS) xs i (GChoice.mk a0 a1)
theorem zV (xs:List GChoice):(ab GChoice.encS xs).all (fun r=>r.length == 2)=true:=aV (e:=GChoice.encS) (fun _=>rfl) xs
theorem zW (a0 a1:List Int):[[.sl (ab eI a0),.sl (ab eI a1)]]=ab GChoice.encS [(GChoice.mk a0 a1)]:=rfl
theorem yk (xs:List GChoice)(a0 a1:List Int):[.sl (ab eI a0),.sl (ab eI a1)]::ab GChoice.encS xs=ab GChoice.encS ((GChoice.mk a0 a1)::xs):=rfl
theorem vl (xs:List GChoice)(a1:List Int):ab GChoice.encS xs++[[.sl [],.sl (ab eI a1)]]=ab GChoice.encS (xs++[(GChoice.mk [] a1)]):=au (e:=GChoice.encS) xs (GChoice.mk [] a1)
theorem wE (a1:List Int):[[.sl [],.sl (ab eI a1)]]=ab GChoice.encS [(GChoice.mk [] a1)]:=rfl
theorem vm (xs:List GChoice)(a1:List Int):[.sl [],.sl (ab eI a1)]::ab GChoice.encS xs=ab GChoice.encS ((GChoice.mk [] a1)::xs):=rfl
theorem vn (xs:List GChoice)(a0:List Int):ab GChoice.encS xs++[[.sl (ab eI a0),.sl []]]=ab GChoice.encS (xs++[(GChoice.mk a0 [])]):=au (e:=GChoice.encS) xs (GChoice.mk a0 [])
theorem wF (a0:List Int):[[.sl (ab eI a0),.sl []]]=ab GChoice.encS [(GChoice.mk a0 [])]:=rfl
theorem vp (xs:List GChoice)(a0:List Int):[.sl (ab eI a0),.sl []]::ab GChoice.encS xs=ab GChoice.encS ((GChoice.mk a0 [])::xs):=rfl
theorem vq (xs:List GChoice)  : ab GChoice.encS xs++[[.sl [],.sl []]]=ab GChoice.encS (xs++[(GChoice.mk [] [])]):=au (e:=GChoice.encS) xs (GChoice.mk [] [])
theorem wG  : [[.sl [],.sl []]]=ab GChoice.encS [(GChoice.mk [] [])]:=rfl
theorem vt (xs:List GChoice)  : [.sl [],.sl []]::ab GChoice.encS xs=ab GChoice.encS ((GChoice.mk [] [])::xs):=rfl
attribute [go_sem] GChoice.encS yj zU zV zW yk vl wE vm vn wF vp vq wG vt
def GChoice.encO (x:GChoice):List AV:=[.own (ab eI x.lengths),.own (ab eI x.values)]
theorem yl (xs:List GChoice)(a0 a1:List Int):ab GChoice.encO xs++[[.own (ab eI a0),.own (ab eI a1)]]=ab GChoice.encO (xs++[(GChoice.mk a0 a1)]):=au (e:=GChoice.encO) xs (GChoice.mk a0 a1)
theorem zX (xs:List GChoice)(i:Nat)(a0 a1:List Int):(ab GChoice.encO xs).set i [.own (ab eI a0),.own (ab eI a1)]=ab GChoice.encO (xs.set i (GChoice.mk a0 a1)):=aT (e:=GChoice.encO) xs i (GChoice.mk a0 a1)
theorem zY (xs:List GChoice):(ab GChoice.encO xs).all (fun r=>r.length == 2)=true:=aV (e:=GChoice.encO) (fun _=>rfl) xs
theorem zZ (a0 a1:List Int):[[.own (ab eI a0),.own (ab eI a1)]]=ab GChoice.encO [(GChoice.mk a0 a1)]:=rfl
theorem ym (xs:List GChoice)(a0 a1:List Int):[.own (ab eI a0),.own (ab eI a1)]::ab GChoice.encO xs=ab GChoice.encO ((GChoice.mk a0 a1)::xs):=rfl
theorem Aa (xs:List GChoice):frsR (ab GChoice.encO xs)=true:=bR (e:=GChoice.encO) (fun x=>by simp only [go_sem,GChoice.encO]) xs
theorem yn (xs:List GChoice):bM (ab GChoice.encO xs)=ab GChoice.encS xs:=bz (e:=GChoice.encO) (fun x=>by simp only [go_sem,dV,toSl,GChoice.encO,GChoice.encS]) xs
theorem Ab (n:Nat):List.replicate n [.own [],.own []]=ab GChoice.encO (List.replicate n (GChoice.mk ([]) ([]))):=aS (e:=GChoice.encO) n (GChoice.mk ([]) ([]))
theorem vu (xs:List GChoice)(a1:List Int):ab GChoice.encO xs++[[.own [],.own (ab eI a1)]]=ab GChoice.encO (xs++[(GChoice.mk [] a1)]):=au (e:=GChoice.encO) xs (GChoice.mk [] a1)
theorem wH (a1:List Int):[[.own [],.own (ab eI a1)]]=ab GChoice.encO [(GChoice.mk [] a1)]:=rfl
theorem vw (xs:List GChoice)(a1:List Int):[.own [],.own (ab eI a1)]::ab GChoice.encO xs=ab GChoice.encO ((GChoice.mk [] a1)::xs):=rfl
theorem vx (xs:List GChoice)(a0:List Int):ab GChoice.encO xs++[[.own (ab eI a0),.own []]]=ab GChoice.encO (xs++[(GChoice.mk a0 [])]):=au (e:=GChoice.encO) xs (GChoice.mk a0 [])
theorem wI (a0:List Int):[[.own (ab eI a0),.own []]]=ab GChoice.encO [(GChoice.mk a0 [])]:=rfl
theorem vy (xs:List GChoice)(a0:List Int):[.own (ab eI a0),.own []]::ab GChoice.encO xs=ab GChoice.encO ((GChoice.mk a0 [])::xs):=rfl
theorem vz (xs:List GChoice)  : ab GChoice.encO xs++[[.own [],.own []]]=ab GChoice.encO (xs++[(GChoice.mk [] [])]):=au (e:=GChoice.encO) xs (GChoice.mk [] [])
theorem wJ  : [[.own [],.own []]]=ab GChoice.encO [(GChoice.mk [] [])]:=rfl
theorem vA (xs:List GChoice)  : [.own [],.own []]::ab GChoice.encO xs=ab GChoice.encO ((GChoice.mk [] [])::xs):=rfl
attribute [go_sem] GChoice.encO yl zX zY zZ ym Aa yn Ab vu wH vw vx wI vy vz wJ vA
structure aB where
 low:Int
 high:Int
 deriving DecidableEq
def aB.enc (x:aB):List AV:=[.lit (.int .i64 x.low),.lit (.int .i64 x.high)]
theorem rm (xs:List aB)(a0 a1:Int):ab aB.enc xs++[[.lit (.int .i64 a0),.lit (.int .i64 a1)]]=ab aB.enc (xs++[(aB.mk a0 a1)]):=au (e:=aB.enc) xs (aB.mk a0 a1)
theorem yo (xs:List aB)(i:Nat)(a0 a1:Int):(ab aB.enc xs).set i [.lit (.int .i64 a0),.lit (.int .i64 a1)]=ab aB.enc (xs.set i (aB.mk a0 a1)):=aT (e:=aB.enc) xs i (aB.mk a0 a1)
theorem yp (xs:List aB):(ab aB.enc xs).all (fun r=>r.length == 2)=true:=aV (e:=aB.enc) (fun _=>rfl) xs
theorem yq (a0 a1:Int):[[.lit (.int .i64 a0),.lit (.int .i64 a1)]]=ab aB.enc [(aB.mk a0 a1)]:=rfl
theorem wK (xs:List aB)(a0 a1:Int):[.lit (.int .i64 a0),.lit (.int .i64 a1)]::ab aB.enc xs=ab aB.enc ((aB.mk a0 a1)::xs):=rfl
theorem yr (xs:List aB):frsR (ab aB.enc xs)=true:=bR (e:=aB.enc) (fun x=>by simp only [go_sem,aB.enc]) xs
theorem wL (xs:List aB):bM (ab aB.enc xs)=ab aB.enc xs:=bz (e:=aB.enc) (fun x=>by simp only [go_sem,dV,toSl,aB.enc]) xs
theorem yu (n:Nat):List.replicate n [.lit (.int .i64 0),.lit (.int .i64 0)]=ab aB.enc (List.replicate n (aB.mk 0 0)):=aS (e:=aB.enc) n (aB.mk 0 0)
attribute [go_sem] aB.enc rm yo yp yq wK yr wL yu
structure GLink where
 from_:Int
 to:Int
 span:aB
 deriving DecidableEq
def GLink.enc (x:GLink):List AV:=[.lit (.int .i64 x.from_),.lit (.int .i64 x.to),.lit (.int .i64 x.span.low),.lit (.int .i64 x.span.high)]
theorem DC (xs:List GLink)(a0 a1 a2 a3:Int):ab GLink.enc xs++[[.lit (.int .i64 a0),.lit (.int .i64 a1),.lit (.int .i64 a2),.lit (.int .i64 a3)]]=ab GLink.enc (xs++[(GLink.mk a0 a1 (aB.mk a2 a3))]):=au (e:=GLink.enc) xs (GLink.mk a0 a1 (aB.mk a2 a3))
theorem ER (xs:List GLink)(i:Nat)(a0 a1 a2 a3:Int):(ab GLink.enc xs).set i [.lit (.int .i64 a0),.lit (.int .i64 a1),.lit (.int .i64 a2),.lit (.int .i64 a3)]=ab GLink.enc (xs.set i (GLink.mk a0 a1 (aB.mk a2 a3))):=aT (e:=GLink.enc) xs i (GLink.mk a0 a1 (aB.mk a2 a3))
theorem ES (xs:List GLink):(ab GLink.enc xs).all (fun r=>r.length == 4)=true:=aV (e:=GLink.enc) (fun _=>rfl) xs
theorem ET (a0 a1 a2 a3:Int):[[.lit (.int .i64 a0),.lit (.int .i64 a1),.lit (.int .i64 a2),.lit (.int .i64 a3)]]=ab GLink.enc [(GLink.mk a0 a1 (aB.mk a2 a3))]:=rfl
theorem DD (xs:List GLink)(a0 a1 a2 a3:Int):[.lit (.int .i64 a0),.lit (.int .i64 a1),.lit (.int .i64 a2),.lit (.int .i64 a3)]::ab GLink.enc xs=ab GLink.enc ((GLink.mk a0 a1 (aB.mk a2 a3))::xs):=rfl
theorem EU (xs:List GLink):frsR (ab GLink.enc xs)=true:=bR (e:=GLink.enc) (fun x=>by simp only [go_sem,GLink.enc]) xs
theorem DE (xs:List GLink):bM (ab GLink.enc xs)=ab GLink.enc xs:=bz (e:=GLink.enc) (fun x=>by simp only [go_sem,dV,toSl,GLink.enc]) xs
theorem EV (n:Nat):List.replicate n [.lit (.int .i64 0),.lit (.int .i64 0),.lit (.int .i64 0),.lit (.int .i64 0)]=ab GLink.enc (List.replicate n (GLink.mk 0 0 (aB.mk 0 0))):=aS (e:=GLink.enc) n (GLink.mk 0 0 (aB.mk 0 0))
attribute [go_sem] GLink.enc DC ER ES ET DD EU DE EV
structure ao where
 events:Int
 links:List GLink
 deriving DecidableEq
def ao.encS (x:ao):List AV:=[.lit (.int .i64 x.events),.sl (ab GLink.enc x.links)]
theorem yw (xs:List ao)(a0:Int)(a1:List GLink):ab ao.encS xs++[[.lit (.int .i64 a0),.sl (ab GLink.enc a1)]]=ab ao.encS (xs++[(ao.mk a0 a1)]):=au (e:=ao.encS) xs (ao.mk a0 a1)
theorem Ac (xs:List ao)(i:Nat)(a0:Int)(a1:List GLink):(ab ao.encS xs).set i [.lit (.int .i64 a0),.sl (ab GLink.enc a1)]=ab ao.encS (xs.set i (ao.mk a0 a1)):=aT (e:=ao.encS) xs i (ao.mk a0 a1)
theorem Ad (xs:List ao):(ab ao.encS xs).all (fun r=>r.length == 2)=true:=aV (e:=ao.encS) (fun _=>rfl) xs
theorem Ae (a0:Int)(a1:List GLink):[[.lit (.int .i64 a0),.sl (ab GLink.enc a1)]]=ab ao.encS [(ao.mk a0 a1)]:=rfl
theorem yx (xs:List ao)(a0:Int)(a1:List GLink):[.lit (.int .i64 a0),.sl (ab GLink.enc a1)]::ab ao.encS xs=ab ao.encS ((ao.mk a0 a1)::xs):=rfl
theorem vB (xs:List ao)(a0:Int):ab ao.encS xs++[[.lit (.int .i64 a0),.sl []]]=ab ao.encS (xs++[(ao.mk a0 [])]):=au (e:=ao.encS) xs (ao.mk a0 [])
theorem wM (a0:Int):[[.lit (.int .i64 a0),.sl []]]=ab ao.encS [(ao.mk a0 [])]:=rfl
theorem vC (xs:List ao)(a0:Int):[.lit (.int .i64 a0),.sl []]::ab ao.encS xs=ab ao.encS ((ao.mk a0 [])::xs):=rfl
attribute [go_sem] ao.encS yw Ac Ad Ae yx vB wM vC
def ao.encO (x:ao):List AV:=[.lit (.int .i64 x.events),.own (ab GLink.enc x.links)]
theorem yy (xs:List ao)(a0:Int)(a1:List GLink):ab ao.encO xs++[[.lit (.int .i64 a0),.own (ab GLink.enc a1)]]=ab ao.encO (xs++[(ao.mk a0 a1)]):=au (e:=ao.encO) xs (ao.mk a0 a1)
theorem Af (xs:List ao)(i:Nat)(a0:Int)(a1:List GLink):(ab ao.encO xs).set i [.lit (.int .i64 a0),.own (ab GLink.enc a1)]=ab ao.encO (xs.set i (ao.mk a0 a1)):=aT (e:=ao.encO) xs i (ao.mk a0 a1)
theorem Ag (xs:List ao):(ab ao.encO xs).all (fun r=>r.length == 2)=true:=aV (e:=ao.encO) (fun _=>rfl) xs
theorem Ah (a0:Int)(a1:List GLink):[[.lit (.int .i64 a0),.own (ab GLink.enc a1)]]=ab ao.encO [(ao.mk a0 a1)]:=rfl
theorem yz (xs:List ao)(a0:Int)(a1:List GLink):[.lit (.int .i64 a0),.own (ab GLink.enc a1)]::ab ao.encO xs=ab ao.encO ((ao.mk a0 a1)::xs):=rfl
theorem Ai (xs:List ao):frsR (ab ao.encO xs)=true:=bR (e:=ao.encO) (fun x=>by simp only [go_sem,ao.encO]) xs
theorem yA (xs:List ao):bM (ab ao.encO xs)=ab ao.encS xs:=bz (e:=ao.encO) (fun x=>by simp only [go_sem,dV,toSl,ao.encO,ao.encS]) xs
theorem Aj (n:Nat):List.replicate n [.lit (.int .i64 0),.own []]=ab ao.encO (List.replicate n (ao.mk 0 ([]))):=aS (e:=ao.encO) n (ao.mk 0 ([]))
theorem vD (xs:List ao)(a0:Int):ab ao.encO xs++[[.lit (.int .i64 a0),.own []]]=ab ao.encO (xs++[(ao.mk a0 [])]):=au (e:=ao.encO) xs (ao.mk a0 [])
theorem wN (a0:Int):[[.lit (.int .i64 a0),.own []]]=ab ao.encO [(ao.mk a0 [])]:=rfl
theorem vE (xs:List ao)(a0:Int):[.lit (.int .i64 a0),.own []]::ab ao.encO xs=ab ao.encO ((ao.mk a0 [])::xs):=rfl
attribute [go_sem] ao.encO yy Af Ag Ah yz Ai yA Aj vD wN vE
structure GState where
 now:Int
 times:List Int
 values:List Int
 deriving DecidableEq
def GState.encS (x:GState):List AV:=[.lit (.int .i64 x.now),.sl (ab eI x.times),.sl (ab eI x.values)]
theorem Ak (xs:List GState)(a0:Int)(a1 a2:List Int):ab GState.encS xs++[[.lit (.int .i64 a0),.sl (ab eI a1),.sl (ab eI a2)]]=ab GState.encS (xs++[(GState.mk a0 a1 a2)]):=au (e:=GState.encS) xs (GState.mk a0 a1 a2)
theorem Cn (xs:List GState)(i:Nat)(a0:Int)(a1 a2:List Int):(ab GState.encS xs).set i [.lit (.int .i64 a0),.sl (ab eI a1),.sl (ab eI a2)]=ab GState.encS (xs.set i (GState.mk a0 a1 a2)):=aT (e:=GState.encS) xs i (GState.mk a0 a1 a2)
theorem Co (xs:List GState):(ab GState.encS xs).all (fun r=>r.length == 3)=true:=aV (e:=GState.encS) (fun _=>rfl) xs
theorem Cp (a0:Int)(a1 a2:List Int):[[.lit (.int .i64 a0),.sl (ab eI a1),.sl (ab eI a2)]]=ab GState.encS [(GState.mk a0 a1 a2)]:=rfl
theorem Al (xs:List GState)(a0:Int)(a1 a2:List Int):[.lit (.int .i64 a0),.sl (ab eI a1),.sl (ab eI a2)]::ab GState.encS xs=ab GState.encS ((GState.mk a0 a1 a2)::xs):=rfl
theorem wO (xs:List GState)(a0:Int)(a2:List Int):ab GState.encS xs++[[.lit (.int .i64 a0),.sl [],.sl (ab eI a2)]]=ab GState.encS (xs++[(GState.mk a0 [] a2)]):=au (e:=GState.encS) xs (GState.mk a0 [] a2)
theorem yB (a0:Int)(a2:List Int):[[.lit (.int .i64 a0),.sl [],.sl (ab eI a2)]]=ab GState.encS [(GState.mk a0 [] a2)]:=rfl
theorem wP (xs:List GState)(a0:Int)(a2:List Int):[.lit (.int .i64 a0),.sl [],.sl (ab eI a2)]::ab GState.encS xs=ab GState.encS ((GState.mk a0 [] a2)::xs):=rfl
theorem wQ (xs:List GState)(a0:Int)(a1:List Int):ab GState.encS xs++[[.lit (.int .i64 a0),.sl (ab eI a1),.sl []]]=ab GState.encS (xs++[(GState.mk a0 a1 [])]):=au (e:=GState.encS) xs (GState.mk a0 a1 [])
theorem yC (a0:Int)(a1:List Int):[[.lit (.int .i64 a0),.sl (ab eI a1),.sl []]]=ab GState.encS [(GState.mk a0 a1 [])]:=rfl
theorem wR (xs:List GState)(a0:Int)(a1:List Int):[.lit (.int .i64 a0),.sl (ab eI a1),.sl []]::ab GState.encS xs=ab GState.encS ((GState.mk a0 a1 [])::xs):=rfl
theorem wS (xs:List GState)(a0:Int):ab GState.encS xs++[[.lit (.int .i64 a0),.sl [],.sl []]]=ab GState.encS (xs++[(GState.mk a0 [] [])]):=au (e:=GState.encS) xs (GState.mk a0 [] [])
theorem yD (a0:Int):[[.lit (.int .i64 a0),.sl [],.sl []]]=ab GState.encS [(GState.mk a0 [] [])]:=rfl
theorem wT (xs:List GState)(a0:Int):[.lit (.int .i64 a0),.sl [],.sl []]::ab GState.encS xs=ab GState.encS ((GState.mk a0 [] [])::xs):=rfl
attribute [go_sem] GState.encS Ak Cn Co Cp Al wO yB wP wQ yC wR wS yD wT
def GState.encO (x:GState):List AV:=[.lit (.int .i64 x.now),.own (ab eI x.times),.own (ab eI x.values)]
theorem Am (xs:List GState)(a0:Int)(a1 a2:List Int):ab GState.encO xs++[[.lit (.int .i64 a0),.own (ab eI a1),.own (ab eI a2)]]=ab GState.encO (xs++[(GState.mk a0 a1 a2)]):=au (e:=GState.encO) xs (GState.mk a0 a1 a2)
theorem Cq (xs:List GState)(i:Nat)(a0:Int)(a1 a2:List Int):(ab GState.encO xs).set i [.lit (.int .i64 a0),.own (ab eI a1),.own (ab eI a2)]=ab GState.encO (xs.set i (GState.mk a0 a1 a2)):=aT (e:=GState.encO) xs i (GState.mk a0 a1 a2)
theorem Cr (xs:List GState):(ab GState.encO xs).all (fun r=>r.length == 3)=true:=aV (e:=GState.encO) (fun _=>rfl) xs
theorem Cs (a0:Int)(a1 a2:List Int):[[.lit (.int .i64 a0),.own (ab eI a1),.own (ab eI a2)]]=ab GState.encO [(GState.mk a0 a1 a2)]:=rfl
theorem An (xs:List GState)(a0:Int)(a1 a2:List Int):[.lit (.int .i64 a0),.own (ab eI a1),.own (ab eI a2)]::ab GState.encO xs=ab GState.encO ((GState.mk a0 a1 a2)::xs):=rfl
theorem Ct (xs:List GState):frsR (ab GState.encO xs)=true:=bR (e:=GState.encO) (fun x=>by simp only [go_sem,GState.encO]) xs
theorem Ao (xs:List GState):bM (ab GState.encO xs)=ab GState.encS xs:=bz (e:=GState.encO) (fun x=>by simp only [go_sem,dV,toSl,GState.encO,GState.encS]) xs
theorem Cu (n:Nat):List.replicate n [.lit (.int .i64 0),.own [],.own []]=ab GState.encO (List.replicate n (GState.mk 0 ([]) ([]))):=aS (e:=GState.encO) n (GState.mk 0 ([]) ([]))
theorem wU (xs:List GState)(a0:Int)(a2:List Int):ab GState.encO xs++[[.lit (.int .i64 a0),.own [],.own (ab eI a2)]]=ab GState.encO (xs++[(GState.mk a0 [] a2)]):=au (e:=GState.encO) xs (GState.mk a0 [] a2)
theorem yE (a0:Int)(a2:List Int):[[.lit (.int .i64 a0),.own [],.own (ab eI a2)]]=ab GState.encO [(GState.mk a0 [] a2)]:=rfl
theorem wV (xs:List GState)(a0:Int)(a2:List Int):[.lit (.int .i64 a0),.own [],.own (ab eI a2)]::ab GState.encO xs=ab GState.encO ((GState.mk a0 [] a2)::xs):=rfl
theorem wW (xs:List GState)(a0:Int)(a1:List Int):ab GState.encO xs++[[.lit (.int .i64 a0),.own (ab eI a1),.own []]]=ab GState.encO (xs++[(GState.mk a0 a1 [])]):=au (e:=GState.encO) xs (GState.mk a0 a1 [])
theorem yF (a0:Int)(a1:List Int):[[.lit (.int .i64 a0),.own (ab eI a1),.own []]]=ab GState.encO [(GState.mk a0 a1 [])]:=rfl
theorem wX (xs:List GState)(a0:Int)(a1:List Int):[.lit (.int .i64 a0),.own (ab eI a1),.own []]::ab GState.encO xs=ab GState.encO ((GState.mk a0 a1 [])::xs):=rfl
theorem wY (xs:List GState)(a0:Int):ab GState.encO xs++[[.lit (.int .i64 a0),.own [],.own []]]=ab GState.encO (xs++[(GState.mk a0 [] [])]):=au (e:=GState.encO) xs (GState.mk a0 [] [])
theorem yG (a0:Int):[[.lit (.int .i64 a0),.own [],.own []]]=ab GState.encO [(GState.mk a0 [] [])]:=rfl
theorem wZ (xs:List GState)(a0:Int):[.lit (.int .i64 a0),.own [],.own []]::ab GState.encO xs=ab GState.encO ((GState.mk a0 [] [])::xs):=rfl
attribute [go_sem] GState.encO Am Cq Cr Cs An Ct Ao Cu wU yE wV wW yF wX wY yG wZ
structure am where
 now:Int
 ties:List Int
 nodes:List Int
 values:List Int
 deriving DecidableEq
def am.encS (x:am):List AV:=[.lit (.int .i64 x.now),.sl (ab eI x.ties),.sl (ab eI x.nodes),.sl (ab eI x.values)]
theorem Ap (xs:List am)(a0:Int)(a1 a2 a3:List Int):ab am.encS xs++[[.lit (.int .i64 a0),.sl (ab eI a1),.sl (ab eI a2),.sl (ab eI a3)]]=ab am.encS (xs++[(am.mk a0 a1 a2 a3)]):=au (e:=am.encS) xs (am.mk a0 a1 a2 a3)
theorem Cv (xs:List am)(i:Nat)(a0:Int)(a1 a2 a3:List Int):(ab am.encS xs).set i [.lit (.int .i64 a0),.sl (ab eI a1),.sl (ab eI a2),.sl (ab eI a3)]=ab am.encS (xs.set i (am.mk a0 a1 a2 a3)):=aT (e:=am.encS) xs i (am.mk a0 a1 a2 a3)
theorem Cw (xs:List am):(ab am.encS xs).all (fun r=>r.length == 4)=true:=aV (e:=am.encS) (fun _=>rfl) xs
theorem Cx (a0:Int)(a1 a2 a3:List Int):[[.lit (.int .i64 a0),.sl (ab eI a1),.sl (ab eI a2),.sl (ab eI a3)]]=ab am.encS [(am.mk a0 a1 a2 a3)]:=rfl
theorem Aq (xs:List am)(a0:Int)(a1 a2 a3:List Int):[.lit (.int .i64 a0),.sl (ab eI a1),.sl (ab eI a2),.sl (ab eI a3)]::ab am.encS xs=ab am.encS ((am.mk a0 a1 a2 a3)::xs):=rfl
attribute [go_sem] am.encS Ap Cv Cw Cx Aq
def am.encO (x:am):List AV:=[.lit (.int .i64 x.now),.own (ab eI x.ties),.own (ab eI x.nodes),.own (ab eI x.values)]
theorem Ar (xs:List am)(a0:Int)(a1 a2 a3:List Int):ab am.encO xs++[[.lit (.int .i64 a0),.own (ab eI a1),.own (ab eI a2),.own (ab eI a3)]]=ab am.encO (xs++[(am.mk a0 a1 a2 a3)]):=au (e:=am.encO) xs (am.mk a0 a1 a2 a3)
theorem Cy (xs:List am)(i:Nat)(a0:Int)(a1 a2 a3:List Int):(ab am.encO xs).set i [.lit (.int .i64 a0),.own (ab eI a1),.own (ab eI a2),.own (ab eI a3)]=ab am.encO (xs.set i (am.mk a0 a1 a2 a3)):=aT (e:=am.encO) xs i (am.mk a0 a1 a2 a3)
theorem Cz (xs:List am):(ab am.encO xs).all (fun r=>r.length == 4)=true:=aV (e:=am.encO) (fun _=>rfl) xs
theorem CA (a0:Int)(a1 a2 a3:List Int):[[.lit (.int .i64 a0),.own (ab eI a1),.own (ab eI a2),.own (ab eI a3)]]=ab am.encO [(am.mk a0 a1 a2 a3)]:=rfl
theorem As (xs:List am)(a0:Int)(a1 a2 a3:List Int):[.lit (.int .i64 a0),.own (ab eI a1),.own (ab eI a2),.own (ab eI a3)]::ab am.encO xs=ab am.encO ((am.mk a0 a1 a2 a3)::xs):=rfl
theorem CB (xs:List am):frsR (ab am.encO xs)=true:=bR (e:=am.encO) (fun x=>by simp only [go_sem,am.encO]) xs
theorem Au (xs:List am):bM (ab am.encO xs)=ab am.encS xs:=bz (e:=am.encO) (fun x=>by simp only [go_sem,dV,toSl,am.encO,am.encS]) xs
theorem CC (n:Nat):List.replicate n [.lit (.int .i64 0),.own [],.own [],.own []]=ab am.encO (List.replicate n (am.mk 0 ([]) ([]) ([]))):=aS (e:=am.encO) n (am.mk 0 ([]) ([]) ([]))
attribute [go_sem] am.encO Ar Cy Cz CA As CB Au CC
structure GDesk where
 show_:GShow
 state:GState
 lazy:Bool
 log:List am
 deriving DecidableEq
def GDesk.encS (x:GDesk):List AV:=[.sl (ab GNode.encS x.show_.nodes),.sl (ab GTie.enc x.show_.ties),.lit (.int .i64 x.show_.horizon),.lit (.int .i64 x.state.now),.sl (ab eI x.state.times),.sl (ab eI x.state.values),.lit (.bool x.lazy),.sl (ab am.encS x.log)]
theorem CD (xs:List GDesk)(a0:List GNode)(a1:List GTie)(a2 a3:Int)(a4 a5:List Int)(a6:Bool)(a7:List am):ab GDesk.encS xs++[[.sl (ab GNode.encS a0),.sl (ab GTie.enc a1),.lit (.int .i64 a2),.lit (.int .i64 a3),.sl (ab eI a4),.sl (ab eI a5),.lit (.bool a6),.sl (ab am.encS a7)]]=ab GDesk.encS (xs++[(GDesk.mk (GShow.mk a0 a1 a2) (GState.mk a3 a4 a5) a6 a7)]):=au (e:=GDesk.encS) xs (GDesk.mk (GShow.mk a0 a1 a2) (GState.mk a3 a4 a5) a6 a7)
theorem DF (xs:List GDesk)(i:Nat)(a0:List GNode)(a1:List GTie)(a2 a3:Int)(a4 a5:List Int)(a6:Bool)(a7:List am):(ab GDesk.encS xs).set i [.sl (ab GNode.encS a0),.sl (ab GTie.enc a1),.lit (.int .i64 a2),.lit (.int .i64 a3),.sl (ab eI a4),.sl (ab eI a5),.lit (.bool a6),.sl (ab am.encS a7)]=ab GDesk.encS (xs.set i (GDesk.mk (GShow.mk a0 a1 a2) (GState.mk a3 a4 a5) a6 a7)):=aT (e:=GDesk.encS) xs i (GDesk.mk (GShow.mk a0 a1 a2) (GState.mk a3 a4 a5) a6 a7)
theorem DG (xs:List GDesk):(ab GDesk.encS xs).all (fun r=>r.length == 8)=true:=aV (e:=GDesk.encS) (fun _=>rfl) xs
theorem DI (a0:List GNode)(a1:List GTie)(a2 a3:Int)(a4 a5:List Int)(a6:Bool)(a7:List am):[[.sl (ab GNode.encS a0),.sl (ab GTie.enc a1),.lit (.int .i64 a2),.lit (.int .i64 a3),.sl (ab eI a4),.sl (ab eI a5),.lit (.bool a6),.sl (ab am.encS a7)]]=ab GDesk.encS [(GDesk.mk (GShow.mk a0 a1 a2) (GState.mk a3 a4 a5) a6 a7)]:=rfl
theorem CE (xs:List GDesk)(a0:List GNode)(a1:List GTie)(a2 a3:Int)(a4 a5:List Int)(a6:Bool)(a7:List am):[.sl (ab GNode.encS a0),.sl (ab GTie.enc a1),.lit (.int .i64 a2),.lit (.int .i64 a3),.sl (ab eI a4),.sl (ab eI a5),.lit (.bool a6),.sl (ab am.encS a7)]::ab GDesk.encS xs=ab GDesk.encS ((GDesk.mk (GShow.mk a0 a1 a2) (GState.mk a3 a4 a5) a6 a7)::xs):=rfl
attribute [go_sem] GDesk.encS CD DF DG DI CE
def GDesk.encO (x:GDesk):List AV:=[.own (ab GNode.encO x.show_.nodes),.own (ab GTie.enc x.show_.ties),.lit (.int .i64 x.show_.horizon),.lit (.int .i64 x.state.now),.own (ab eI x.state.times),.own (ab eI x.state.values),.lit (.bool x.lazy),.own (ab am.encO x.log)]
theorem CF (xs:List GDesk)(a0:List GNode)(a1:List GTie)(a2 a3:Int)(a4 a5:List Int)(a6:Bool)(a7:List am):ab GDesk.encO xs++[[.own (ab GNode.encO a0),.own (ab GTie.enc a1),.lit (.int .i64 a2),.lit (.int .i64 a3),.own (ab eI a4),.own (ab eI a5),.lit (.bool a6),.own (ab am.encO a7)]]=ab GDesk.encO (xs++[(GDesk.mk (GShow.mk a0 a1 a2) (GState.mk a3 a4 a5) a6 a7)]):=au (e:=GDesk.encO) xs (GDesk.mk (GShow.mk a0 a1 a2) (GState.mk a3 a4 a5) a6 a7)
theorem DJ (xs:List GDesk)(i:Nat)(a0:List GNode)(a1:List GTie)(a2 a3:Int)(a4 a5:List Int)(a6:Bool)(a7:List am):(ab GDesk.encO xs).set i [.own (ab GNode.encO a0),.own (ab GTie.enc a1),.lit (.int .i64 a2),.lit (.int .i64 a3),.own (ab eI a4),.own (ab eI a5),.lit (.bool a6),.own (ab am.encO a7)]=ab GDesk.encO (xs.set i (GDesk.mk (GShow.mk a0 a1 a2) (GState.mk a3 a4 a5) a6 a7)):=aT (e:=GDesk.encO) xs i (GDesk.mk (GShow.mk a0 a1 a2) (GState.mk a3 a4 a5) a6 a7)
theorem DK (xs:List GDesk):(ab GDesk.encO xs).all (fun r=>r.length == 8)=true:=aV (e:=GDesk.encO) (fun _=>rfl) xs
theorem DL (a0:List GNode)(a1:List GTie)(a2 a3:Int)(a4 a5:List Int)(a6:Bool)(a7:List am):[[.own (ab GNode.encO a0),.own (ab GTie.enc a1),.lit (.int .i64 a2),.lit (.int .i64 a3),.own (ab eI a4),.own (ab eI a5),.lit (.bool a6),.own (ab am.encO a7)]]=ab GDesk.encO [(GDesk.mk (GShow.mk a0 a1 a2) (GState.mk a3 a4 a5) a6 a7)]:=rfl
theorem CG (xs:List GDesk)(a0:List GNode)(a1:List GTie)(a2 a3:Int)(a4 a5:List Int)(a6:Bool)(a7:List am):[.own (ab GNode.encO a0),.own (ab GTie.enc a1),.lit (.int .i64 a2),.lit (.int .i64 a3),.own (ab eI a4),.own (ab eI a5),.lit (.bool a6),.own (ab am.encO a7)]::ab GDesk.encO xs=ab GDesk.encO ((GDesk.mk (GShow.mk a0 a1 a2) (GState.mk a3 a4 a5) a6 a7)::xs):=rfl
theorem DM (xs:List GDesk):frsR (ab GDesk.encO xs)=true:=bR (e:=GDesk.encO) (fun x=>by simp only [go_sem,GDesk.encO]) xs
theorem CH (xs:List GDesk):bM (ab GDesk.encO xs)=ab GDesk.encS xs:=bz (e:=GDesk.encO) (fun x=>by simp only [go_sem,dV,toSl,GDesk.encO,GDesk.encS]) xs
theorem DN (n:Nat):List.replicate n [.own [],.own [],.lit (.int .i64 0),.lit (.int .i64 0),.own [],.own [],.lit (.bool false),.own []]=ab GDesk.encO (List.replicate n (GDesk.mk (GShow.mk ([]) ([]) 0) (GState.mk 0 ([]) ([])) false ([]))):=aS (e:=GDesk.encO) n (GDesk.mk (GShow.mk ([]) ([]) 0) (GState.mk 0 ([]) ([])) false ([]))
attribute [go_sem] GDesk.encO CF DJ DK DL CG DM CH DN
structure GL01Cur where
 b:List Int
 i:Int
 h:Int
 deriving DecidableEq
def GL01Cur.encS (x:GL01Cur):List AV:=[.sl (ab (eK .u8) x.b),.lit (.int .i64 x.i),.lit (.int .i64 x.h)]
theorem yH (xs:List GL01Cur)(a0:List Int)(a1 a2:Int):ab GL01Cur.encS xs++[[.sl (ab (eK .u8) a0),.lit (.int .i64 a1),.lit (.int .i64 a2)]]=ab GL01Cur.encS (xs++[(GL01Cur.mk a0 a1 a2)]):=au (e:=GL01Cur.encS) xs (GL01Cur.mk a0 a1 a2)
theorem Av (xs:List GL01Cur)(i:Nat)(a0:List Int)(a1 a2:Int):(ab GL01Cur.encS xs).set i [.sl (ab (eK .u8) a0),.lit (.int .i64 a1),.lit (.int .i64 a2)]=ab GL01Cur.encS (xs.set i (GL01Cur.mk a0 a1 a2)):=aT (e:=GL01Cur.encS) xs i (GL01Cur.mk a0 a1 a2)
theorem Aw (xs:List GL01Cur):(ab GL01Cur.encS xs).all (fun r=>r.length == 3)=true:=aV (e:=GL01Cur.encS) (fun _=>rfl) xs
theorem Ay (a0:List Int)(a1 a2:Int):[[.sl (ab (eK .u8) a0),.lit (.int .i64 a1),.lit (.int .i64 a2)]]=ab GL01Cur.encS [(GL01Cur.mk a0 a1 a2)]:=rfl
theorem yI (xs:List GL01Cur)(a0:List Int)(a1 a2:Int):[.sl (ab (eK .u8) a0),.lit (.int .i64 a1),.lit (.int .i64 a2)]::ab GL01Cur.encS xs=ab GL01Cur.encS ((GL01Cur.mk a0 a1 a2)::xs):=rfl
theorem vF (xs:List GL01Cur)(a1 a2:Int):ab GL01Cur.encS xs++[[.sl [],.lit (.int .i64 a1),.lit (.int .i64 a2)]]=ab GL01Cur.encS (xs++[(GL01Cur.mk [] a1 a2)]):=au (e:=GL01Cur.encS) xs (GL01Cur.mk [] a1 a2)
theorem xa (a1 a2:Int):[[.sl [],.lit (.int .i64 a1),.lit (.int .i64 a2)]]=ab GL01Cur.encS [(GL01Cur.mk [] a1 a2)]:=rfl
theorem vG (xs:List GL01Cur)(a1 a2:Int):[.sl [],.lit (.int .i64 a1),.lit (.int .i64 a2)]::ab GL01Cur.encS xs=ab GL01Cur.encS ((GL01Cur.mk [] a1 a2)::xs):=rfl
attribute [go_sem] GL01Cur.encS yH Av Aw Ay yI vF xa vG
def GL01Cur.encO (x:GL01Cur):List AV:=[.own (ab (eK .u8) x.b),.lit (.int .i64 x.i),.lit (.int .i64 x.h)]
theorem yJ (xs:List GL01Cur)(a0:List Int)(a1 a2:Int):ab GL01Cur.encO xs++[[.own (ab (eK .u8) a0),.lit (.int .i64 a1),.lit (.int .i64 a2)]]=ab GL01Cur.encO (xs++[(GL01Cur.mk a0 a1 a2)]):=au (e:=GL01Cur.encO) xs (GL01Cur.mk a0 a1 a2)
theorem Az (xs:List GL01Cur)(i:Nat)(a0:List Int)(a1 a2:Int):(ab GL01Cur.encO xs).set i [.own (ab (eK .u8) a0),.lit (.int .i64 a1),.lit (.int .i64 a2)]=ab GL01Cur.encO (xs.set i (GL01Cur.mk a0 a1 a2)):=aT (e:=GL01Cur.encO) xs i (GL01Cur.mk a0 a1 a2)
theorem AA (xs:List GL01Cur):(ab GL01Cur.encO xs).all (fun r=>r.length == 3)=true:=aV (e:=GL01Cur.encO) (fun _=>rfl) xs
theorem AB (a0:List Int)(a1 a2:Int):[[.own (ab (eK .u8) a0),.lit (.int .i64 a1),.lit (.int .i64 a2)]]=ab GL01Cur.encO [(GL01Cur.mk a0 a1 a2)]:=rfl
theorem yK (xs:List GL01Cur)(a0:List Int)(a1 a2:Int):[.own (ab (eK .u8) a0),.lit (.int .i64 a1),.lit (.int .i64 a2)]::ab GL01Cur.encO xs=ab GL01Cur.encO ((GL01Cur.mk a0 a1 a2)::xs):=rfl
theorem AC (xs:List GL01Cur):frsR (ab GL01Cur.encO xs)=true:=bR (e:=GL01Cur.encO) (fun x=>by simp only [go_sem,GL01Cur.encO]) xs
theorem yL (xs:List GL01Cur):bM (ab GL01Cur.encO xs)=ab GL01Cur.encS xs:=bz (e:=GL01Cur.encO) (fun x=>by simp only [go_sem,dV,toSl,GL01Cur.encO,GL01Cur.encS]) xs
theorem AD (n:Nat):List.replicate n [.own [],.lit (.int .i64 0),.lit (.int .i64 0)]=ab GL01Cur.encO (List.replicate n (GL01Cur.mk ([]) 0 0)):=aS (e:=GL01Cur.encO) n (GL01Cur.mk ([]) 0 0)
theorem vH (xs:List GL01Cur)(a1 a2:Int):ab GL01Cur.encO xs++[[.own [],.lit (.int .i64 a1),.lit (.int .i64 a2)]]=ab GL01Cur.encO (xs++[(GL01Cur.mk [] a1 a2)]):=au (e:=GL01Cur.encO) xs (GL01Cur.mk [] a1 a2)
theorem xb (a1 a2:Int):[[.own [],.lit (.int .i64 a1),.lit (.int .i64 a2)]]=ab GL01Cur.encO [(GL01Cur.mk [] a1 a2)]:=rfl
theorem vI (xs:List GL01Cur)(a1 a2:Int):[.own [],.lit (.int .i64 a1),.lit (.int .i64 a2)]::ab GL01Cur.encO xs=ab GL01Cur.encO ((GL01Cur.mk [] a1 a2)::xs):=rfl
attribute [go_sem] GL01Cur.encO yJ Az AA AB yK AC yL AD vH xb vI
structure bH where
 tie:Int
 length:Int
 deriving DecidableEq
def bH.enc (x:bH):List AV:=[.lit (.int .i64 x.tie),.lit (.int .i64 x.length)]
theorem uc (xs:List bH)(a0 a1:Int):ab bH.enc xs++[[.lit (.int .i64 a0),.lit (.int .i64 a1)]]=ab bH.enc (xs++[(bH.mk a0 a1)]):=au (e:=bH.enc) xs (bH.mk a0 a1)
theorem EW (xs:List bH)(i:Nat)(a0 a1:Int):(ab bH.enc xs).set i [.lit (.int .i64 a0),.lit (.int .i64 a1)]=ab bH.enc (xs.set i (bH.mk a0 a1)):=aT (e:=bH.enc) xs i (bH.mk a0 a1)
theorem EX (xs:List bH):(ab bH.enc xs).all (fun r=>r.length == 2)=true:=aV (e:=bH.enc) (fun _=>rfl) xs
theorem EY (a0 a1:Int):[[.lit (.int .i64 a0),.lit (.int .i64 a1)]]=ab bH.enc [(bH.mk a0 a1)]:=rfl
theorem DO (xs:List bH)(a0 a1:Int):[.lit (.int .i64 a0),.lit (.int .i64 a1)]::ab bH.enc xs=ab bH.enc ((bH.mk a0 a1)::xs):=rfl
theorem EZ (xs:List bH):frsR (ab bH.enc xs)=true:=bR (e:=bH.enc) (fun x=>by simp only [go_sem,bH.enc]) xs
theorem DP (xs:List bH):bM (ab bH.enc xs)=ab bH.enc xs:=bz (e:=bH.enc) (fun x=>by simp only [go_sem,dV,toSl,bH.enc]) xs
theorem Fa (n:Nat):List.replicate n [.lit (.int .i64 0),.lit (.int .i64 0)]=ab bH.enc (List.replicate n (bH.mk 0 0)):=aS (e:=bH.enc) n (bH.mk 0 0)
attribute [go_sem] bH.enc uc EW EX EY DO EZ DP Fa
structure GCue where
 name:ByteArray
 after:Int
 atEnd:Bool
 low:Int
 high:Int
 min_:Int
 max_:Int
 free:Bool
 if_:Int
 watch:Int
 device:Int
 deriving DecidableEq
def GCue.enc (x:GCue):List AV:=[.lit (.string x.name),.lit (.int .i64 x.after),.lit (.bool x.atEnd),.lit (.int .i64 x.low),.lit (.int .i64 x.high),.lit (.int .i64 x.min_),.lit (.int .i64 x.max_),.lit (.bool x.free),.lit (.int .i64 x.if_),.lit (.int .i64 x.watch),.lit (.int .i64 x.device)]
theorem Fb (xs:List GCue)(a0:ByteArray)(a1:Int)(a2:Bool)(a3 a4 a5 a6:Int)(a7:Bool)(a8 a9 a10:Int):ab GCue.enc xs++[[.lit (.string a0),.lit (.int .i64 a1),.lit (.bool a2),.lit (.int .i64 a3),.lit (.int .i64 a4),.lit (.int .i64 a5),.lit (.int .i64 a6),.lit (.bool a7),.lit (.int .i64 a8),.lit (.int .i64 a9),.lit (.int .i64 a10)]]=ab GCue.enc (xs++[(GCue.mk a0 a1 a2 a3 a4 a5 a6 a7 a8 a9 a10)]):=au (e:=GCue.enc) xs (GCue.mk a0 a1 a2 a3 a4 a5 a6 a7 a8 a9 a10)
theorem HH (xs:List GCue)(i:Nat)(a0:ByteArray)(a1:Int)(a2:Bool)(a3 a4 a5 a6:Int)(a7:Bool)(a8 a9 a10:Int):(ab GCue.enc xs).set i [.lit (.string a0),.lit (.int .i64 a1),.lit (.bool a2),.lit (.int .i64 a3),.lit (.int .i64 a4),.lit (.int .i64 a5),.lit (.int .i64 a6),.lit (.bool a7),.lit (.int .i64 a8),.lit (.int .i64 a9),.lit (.int .i64 a10)]=ab GCue.enc (xs.set i (GCue.mk a0 a1 a2 a3 a4 a5 a6 a7 a8 a9 a10)):=aT (e:=GCue.enc) xs i (GCue.mk a0 a1 a2 a3 a4 a5 a6 a7 a8 a9 a10)
theorem HI (xs:List GCue):(ab GCue.enc xs).all (fun r=>r.length == 11)=true:=aV (e:=GCue.enc) (fun _=>rfl) xs
theorem HJ (a0:ByteArray)(a1:Int)(a2:Bool)(a3 a4 a5 a6:Int)(a7:Bool)(a8 a9 a10:Int):[[.lit (.string a0),.lit (.int .i64 a1),.lit (.bool a2),.lit (.int .i64 a3),.lit (.int .i64 a4),.lit (.int .i64 a5),.lit (.int .i64 a6),.lit (.bool a7),.lit (.int .i64 a8),.lit (.int .i64 a9),.lit (.int .i64 a10)]]=ab GCue.enc [(GCue.mk a0 a1 a2 a3 a4 a5 a6 a7 a8 a9 a10)]:=rfl
theorem Fc (xs:List GCue)(a0:ByteArray)(a1:Int)(a2:Bool)(a3 a4 a5 a6:Int)(a7:Bool)(a8 a9 a10:Int):[.lit (.string a0),.lit (.int .i64 a1),.lit (.bool a2),.lit (.int .i64 a3),.lit (.int .i64 a4),.lit (.int .i64 a5),.lit (.int .i64 a6),.lit (.bool a7),.lit (.int .i64 a8),.lit (.int .i64 a9),.lit (.int .i64 a10)]::ab GCue.enc xs=ab GCue.enc ((GCue.mk a0 a1 a2 a3 a4 a5 a6 a7 a8 a9 a10)::xs):=rfl
theorem HK (xs:List GCue):frsR (ab GCue.enc xs)=true:=bR (e:=GCue.enc) (fun x=>by simp only [go_sem,GCue.enc]) xs
theorem Fe (xs:List GCue):bM (ab GCue.enc xs)=ab GCue.enc xs:=bz (e:=GCue.enc) (fun x=>by simp only [go_sem,dV,toSl,GCue.enc]) xs
theorem HL (n:Nat):List.replicate n [.lit (.string (ByteArray.mk #[])),.lit (.int .i64 0),.lit (.bool false),.lit (.int .i64 0),.lit (.int .i64 0),.lit (.int .i64 0),.lit (.int .i64 0),.lit (.bool false),.lit (.int .i64 0),.lit (.int .i64 0),.lit (.int .i64 0)]=ab GCue.enc (List.replicate n (GCue.mk (ByteArray.mk #[]) 0 false 0 0 0 0 false 0 0 0)):=aS (e:=GCue.enc) n (GCue.mk (ByteArray.mk #[]) 0 false 0 0 0 0 false 0 0 0)
attribute [go_sem] GCue.enc Fb HH HI HJ Fc HK Fe HL
structure ar where
 cues:List GCue
 prep:List Int
 horizon:Int
 deriving DecidableEq
def ar.encS (x:ar):List AV:=[.sl (ab GCue.enc x.cues),.sl (ab eI x.prep),.lit (.int .i64 x.horizon)]
theorem AE (xs:List ar)(a0:List GCue)(a1:List Int)(a2:Int):ab ar.encS xs++[[.sl (ab GCue.enc a0),.sl (ab eI a1),.lit (.int .i64 a2)]]=ab ar.encS (xs++[(ar.mk a0 a1 a2)]):=au (e:=ar.encS) xs (ar.mk a0 a1 a2)
theorem CI (xs:List ar)(i:Nat)(a0:List GCue)(a1:List Int)(a2:Int):(ab ar.encS xs).set i [.sl (ab GCue.enc a0),.sl (ab eI a1),.lit (.int .i64 a2)]=ab ar.encS (xs.set i (ar.mk a0 a1 a2)):=aT (e:=ar.encS) xs i (ar.mk a0 a1 a2)
theorem CJ (xs:List ar):(ab ar.encS xs).all (fun r=>r.length == 3)=true:=aV (e:=ar.encS) (fun _=>rfl) xs
theorem CK (a0:List GCue)(a1:List Int)(a2:Int):[[.sl (ab GCue.enc a0),.sl (ab eI a1),.lit (.int .i64 a2)]]=ab ar.encS [(ar.mk a0 a1 a2)]:=rfl
theorem AF (xs:List ar)(a0:List GCue)(a1:List Int)(a2:Int):[.sl (ab GCue.enc a0),.sl (ab eI a1),.lit (.int .i64 a2)]::ab ar.encS xs=ab ar.encS ((ar.mk a0 a1 a2)::xs):=rfl
theorem xc (xs:List ar)(a1:List Int)(a2:Int):ab ar.encS xs++[[.sl [],.sl (ab eI a1),.lit (.int .i64 a2)]]=ab ar.encS (xs++[(ar.mk [] a1 a2)]):=au (e:=ar.encS) xs (ar.mk [] a1 a2)
theorem yM (a1:List Int)(a2:Int):[[.sl [],.sl (ab eI a1),.lit (.int .i64 a2)]]=ab ar.encS [(ar.mk [] a1 a2)]:=rfl
theorem xd (xs:List ar)(a1:List Int)(a2:Int):[.sl [],.sl (ab eI a1),.lit (.int .i64 a2)]::ab ar.encS xs=ab ar.encS ((ar.mk [] a1 a2)::xs):=rfl
theorem xe (xs:List ar)(a0:List GCue)(a2:Int):ab ar.encS xs++[[.sl (ab GCue.enc a0),.sl [],.lit (.int .i64 a2)]]=ab ar.encS (xs++[(ar.mk a0 [] a2)]):=au (e:=ar.encS) xs (ar.mk a0 [] a2)
theorem yN (a0:List GCue)(a2:Int):[[.sl (ab GCue.enc a0),.sl [],.lit (.int .i64 a2)]]=ab ar.encS [(ar.mk a0 [] a2)]:=rfl
theorem xf (xs:List ar)(a0:List GCue)(a2:Int):[.sl (ab GCue.enc a0),.sl [],.lit (.int .i64 a2)]::ab ar.encS xs=ab ar.encS ((ar.mk a0 [] a2)::xs):=rfl
theorem xg (xs:List ar)(a2:Int):ab ar.encS xs++[[.sl [],.sl [],.lit (.int .i64 a2)]]=ab ar.encS (xs++[(ar.mk [] [] a2)]):=au (e:=ar.encS) xs (ar.mk [] [] a2)
theorem yO (a2:Int):[[.sl [],.sl [],.lit (.int .i64 a2)]]=ab ar.encS [(ar.mk [] [] a2)]:=rfl
theorem xh (xs:List ar)(a2:Int):[.sl [],.sl [],.lit (.int .i64 a2)]::ab ar.encS xs=ab ar.encS ((ar.mk [] [] a2)::xs):=rfl
attribute [go_sem] ar.encS AE CI CJ CK AF xc yM xd xe yN xf xg yO xh
def ar.encO (x:ar):List AV:=[.own (ab GCue.enc x.cues),.own (ab eI x.prep),.lit (.int .i64 x.horizon)]
theorem AG (xs:List ar)(a0:List GCue)(a1:List Int)(a2:Int):ab ar.encO xs++[[.own (ab GCue.enc a0),.own (ab eI a1),.lit (.int .i64 a2)]]=ab ar.encO (xs++[(ar.mk a0 a1 a2)]):=au (e:=ar.encO) xs (ar.mk a0 a1 a2)
theorem CL (xs:List ar)(i:Nat)(a0:List GCue)(a1:List Int)(a2:Int):(ab ar.encO xs).set i [.own (ab GCue.enc a0),.own (ab eI a1),.lit (.int .i64 a2)]=ab ar.encO (xs.set i (ar.mk a0 a1 a2)):=aT (e:=ar.encO) xs i (ar.mk a0 a1 a2)
theorem CM (xs:List ar):(ab ar.encO xs).all (fun r=>r.length == 3)=true:=aV (e:=ar.encO) (fun _=>rfl) xs
theorem CN (a0:List GCue)(a1:List Int)(a2:Int):[[.own (ab GCue.enc a0),.own (ab eI a1),.lit (.int .i64 a2)]]=ab ar.encO [(ar.mk a0 a1 a2)]:=rfl
theorem AH (xs:List ar)(a0:List GCue)(a1:List Int)(a2:Int):[.own (ab GCue.enc a0),.own (ab eI a1),.lit (.int .i64 a2)]::ab ar.encO xs=ab ar.encO ((ar.mk a0 a1 a2)::xs):=rfl
theorem CO (xs:List ar):frsR (ab ar.encO xs)=true:=bR (e:=ar.encO) (fun x=>by simp only [go_sem,ar.encO]) xs
theorem AI (xs:List ar):bM (ab ar.encO xs)=ab ar.encS xs:=bz (e:=ar.encO) (fun x=>by simp only [go_sem,dV,toSl,ar.encO,ar.encS]) xs
theorem CP (n:Nat):List.replicate n [.own [],.own [],.lit (.int .i64 0)]=ab ar.encO (List.replicate n (ar.mk ([]) ([]) 0)):=aS (e:=ar.encO) n (ar.mk ([]) ([]) 0)
theorem xi (xs:List ar)(a1:List Int)(a2:Int):ab ar.encO xs++[[.own [],.own (ab eI a1),.lit (.int .i64 a2)]]=ab ar.encO (xs++[(ar.mk [] a1 a2)]):=au (e:=ar.encO) xs (ar.mk [] a1 a2)
theorem yP (a1:List Int)(a2:Int):[[.own [],.own (ab eI a1),.lit (.int .i64 a2)]]=ab ar.encO [(ar.mk [] a1 a2)]:=rfl
theorem xj (xs:List ar)(a1:List Int)(a2:Int):[.own [],.own (ab eI a1),.lit (.int .i64 a2)]::ab ar.encO xs=ab ar.encO ((ar.mk [] a1 a2)::xs):=rfl
theorem xk (xs:List ar)(a0:List GCue)(a2:Int):ab ar.encO xs++[[.own (ab GCue.enc a0),.own [],.lit (.int .i64 a2)]]=ab ar.encO (xs++[(ar.mk a0 [] a2)]):=au (e:=ar.encO) xs (ar.mk a0 [] a2)
theorem yQ (a0:List GCue)(a2:Int):[[.own (ab GCue.enc a0),.own [],.lit (.int .i64 a2)]]=ab ar.encO [(ar.mk a0 [] a2)]:=rfl
theorem xl (xs:List ar)(a0:List GCue)(a2:Int):[.own (ab GCue.enc a0),.own [],.lit (.int .i64 a2)]::ab ar.encO xs=ab ar.encO ((ar.mk a0 [] a2)::xs):=rfl
theorem xm (xs:List ar)(a2:Int):ab ar.encO xs++[[.own [],.own [],.lit (.int .i64 a2)]]=ab ar.encO (xs++[(ar.mk [] [] a2)]):=au (e:=ar.encO) xs (ar.mk [] [] a2)
theorem yR (a2:Int):[[.own [],.own [],.lit (.int .i64 a2)]]=ab ar.encO [(ar.mk [] [] a2)]:=rfl
theorem xn (xs:List ar)(a2:Int):[.own [],.own [],.lit (.int .i64 a2)]::ab ar.encO xs=ab ar.encO ((ar.mk [] [] a2)::xs):=rfl
attribute [go_sem] ar.encO AG CL CM CN AH CO AI CP xi yP xj xk yQ xl xm yR xn
theorem rn (xs:List aB)(a0 a1:Int):ab aB.enc xs++ab bH.enc [(bH.mk a0 a1)]=ab aB.enc (xs++[(aB.mk a0 a1)]):=rm xs a0 a1
attribute [go_sem] rn
theorem ro (xs:List bH)(a0 a1:Int):ab bH.enc xs++ab aB.enc [(aB.mk a0 a1)]=ab bH.enc (xs++[(bH.mk a0 a1)]):=uc xs a0 a1
attribute [go_sem] ro
def spf (f:Nat):Bool:=[162,244].contains f
@[go_sem] theorem XL:spf 102=false:=rfl
@[go_sem] theorem XM:spf 145=false:=rfl
@[go_sem] theorem XN:spf 162=true:=rfl
@[go_sem] theorem XO:spf 168=false:=rfl
@[go_sem] theorem XP:spf 203=false:=rfl
@[go_sem] theorem XQ:spf 206=false:=rfl
@[go_sem] theorem XR:spf 210=false:=rfl
@[go_sem] theorem XS:spf 226=false:=rfl
@[go_sem] theorem XT:spf 231=false:=rfl
@[go_sem] theorem XU:spf 244=true:=rfl
@[go_sem] theorem XV:spf 246=false:=rfl
@[go_sem] theorem XW:spf 259=false:=rfl
@[go_sem] theorem XX:spf 268=false:=rfl
@[go_sem] theorem XY:spf 277=false:=rfl
@[go_sem] theorem XZ:spf 294=false:=rfl
@[go_sem] theorem Ya:spf 335=false:=rfl
@[go_sem] theorem Yl:spf 83=false:=rfl
@[go_sem] theorem Yb:spf 105=false:=rfl
@[go_sem] theorem Yc:spf 198=false:=rfl
@[go_sem] theorem Yd:spf 208=false:=rfl
@[go_sem] theorem Ye:spf 240=false:=rfl
@[go_sem] theorem Yf:spf 269=false:=rfl
def mdT:Nat→List AV→Md:=fun n a=>match n with
 | 73=>⟨[0],true⟩
 | 74=>⟨[],true⟩
 | 89=>⟨[],true⟩
 | 90=>⟨[0],true⟩
 | 92=>⟨[0],true⟩
 | 96=>⟨[],true⟩
 | 97=>⟨[0],true⟩
 | 111=>⟨[0],true⟩
 | 112=>⟨[0],true⟩
 | 151=>⟨[0],true⟩
 | 162=>⟨[0],true⟩
 | 163=>⟨[0],true⟩
 | 164=>⟨[],true⟩
 | 165=>⟨[0],true⟩
 | 166=>⟨[0],false⟩
 | 178=>⟨[0],true⟩
 | 179=>⟨[0],true⟩
 | 203=>⟨[5,6],false⟩
 | 242=>⟨[0],true⟩
 | 243=>⟨[0,1],true⟩
 | 244=>⟨[1,2],true⟩
 | 249=>⟨[0],false⟩
 | 252=>⟨[0,1],true⟩
 | 289=>bif spf (fnId a) then ⟨[0,1],true⟩ else ⟨[],false⟩
 | 290=>⟨[1000],false⟩
 | 291=>⟨[0],false⟩
 | 308=>⟨[0],false⟩
 | _=>⟨[],false⟩
@[go_sem] theorem md3 (a:List AV):mdT 3 a=⟨[],false⟩:=rfl
@[go_sem] theorem md4 (a:List AV):mdT 4 a=⟨[],false⟩:=rfl
@[go_sem] theorem md5 (a:List AV):mdT 5 a=⟨[],false⟩:=rfl
@[go_sem] theorem md6 (a:List AV):mdT 6 a=⟨[],false⟩:=rfl
@[go_sem] theorem md7 (a:List AV):mdT 7 a=⟨[],false⟩:=rfl
@[go_sem] theorem md8 (a:List AV):mdT 8 a=⟨[],false⟩:=rfl
@[go_sem] theorem md9 (a:List AV):mdT 9 a=⟨[],false⟩:=rfl
@[go_sem] theorem md10 (a:List AV):mdT 10 a=⟨[],false⟩:=rfl
@[go_sem] theorem md11 (a:List AV):mdT 11 a=⟨[],false⟩:=rfl
@[go_sem] theorem md12 (a:List AV):mdT 12 a=⟨[],false⟩:=rfl
@[go_sem] theorem md13 (a:List AV):mdT 13 a=⟨[],false⟩:=rfl
@[go_sem] theorem md14 (a:List AV):mdT 14 a=⟨[],false⟩:=rfl
@[go_sem] theorem md15 (a:List AV):mdT 15 a=⟨[],false⟩:=rfl
@[go_sem] theorem md16 (a:List AV):mdT 16 a=⟨[],false⟩:=rfl
@[go_sem] theorem md17 (a:List AV):mdT 17 a=⟨[],false⟩:=rfl
@[go_sem] theorem md18 (a:List AV):mdT 18 a=⟨[],false⟩:=rfl
@[go_sem] theorem md19 (a:List AV):mdT 19 a=⟨[],false⟩:=rfl
@[go_sem] theorem md20 (a:List AV):mdT 20 a=⟨[],false⟩:=rfl
@[go_sem] theorem md21 (a:List AV):mdT 21 a=⟨[],false⟩:=rfl
@[go_sem] theorem md22 (a:List AV):mdT 22 a=⟨[],false⟩:=rfl
@[go_sem] theorem md23 (a:List AV):mdT 23 a=⟨[],false⟩:=rfl
@[go_sem] theorem md24 (a:List AV):mdT 24 a=⟨[],false⟩:=rfl
@[go_sem] theorem md25 (a:List AV):mdT 25 a=⟨[],false⟩:=rfl
@[go_sem] theorem md26 (a:List AV):mdT 26 a=⟨[],false⟩:=rfl
@[go_sem] theorem md27 (a:List AV):mdT 27 a=⟨[],false⟩:=rfl
@[go_sem] theorem md28 (a:List AV):mdT 28 a=⟨[],false⟩:=rfl
@[go_sem] theorem md29 (a:List AV):mdT 29 a=⟨[],false⟩:=rfl
@[go_sem] theorem md30 (a:List AV):mdT 30 a=⟨[],false⟩:=rfl
@[go_sem] theorem md31 (a:List AV):mdT 31 a=⟨[],false⟩:=rfl
@[go_sem] theorem md32 (a:List AV):mdT 32 a=⟨[],false⟩:=rfl
@[go_sem] theorem md33 (a:List AV):mdT 33 a=⟨[],false⟩:=rfl
@[go_sem] theorem md34 (a:List AV):mdT 34 a=⟨[],false⟩:=rfl
@[go_sem] theorem md35 (a:List AV):mdT 35 a=⟨[],false⟩:=rfl
@[go_sem] theorem md36 (a:List AV):mdT 36 a=⟨[],false⟩:=rfl
@[go_sem] theorem md37 (a:List AV):mdT 37 a=⟨[],false⟩:=rfl
@[go_sem] theorem md38 (a:List AV):mdT 38 a=⟨[],false⟩:=rfl
@[go_sem] theorem md39 (a:List AV):mdT 39 a=⟨[],false⟩:=rfl
@[go_sem] theorem md40 (a:List AV):mdT 40 a=⟨[],false⟩:=rfl
@[go_sem] theorem md41 (a:List AV):mdT 41 a=⟨[],false⟩:=rfl
@[go_sem] theorem md42 (a:List AV):mdT 42 a=⟨[],false⟩:=rfl
@[go_sem] theorem md43 (a:List AV):mdT 43 a=⟨[],false⟩:=rfl
@[go_sem] theorem md44 (a:List AV):mdT 44 a=⟨[],false⟩:=rfl
@[go_sem] theorem md45 (a:List AV):mdT 45 a=⟨[],false⟩:=rfl
@[go_sem] theorem md46 (a:List AV):mdT 46 a=⟨[],false⟩:=rfl
@[go_sem] theorem md47 (a:List AV):mdT 47 a=⟨[],false⟩:=rfl
@[go_sem] theorem md48 (a:List AV):mdT 48 a=⟨[],false⟩:=rfl
@[go_sem] theorem md49 (a:List AV):mdT 49 a=⟨[],false⟩:=rfl
@[go_sem] theorem md50 (a:List AV):mdT 50 a=⟨[],false⟩:=rfl
@[go_sem] theorem md51 (a:List AV):mdT 51 a=⟨[],false⟩:=rfl
@[go_sem] theorem md52 (a:List AV):mdT 52 a=⟨[],false⟩:=rfl
@[go_sem] theorem md53 (a:List AV):mdT 53 a=⟨[],false⟩:=rfl
@[go_sem] theorem md54 (a:List AV):mdT 54 a=⟨[],false⟩:=rfl
@[go_sem] theorem md55 (a:List AV):mdT 55 a=⟨[],false⟩:=rfl
@[go_sem] theorem md56 (a:List AV):mdT 56 a=⟨[],false⟩:=rfl
@[go_sem] theorem md57 (a:List AV):mdT 57 a=⟨[],false⟩:=rfl
@[go_sem] theorem md58 (a:List AV):mdT 58 a=⟨[],false⟩:=rfl
@[go_sem] theorem md59 (a:List AV):mdT 59 a=⟨[],false⟩:=rfl
@[go_sem] theorem md60 (a:List AV):mdT 60 a=⟨[],false⟩:=rfl
@[go_sem] theorem md61 (a:List AV):mdT 61 a=⟨[],false⟩:=rfl
@[go_sem] theorem md62 (a:List AV):mdT 62 a=⟨[],false⟩:=rfl
@[go_sem] theorem md63 (a:List AV):mdT 63 a=⟨[],false⟩:=rfl
@[go_sem] theorem md64 (a:List AV):mdT 64 a=⟨[],false⟩:=rfl
@[go_sem] theorem md65 (a:List AV):mdT 65 a=⟨[],false⟩:=rfl
@[go_sem] theorem md66 (a:List AV):mdT 66 a=⟨[],false⟩:=rfl
@[go_sem] theorem md67 (a:List AV):mdT 67 a=⟨[],false⟩:=rfl
@[go_sem] theorem md68 (a:List AV):mdT 68 a=⟨[],false⟩:=rfl
@[go_sem] theorem md69 (a:List AV):mdT 69 a=⟨[],false⟩:=rfl
@[go_sem] theorem md70 (a:List AV):mdT 70 a=⟨[],false⟩:=rfl
@[go_sem] theorem md71 (a:List AV):mdT 71 a=⟨[],false⟩:=rfl
@[go_sem] theorem md72 (a:List AV):mdT 72 a=⟨[],false⟩:=rfl
@[go_sem] theorem md73 (a:List AV):mdT 73 a=⟨[0],true⟩:=rfl
@[go_sem] theorem md74 (a:List AV):mdT 74 a=⟨[],true⟩:=rfl
@[go_sem] theorem md75 (a:List AV):mdT 75 a=⟨[],false⟩:=rfl
@[go_sem] theorem md77 (a:List AV):mdT 77 a=⟨[],false⟩:=rfl
@[go_sem] theorem md79 (a:List AV):mdT 79 a=⟨[],false⟩:=rfl
@[go_sem] theorem md80 (a:List AV):mdT 80 a=⟨[],false⟩:=rfl
@[go_sem] theorem md81 (a:List AV):mdT 81 a=⟨[],false⟩:=rfl
@[go_sem] theorem md82 (a:List AV):mdT 82 a=⟨[],false⟩:=rfl
@[go_sem] theorem md83 (a:List AV):mdT 83 a=⟨[],false⟩:=rfl
@[go_sem] theorem md84 (a:List AV):mdT 84 a=⟨[],false⟩:=rfl
@[go_sem] theorem md85 (a:List AV):mdT 85 a=⟨[],false⟩:=rfl
@[go_sem] theorem md86 (a:List AV):mdT 86 a=⟨[],false⟩:=rfl
@[go_sem] theorem md87 (a:List AV):mdT 87 a=⟨[],false⟩:=rfl
@[go_sem] theorem md88 (a:List AV):mdT 88 a=⟨[],false⟩:=rfl
@[go_sem] theorem md89 (a:List AV):mdT 89 a=⟨[],true⟩:=rfl
@[go_sem] theorem md90 (a:List AV):mdT 90 a=⟨[0],true⟩:=rfl
@[go_sem] theorem md91 (a:List AV):mdT 91 a=⟨[],false⟩:=rfl
@[go_sem] theorem md92 (a:List AV):mdT 92 a=⟨[0],true⟩:=rfl
@[go_sem] theorem md93 (a:List AV):mdT 93 a=⟨[],false⟩:=rfl
@[go_sem] theorem md94 (a:List AV):mdT 94 a=⟨[],false⟩:=rfl
@[go_sem] theorem md95 (a:List AV):mdT 95 a=⟨[],false⟩:=rfl
@[go_sem] theorem md96 (a:List AV):mdT 96 a=⟨[],true⟩:=rfl
@[go_sem] theorem md97 (a:List AV):mdT 97 a=⟨[0],true⟩:=rfl
@[go_sem] theorem md98 (a:List AV):mdT 98 a=⟨[],false⟩:=rfl
@[go_sem] theorem md99 (a:List AV):mdT 99 a=⟨[],false⟩:=rfl
@[go_sem] theorem Ym (a:List AV):mdT 100 a=⟨[],false⟩:=rfl
@[go_sem] theorem Yn (a:List AV):mdT 101 a=⟨[],false⟩:=rfl
@[go_sem] theorem Yo (a:List AV):mdT 102 a=⟨[],false⟩:=rfl
@[go_sem] theorem Yp (a:List AV):mdT 103 a=⟨[],false⟩:=rfl
@[go_sem] theorem Yq (a:List AV):mdT 104 a=⟨[],false⟩:=rfl
@[go_sem] theorem Yr (a:List AV):mdT 105 a=⟨[],false⟩:=rfl
@[go_sem] theorem Ys (a:List AV):mdT 106 a=⟨[],false⟩:=rfl
@[go_sem] theorem Yt (a:List AV):mdT 107 a=⟨[],false⟩:=rfl
@[go_sem] theorem Yu (a:List AV):mdT 108 a=⟨[],false⟩:=rfl
@[go_sem] theorem Yv (a:List AV):mdT 109 a=⟨[],false⟩:=rfl
@[go_sem] theorem Yw (a:List AV):mdT 110 a=⟨[],false⟩:=rfl
@[go_sem] theorem Yx (a:List AV):mdT 111 a=⟨[0],true⟩:=rfl
@[go_sem] theorem Yy (a:List AV):mdT 112 a=⟨[0],true⟩:=rfl
@[go_sem] theorem Yz (a:List AV):mdT 113 a=⟨[],false⟩:=rfl
@[go_sem] theorem YA (a:List AV):mdT 114 a=⟨[],false⟩:=rfl
@[go_sem] theorem YB (a:List AV):mdT 115 a=⟨[],false⟩:=rfl
@[go_sem] theorem YC (a:List AV):mdT 116 a=⟨[],false⟩:=rfl
@[go_sem] theorem YD (a:List AV):mdT 117 a=⟨[],false⟩:=rfl
@[go_sem] theorem YE (a:List AV):mdT 118 a=⟨[],false⟩:=rfl
@[go_sem] theorem YF (a:List AV):mdT 119 a=⟨[],false⟩:=rfl
@[go_sem] theorem YG (a:List AV):mdT 120 a=⟨[],false⟩:=rfl
@[go_sem] theorem YH (a:List AV):mdT 121 a=⟨[],false⟩:=rfl
@[go_sem] theorem YI (a:List AV):mdT 122 a=⟨[],false⟩:=rfl
@[go_sem] theorem YJ (a:List AV):mdT 123 a=⟨[],false⟩:=rfl
@[go_sem] theorem YK (a:List AV):mdT 124 a=⟨[],false⟩:=rfl
@[go_sem] theorem YL (a:List AV):mdT 125 a=⟨[],false⟩:=rfl
@[go_sem] theorem YM (a:List AV):mdT 126 a=⟨[],false⟩:=rfl
@[go_sem] theorem YN (a:List AV):mdT 127 a=⟨[],false⟩:=rfl
@[go_sem] theorem YO (a:List AV):mdT 128 a=⟨[],false⟩:=rfl
@[go_sem] theorem YP (a:List AV):mdT 129 a=⟨[],false⟩:=rfl
@[go_sem] theorem YQ (a:List AV):mdT 130 a=⟨[],false⟩:=rfl
@[go_sem] theorem YR (a:List AV):mdT 131 a=⟨[],false⟩:=rfl
@[go_sem] theorem YS (a:List AV):mdT 132 a=⟨[],false⟩:=rfl
@[go_sem] theorem YT (a:List AV):mdT 133 a=⟨[],false⟩:=rfl
@[go_sem] theorem YU (a:List AV):mdT 134 a=⟨[],false⟩:=rfl
@[go_sem] theorem YV (a:List AV):mdT 135 a=⟨[],false⟩:=rfl
@[go_sem] theorem YW (a:List AV):mdT 136 a=⟨[],false⟩:=rfl
@[go_sem] theorem YX (a:List AV):mdT 137 a=⟨[],false⟩:=rfl
@[go_sem] theorem YY (a:List AV):mdT 138 a=⟨[],false⟩:=rfl
@[go_sem] theorem YZ (a:List AV):mdT 139 a=⟨[],false⟩:=rfl
@[go_sem] theorem Za (a:List AV):mdT 140 a=⟨[],false⟩:=rfl
@[go_sem] theorem Zb (a:List AV):mdT 141 a=⟨[],false⟩:=rfl
@[go_sem] theorem Zc (a:List AV):mdT 142 a=⟨[],false⟩:=rfl
@[go_sem] theorem Zd (a:List AV):mdT 143 a=⟨[],false⟩:=rfl
@[go_sem] theorem Ze (a:List AV):mdT 144 a=⟨[],false⟩:=rfl
@[go_sem] theorem Zf (a:List AV):mdT 145 a=⟨[],false⟩:=rfl
@[go_sem] theorem Zg (a:List AV):mdT 146 a=⟨[],false⟩:=rfl
@[go_sem] theorem Zh (a:List AV):mdT 147 a=⟨[],false⟩:=rfl
@[go_sem] theorem Zi (a:List AV):mdT 148 a=⟨[],false⟩:=rfl
@[go_sem] theorem Zj (a:List AV):mdT 149 a=⟨[],false⟩:=rfl
@[go_sem] theorem Zk (a:List AV):mdT 150 a=⟨[],false⟩:=rfl
@[go_sem] theorem Zl (a:List AV):mdT 151 a=⟨[0],true⟩:=rfl
@[go_sem] theorem Zm (a:List AV):mdT 153 a=⟨[],false⟩:=rfl
@[go_sem] theorem Zn (a:List AV):mdT 155 a=⟨[],false⟩:=rfl
@[go_sem] theorem Zo (a:List AV):mdT 156 a=⟨[],false⟩:=rfl
@[go_sem] theorem Zp (a:List AV):mdT 157 a=⟨[],false⟩:=rfl
@[go_sem] theorem Zq (a:List AV):mdT 158 a=⟨[],false⟩:=rfl
@[go_sem] theorem Zr (a:List AV):mdT 159 a=⟨[],false⟩:=rfl
@[go_sem] theorem Zs (a:List AV):mdT 160 a=⟨[],false⟩:=rfl
@[go_sem] theorem Zt (a:List AV):mdT 161 a=⟨[],false⟩:=rfl
@[go_sem] theorem Zu (a:List AV):mdT 162 a=⟨[0],true⟩:=rfl
@[go_sem] theorem Zv (a:List AV):mdT 163 a=⟨[0],true⟩:=rfl
@[go_sem] theorem Zw (a:List AV):mdT 164 a=⟨[],true⟩:=rfl
@[go_sem] theorem Zx (a:List AV):mdT 165 a=⟨[0],true⟩:=rfl
@[go_sem] theorem Zy (a:List AV):mdT 166 a=⟨[0],false⟩:=rfl
@[go_sem] theorem Zz (a:List AV):mdT 167 a=⟨[],false⟩:=rfl
@[go_sem] theorem ZA (a:List AV):mdT 168 a=⟨[],false⟩:=rfl
@[go_sem] theorem ZB (a:List AV):mdT 169 a=⟨[],false⟩:=rfl
@[go_sem] theorem ZC (a:List AV):mdT 170 a=⟨[],false⟩:=rfl
@[go_sem] theorem ZD (a:List AV):mdT 171 a=⟨[],false⟩:=rfl
@[go_sem] theorem ZE (a:List AV):mdT 172 a=⟨[],false⟩:=rfl
@[go_sem] theorem ZF (a:List AV):mdT 173 a=⟨[],false⟩:=rfl
@[go_sem] theorem ZG (a:List AV):mdT 174 a=⟨[],false⟩:=rfl
@[go_sem] theorem ZH (a:List AV):mdT 175 a=⟨[],false⟩:=rfl
@[go_sem] theorem ZI (a:List AV):mdT 176 a=⟨[],false⟩:=rfl
@[go_sem] theorem ZJ (a:List AV):mdT 177 a=⟨[],false⟩:=rfl
@[go_sem] theorem ZK (a:List AV):mdT 178 a=⟨[0],true⟩:=rfl
@[go_sem] theorem ZL (a:List AV):mdT 179 a=⟨[0],true⟩:=rfl
@[go_sem] theorem ZM (a:List AV):mdT 180 a=⟨[],false⟩:=rfl
@[go_sem] theorem ZN (a:List AV):mdT 181 a=⟨[],false⟩:=rfl
@[go_sem] theorem ZO (a:List AV):mdT 182 a=⟨[],false⟩:=rfl
@[go_sem] theorem ZP (a:List AV):mdT 183 a=⟨[],false⟩:=rfl
@[go_sem] theorem ZQ (a:List AV):mdT 184 a=⟨[],false⟩:=rfl
@[go_sem] theorem ZR (a:List AV):mdT 185 a=⟨[],false⟩:=rfl
@[go_sem] theorem ZS (a:List AV):mdT 186 a=⟨[],false⟩:=rfl
@[go_sem] theorem ZT (a:List AV):mdT 187 a=⟨[],false⟩:=rfl
@[go_sem] theorem ZU (a:List AV):mdT 188 a=⟨[],false⟩:=rfl
@[go_sem] theorem ZV (a:List AV):mdT 189 a=⟨[],false⟩:=rfl
@[go_sem] theorem ZW (a:List AV):mdT 190 a=⟨[],false⟩:=rfl
@[go_sem] theorem ZX (a:List AV):mdT 191 a=⟨[],false⟩:=rfl
@[go_sem] theorem ZY (a:List AV):mdT 192 a=⟨[],false⟩:=rfl
@[go_sem] theorem ZZ (a:List AV):mdT 193 a=⟨[],false⟩:=rfl
@[go_sem] theorem aaa (a:List AV):mdT 194 a=⟨[],false⟩:=rfl
@[go_sem] theorem aab (a:List AV):mdT 195 a=⟨[],false⟩:=rfl
@[go_sem] theorem aac (a:List AV):mdT 196 a=⟨[],false⟩:=rfl
@[go_sem] theorem aad (a:List AV):mdT 197 a=⟨[],false⟩:=rfl
@[go_sem] theorem aae (a:List AV):mdT 198 a=⟨[],false⟩:=rfl
@[go_sem] theorem aaf (a:List AV):mdT 199 a=⟨[],false⟩:=rfl
@[go_sem] theorem aag (a:List AV):mdT 200 a=⟨[],false⟩:=rfl
@[go_sem] theorem aah (a:List AV):mdT 201 a=⟨[],false⟩:=rfl
@[go_sem] theorem aai (a:List AV):mdT 202 a=⟨[],false⟩:=rfl
@[go_sem] theorem aaj (a:List AV):mdT 203 a=⟨[5,6],false⟩:=rfl
@[go_sem] theorem aak (a:List AV):mdT 204 a=⟨[],false⟩:=rfl
@[go_sem] theorem aal (a:List AV):mdT 205 a=⟨[],false⟩:=rfl
@[go_sem] theorem aam (a:List AV):mdT 206 a=⟨[],false⟩:=rfl
@[go_sem] theorem aan (a:List AV):mdT 207 a=⟨[],false⟩:=rfl
@[go_sem] theorem aao (a:List AV):mdT 208 a=⟨[],false⟩:=rfl
@[go_sem] theorem aap (a:List AV):mdT 209 a=⟨[],false⟩:=rfl
@[go_sem] theorem aaq (a:List AV):mdT 210 a=⟨[],false⟩:=rfl
@[go_sem] theorem aar (a:List AV):mdT 211 a=⟨[],false⟩:=rfl
@[go_sem] theorem aas (a:List AV):mdT 212 a=⟨[],false⟩:=rfl
@[go_sem] theorem aat (a:List AV):mdT 213 a=⟨[],false⟩:=rfl
@[go_sem] theorem aau (a:List AV):mdT 214 a=⟨[],false⟩:=rfl
@[go_sem] theorem aav (a:List AV):mdT 215 a=⟨[],false⟩:=rfl
@[go_sem] theorem aaw (a:List AV):mdT 216 a=⟨[],false⟩:=rfl
@[go_sem] theorem aax (a:List AV):mdT 217 a=⟨[],false⟩:=rfl
@[go_sem] theorem aay (a:List AV):mdT 218 a=⟨[],false⟩:=rfl
@[go_sem] theorem aaz (a:List AV):mdT 219 a=⟨[],false⟩:=rfl
@[go_sem] theorem aaA (a:List AV):mdT 220 a=⟨[],false⟩:=rfl
@[go_sem] theorem aaB (a:List AV):mdT 221 a=⟨[],false⟩:=rfl
@[go_sem] theorem aaC (a:List AV):mdT 222 a=⟨[],false⟩:=rfl
@[go_sem] theorem aaD (a:List AV):mdT 223 a=⟨[],false⟩:=rfl
@[go_sem] theorem aaE (a:List AV):mdT 224 a=⟨[],false⟩:=rfl
@[go_sem] theorem aaF (a:List AV):mdT 225 a=⟨[],false⟩:=rfl
@[go_sem] theorem aaG (a:List AV):mdT 226 a=⟨[],false⟩:=rfl
@[go_sem] theorem aaH (a:List AV):mdT 227 a=⟨[],false⟩:=rfl
@[go_sem] theorem aaI (a:List AV):mdT 228 a=⟨[],false⟩:=rfl
@[go_sem] theorem aaJ (a:List AV):mdT 229 a=⟨[],false⟩:=rfl
@[go_sem] theorem aaK (a:List AV):mdT 230 a=⟨[],false⟩:=rfl
@[go_sem] theorem aaL (a:List AV):mdT 231 a=⟨[],false⟩:=rfl
@[go_sem] theorem aaM (a:List AV):mdT 232 a=⟨[],false⟩:=rfl
@[go_sem] theorem aaN (a:List AV):mdT 233 a=⟨[],false⟩:=rfl
@[go_sem] theorem aaO (a:List AV):mdT 234 a=⟨[],false⟩:=rfl
@[go_sem] theorem aaP (a:List AV):mdT 236 a=⟨[],false⟩:=rfl
@[go_sem] theorem aaQ (a:List AV):mdT 238 a=⟨[],false⟩:=rfl
@[go_sem] theorem aaR (a:List AV):mdT 240 a=⟨[],false⟩:=rfl
@[go_sem] theorem aaS (a:List AV):mdT 241 a=⟨[],false⟩:=rfl
@[go_sem] theorem aaT (a:List AV):mdT 242 a=⟨[0],true⟩:=rfl
@[go_sem] theorem aaU (a:List AV):mdT 243 a=⟨[0,1],true⟩:=rfl
@[go_sem] theorem aaV (a:List AV):mdT 244 a=⟨[1,2],true⟩:=rfl
@[go_sem] theorem aaW (a:List AV):mdT 245 a=⟨[],false⟩:=rfl
@[go_sem] theorem aaX (a:List AV):mdT 246 a=⟨[],false⟩:=rfl
@[go_sem] theorem aaY (a:List AV):mdT 247 a=⟨[],false⟩:=rfl
@[go_sem] theorem aaZ (a:List AV):mdT 248 a=⟨[],false⟩:=rfl
@[go_sem] theorem aba (a:List AV):mdT 249 a=⟨[0],false⟩:=rfl
@[go_sem] theorem abb (a:List AV):mdT 250 a=⟨[],false⟩:=rfl
@[go_sem] theorem abc (a:List AV):mdT 251 a=⟨[],false⟩:=rfl
@[go_sem] theorem abd (a:List AV):mdT 252 a=⟨[0,1],true⟩:=rfl
@[go_sem] theorem abe (a:List AV):mdT 253 a=⟨[],false⟩:=rfl
@[go_sem] theorem abf (a:List AV):mdT 254 a=⟨[],false⟩:=rfl
@[go_sem] theorem abg (a:List AV):mdT 255 a=⟨[],false⟩:=rfl
@[go_sem] theorem abh (a:List AV):mdT 256 a=⟨[],false⟩:=rfl
@[go_sem] theorem abi (a:List AV):mdT 257 a=⟨[],false⟩:=rfl
@[go_sem] theorem abj (a:List AV):mdT 258 a=⟨[],false⟩:=rfl
@[go_sem] theorem abk (a:List AV):mdT 259 a=⟨[],false⟩:=rfl
@[go_sem] theorem abl (a:List AV):mdT 260 a=⟨[],false⟩:=rfl
@[go_sem] theorem abm (a:List AV):mdT 261 a=⟨[],false⟩:=rfl
@[go_sem] theorem abn (a:List AV):mdT 263 a=⟨[],false⟩:=rfl
@[go_sem] theorem abo (a:List AV):mdT 266 a=⟨[],false⟩:=rfl
@[go_sem] theorem abp (a:List AV):mdT 267 a=⟨[],false⟩:=rfl
@[go_sem] theorem abq (a:List AV):mdT 268 a=⟨[],false⟩:=rfl
@[go_sem] theorem abr (a:List AV):mdT 269 a=⟨[],false⟩:=rfl
@[go_sem] theorem abt (a:List AV):mdT 270 a=⟨[],false⟩:=rfl
@[go_sem] theorem abu (a:List AV):mdT 271 a=⟨[],false⟩:=rfl
@[go_sem] theorem abv (a:List AV):mdT 272 a=⟨[],false⟩:=rfl
@[go_sem] theorem abw (a:List AV):mdT 273 a=⟨[],false⟩:=rfl
@[go_sem] theorem abx (a:List AV):mdT 274 a=⟨[],false⟩:=rfl
@[go_sem] theorem aby (a:List AV):mdT 275 a=⟨[],false⟩:=rfl
@[go_sem] theorem abz (a:List AV):mdT 276 a=⟨[],false⟩:=rfl
@[go_sem] theorem abA (a:List AV):mdT 277 a=⟨[],false⟩:=rfl
@[go_sem] theorem abB (a:List AV):mdT 278 a=⟨[],false⟩:=rfl
@[go_sem] theorem abC (a:List AV):mdT 279 a=⟨[],false⟩:=rfl
@[go_sem] theorem abD (a:List AV):mdT 280 a=⟨[],false⟩:=rfl
@[go_sem] theorem abE (a:List AV):mdT 281 a=⟨[],false⟩:=rfl
@[go_sem] theorem abF (a:List AV):mdT 288 a=⟨[],false⟩:=rfl
@[go_sem] theorem abG (a:List AV):mdT 289 a=bif spf (fnId a) then ⟨[0,1],true⟩ else ⟨[],false⟩:=rfl
@[go_sem] theorem abH (a:List AV):mdT 290 a=⟨[1000],false⟩:=rfl
@[go_sem] theorem abI (a:List AV):mdT 291 a=⟨[0],false⟩:=rfl
@[go_sem] theorem abJ (a:List AV):mdT 292 a=⟨[],false⟩:=rfl
@[go_sem] theorem abK (a:List AV):mdT 293 a=⟨[],false⟩:=rfl
@[go_sem] theorem abL (a:List AV):mdT 294 a=⟨[],false⟩:=rfl
@[go_sem] theorem abM (a:List AV):mdT 295 a=⟨[],false⟩:=rfl
@[go_sem] theorem abN (a:List AV):mdT 298 a=⟨[],false⟩:=rfl
@[go_sem] theorem abO (a:List AV):mdT 299 a=⟨[],false⟩:=rfl
@[go_sem] theorem abP (a:List AV):mdT 300 a=⟨[],false⟩:=rfl
@[go_sem] theorem abQ (a:List AV):mdT 308 a=⟨[0],false⟩:=rfl
@[go_sem] theorem abR (a:List AV):mdT 314 a=⟨[],false⟩:=rfl
@[go_sem] theorem abS (a:List AV):mdT 318 a=⟨[],false⟩:=rfl
@[go_sem] theorem abT (a:List AV):mdT 319 a=⟨[],false⟩:=rfl
@[go_sem] theorem abU (a:List AV):mdT 325 a=⟨[],false⟩:=rfl
@[go_sem] theorem abV (a:List AV):mdT 334 a=⟨[],false⟩:=rfl
@[go_sem] theorem abW (a:List AV):mdT 335 a=⟨[],false⟩:=rfl
end Go.Proofs.Qb
