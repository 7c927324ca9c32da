/- The things of the program. -/
import Derived.Test.YtpkcmjnlnbddbaaGreatDoorXbT
import Derived.Test.YtpkcmjnlnbddbaaGreatDoorXb33
set_option linter.all false
set_option maxRecDepth 100000
set_option maxHeartbeats 400000
namespace Go.Proofs.Qb
open Go
structure GNode where
 name:ByteArray
 label:List Int
 watch:Int
 deriving DecidableEq
def GNode.encS (x:GNode):List AV:=[.lit (.string x.name),.sl (ab eI x.label),.lit (.int .i64 x.watch)]
theorem Cj (xs:List GNode)(a0:ByteArray)(a1:List Int)(a2:Int):ab GNode.encS xs++[[.lit (.string a0),.sl (ab eI a1),.lit (.int .i64 a2)]]=ab GNode.encS (xs++[(GNode.mk a0 a1 a2)]):=au (e:=GNode.encS) xs (GNode.mk a0 a1 a2)
theorem Ds (xs:List GNode)(i:Nat)(a0:ByteArray)(a1:List Int)(a2:Int):(ab GNode.encS xs).set i [.lit (.string a0),.sl (ab eI a1),.lit (.int .i64 a2)]=ab GNode.encS (xs.set i (GNode.mk a0 a1 a2)):=aU (e:=GNode.encS) xs i (GNode.mk a0 a1 a2)
theorem Dt (xs:List GNode):(ab GNode.encS xs).all (fun r=>r.length == 3)=true:=aV (e:=GNode.encS) (fun _=>rfl) xs
theorem Du (a0:ByteArray)(a1:List Int)(a2:Int):[[.lit (.string a0),.sl (ab eI a1),.lit (.int .i64 a2)]]=ab GNode.encS [(GNode.mk a0 a1 a2)]:=rfl
theorem Ck (xs:List GNode)(a0:ByteArray)(a1:List Int)(a2:Int):[.lit (.string a0),.sl (ab eI a1),.lit (.int .i64 a2)]::ab GNode.encS xs=ab GNode.encS ((GNode.mk a0 a1 a2)::xs):=rfl
theorem xZ (xs:List GNode)(a0:ByteArray)(a2:Int):ab GNode.encS xs++[[.lit (.string a0),.sl [],.lit (.int .i64 a2)]]=ab GNode.encS (xs++[(GNode.mk a0 [] a2)]):=au (e:=GNode.encS) xs (GNode.mk a0 [] a2)
theorem zS (a0:ByteArray)(a2:Int):[[.lit (.string a0),.sl [],.lit (.int .i64 a2)]]=ab GNode.encS [(GNode.mk a0 [] a2)]:=rfl
theorem ya (xs:List GNode)(a0:ByteArray)(a2:Int):[.lit (.string a0),.sl [],.lit (.int .i64 a2)]::ab GNode.encS xs=ab GNode.encS ((GNode.mk a0 [] a2)::xs):=rfl
attribute [go_sem] GNode.encS Cj Ds Dt Du Ck xZ zS ya
def GNode.encO (x:GNode):List AV:=[.lit (.string x.name),.own (ab eI x.label),.lit (.int .i64 x.watch)]
theorem Cl (xs:List GNode)(a0:ByteArray)(a1:List Int)(a2:Int):ab GNode.encO xs++[[.lit (.string a0),.own (ab eI a1),.lit (.int .i64 a2)]]=ab GNode.encO (xs++[(GNode.mk a0 a1 a2)]):=au (e:=GNode.encO) xs (GNode.mk a0 a1 a2)
theorem Dv (xs:List GNode)(i:Nat)(a0:ByteArray)(a1:List Int)(a2:Int):(ab GNode.encO xs).set i [.lit (.string a0),.own (ab eI a1),.lit (.int .i64 a2)]=ab GNode.encO (xs.set i (GNode.mk a0 a1 a2)):=aU (e:=GNode.encO) xs i (GNode.mk a0 a1 a2)
theorem Dw (xs:List GNode):(ab GNode.encO xs).all (fun r=>r.length == 3)=true:=aV (e:=GNode.encO) (fun _=>rfl) xs
theorem Dx (a0:ByteArray)(a1:List Int)(a2:Int):[[.lit (.string a0),.own (ab eI a1),.lit (.int .i64 a2)]]=ab GNode.encO [(GNode.mk a0 a1 a2)]:=rfl
theorem Cm (xs:List GNode)(a0:ByteArray)(a1:List Int)(a2:Int):[.lit (.string a0),.own (ab eI a1),.lit (.int .i64 a2)]::ab GNode.encO xs=ab GNode.encO ((GNode.mk a0 a1 a2)::xs):=rfl
theorem Dy (xs:List GNode):frsR (ab GNode.encO xs)=true:=bR (e:=GNode.encO) (fun x=>by simp only [go_sem,GNode.encO]) xs
theorem Cn (xs:List GNode):bM (ab GNode.encO xs)=ab GNode.encS xs:=bz (e:=GNode.encO) (fun x=>by simp only [go_sem,dV,toSl,GNode.encO,GNode.encS]) xs
theorem Dz (n:Nat):List.replicate n [.lit (.string (ByteArray.mk #[])),.own [],.lit (.int .i64 0)]=ab GNode.encO (List.replicate n (GNode.mk (ByteArray.mk #[]) ([]) 0)):=aT (e:=GNode.encO) n (GNode.mk (ByteArray.mk #[]) ([]) 0)
theorem yb (xs:List GNode)(a0:ByteArray)(a2:Int):ab GNode.encO xs++[[.lit (.string a0),.own [],.lit (.int .i64 a2)]]=ab GNode.encO (xs++[(GNode.mk a0 [] a2)]):=au (e:=GNode.encO) xs (GNode.mk a0 [] a2)
theorem zT (a0:ByteArray)(a2:Int):[[.lit (.string a0),.own [],.lit (.int .i64 a2)]]=ab GNode.encO [(GNode.mk a0 [] a2)]:=rfl
theorem yc (xs:List GNode)(a0:ByteArray)(a2:Int):[.lit (.string a0),.own [],.lit (.int .i64 a2)]::ab GNode.encO xs=ab GNode.encO ((GNode.mk a0 [] a2)::xs):=rfl
attribute [go_sem] GNode.encO Cl Dv Dw Dx Cm Dy Cn Dz yb zT yc
structure GTie where
 from_:Int
 to:Int
 low:Int
 high:Int
 free:Bool
 deriving DecidableEq
def GTie.enc (x:GTie):List AV:=[.lit (.int .i64 x.from_),.lit (.int .i64 x.to),.lit (.int .i64 x.low),.lit (.int .i64 x.high),.lit (.bool x.free)]
theorem EU (xs:List GTie)(a0 a1 a2 a3:Int)(a4:Bool):ab GTie.enc xs++[[.lit (.int .i64 a0),.lit (.int .i64 a1),.lit (.int .i64 a2),.lit (.int .i64 a3),.lit (.bool a4)]]=ab GTie.enc (xs++[(GTie.mk a0 a1 a2 a3 a4)]):=au (e:=GTie.enc) xs (GTie.mk a0 a1 a2 a3 a4)
theorem HI (xs:List GTie)(i:Nat)(a0 a1 a2 a3:Int)(a4:Bool):(ab GTie.enc xs).set i [.lit (.int .i64 a0),.lit (.int .i64 a1),.lit (.int .i64 a2),.lit (.int .i64 a3),.lit (.bool a4)]=ab GTie.enc (xs.set i (GTie.mk a0 a1 a2 a3 a4)):=aU (e:=GTie.enc) xs i (GTie.mk a0 a1 a2 a3 a4)
theorem HJ (xs:List GTie):(ab GTie.enc xs).all (fun r=>r.length == 5)=true:=aV (e:=GTie.enc) (fun _=>rfl) xs
theorem HK (a0 a1 a2 a3:Int)(a4:Bool):[[.lit (.int .i64 a0),.lit (.int .i64 a1),.lit (.int .i64 a2),.lit (.int .i64 a3),.lit (.bool a4)]]=ab GTie.enc [(GTie.mk a0 a1 a2 a3 a4)]:=rfl
theorem EV (xs:List GTie)(a0 a1 a2 a3:Int)(a4:Bool):[.lit (.int .i64 a0),.lit (.int .i64 a1),.lit (.int .i64 a2),.lit (.int .i64 a3),.lit (.bool a4)]::ab GTie.enc xs=ab GTie.enc ((GTie.mk a0 a1 a2 a3 a4)::xs):=rfl
theorem HL (xs:List GTie):frsR (ab GTie.enc xs)=true:=bR (e:=GTie.enc) (fun x=>by simp only [go_sem,GTie.enc]) xs
theorem EW (xs:List GTie):bM (ab GTie.enc xs)=ab GTie.enc xs:=bz (e:=GTie.enc) (fun x=>by simp only [go_sem,dV,toSl,GTie.enc]) xs
theorem HM (n:Nat):List.replicate n [.lit (.int .i64 0),.lit (.int .i64 0),.lit (.int .i64 0),.lit (.int .i64 0),.lit (.bool false)]=ab GTie.enc (List.replicate n (GTie.mk 0 0 0 0 false)):=aT (e:=GTie.enc) n (GTie.mk 0 0 0 0 false)
attribute [go_sem] GTie.enc EU HI HJ HK EV HL EW HM
structure GShow where
 nodes:List GNode
 ties:List GTie
 horizon:Int
 deriving DecidableEq
def GShow.encS (x:GShow):List AV:=[.sl (ab GNode.encS x.nodes),.sl (ab GTie.enc x.ties),.lit (.int .i64 x.horizon)]
theorem Co (xs:List GShow)(a0:List GNode)(a1:List GTie)(a2:Int):ab GShow.encS xs++[[.sl (ab GNode.encS a0),.sl (ab GTie.enc a1),.lit (.int .i64 a2)]]=ab GShow.encS (xs++[(GShow.mk a0 a1 a2)]):=au (e:=GShow.encS) xs (GShow.mk a0 a1 a2)
theorem DA (xs:List GShow)(i:Nat)(a0:List GNode)(a1:List GTie)(a2:Int):(ab GShow.encS xs).set i [.sl (ab GNode.encS a0),.sl (ab GTie.enc a1),.lit (.int .i64 a2)]=ab GShow.encS (xs.set i (GShow.mk a0 a1 a2)):=aU (e:=GShow.encS) xs i (GShow.mk a0 a1 a2)
theorem DB (xs:List GShow):(ab GShow.encS xs).all (fun r=>r.length == 3)=true:=aV (e:=GShow.encS) (fun _=>rfl) xs
theorem DC (a0:List GNode)(a1:List GTie)(a2:Int):[[.sl (ab GNode.encS a0),.sl (ab GTie.enc a1),.lit (.int .i64 a2)]]=ab GShow.encS [(GShow.mk a0 a1 a2)]:=rfl
theorem Cp (xs:List GShow)(a0:List GNode)(a1:List GTie)(a2:Int):[.sl (ab GNode.encS a0),.sl (ab GTie.enc a1),.lit (.int .i64 a2)]::ab GShow.encS xs=ab GShow.encS ((GShow.mk a0 a1 a2)::xs):=rfl
theorem yd (xs:List GShow)(a1:List GTie)(a2:Int):ab GShow.encS xs++[[.sl [],.sl (ab GTie.enc a1),.lit (.int .i64 a2)]]=ab GShow.encS (xs++[(GShow.mk [] a1 a2)]):=au (e:=GShow.encS) xs (GShow.mk [] a1 a2)
theorem zU (a1:List GTie)(a2:Int):[[.sl [],.sl (ab GTie.enc a1),.lit (.int .i64 a2)]]=ab GShow.encS [(GShow.mk [] a1 a2)]:=rfl
theorem ye (xs:List GShow)(a1:List GTie)(a2:Int):[.sl [],.sl (ab GTie.enc a1),.lit (.int .i64 a2)]::ab GShow.encS xs=ab GShow.encS ((GShow.mk [] a1 a2)::xs):=rfl
theorem yf (xs:List GShow)(a0:List GNode)(a2:Int):ab GShow.encS xs++[[.sl (ab GNode.encS a0),.sl [],.lit (.int .i64 a2)]]=ab GShow.encS (xs++[(GShow.mk a0 [] a2)]):=au (e:=GShow.encS) xs (GShow.mk a0 [] a2)
theorem zV (a0:List GNode)(a2:Int):[[.sl (ab GNode.encS a0),.sl [],.lit (.int .i64 a2)]]=ab GShow.encS [(GShow.mk a0 [] a2)]:=rfl
theorem yg (xs:List GShow)(a0:List GNode)(a2:Int):[.sl (ab GNode.encS a0),.sl [],.lit (.int .i64 a2)]::ab GShow.encS xs=ab GShow.encS ((GShow.mk a0 [] a2)::xs):=rfl
theorem yh (xs:List GShow)(a2:Int):ab GShow.encS xs++[[.sl [],.sl [],.lit (.int .i64 a2)]]=ab GShow.encS (xs++[(GShow.mk [] [] a2)]):=au (e:=GShow.encS) xs (GShow.mk [] [] a2)
theorem zW (a2:Int):[[.sl [],.sl [],.lit (.int .i64 a2)]]=ab GShow.encS [(GShow.mk [] [] a2)]:=rfl
theorem yi (xs:List GShow)(a2:Int):[.sl [],.sl [],.lit (.int .i64 a2)]::ab GShow.encS xs=ab GShow.encS ((GShow.mk [] [] a2)::xs):=rfl
attribute [go_sem] GShow.encS Co DA DB DC Cp yd zU ye yf zV yg yh zW yi
def GShow.encO (x:GShow):List AV:=[.own (ab GNode.encO x.nodes),.own (ab GTie.enc x.ties),.lit (.int .i64 x.horizon)]
theorem Cq (xs:List GShow)(a0:List GNode)(a1:List GTie)(a2:Int):ab GShow.encO xs++[[.own (ab GNode.encO a0),.own (ab GTie.enc a1),.lit (.int .i64 a2)]]=ab GShow.encO (xs++[(GShow.mk a0 a1 a2)]):=au (e:=GShow.encO) xs (GShow.mk a0 a1 a2)
theorem DD (xs:List GShow)(i:Nat)(a0:List GNode)(a1:List GTie)(a2:Int):(ab GShow.encO xs).set i [.own (ab GNode.encO a0),.own (ab GTie.enc a1),.lit (.int .i64 a2)]=ab GShow.encO (xs.set i (GShow.mk a0 a1 a2)):=aU (e:=GShow.encO) xs i (GShow.mk a0 a1 a2)
theorem DE (xs:List GShow):(ab GShow.encO xs).all (fun r=>r.length == 3)=true:=aV (e:=GShow.encO) (fun _=>rfl) xs
theorem DF (a0:List GNode)(a1:List GTie)(a2:Int):[[.own (ab GNode.encO a0),.own (ab GTie.enc a1),.lit (.int .i64 a2)]]=ab GShow.encO [(GShow.mk a0 a1 a2)]:=rfl
theorem Cr (xs:List GShow)(a0:List GNode)(a1:List GTie)(a2:Int):[.own (ab GNode.encO a0),.own (ab GTie.enc a1),.lit (.int .i64 a2)]::ab GShow.encO xs=ab GShow.encO ((GShow.mk a0 a1 a2)::xs):=rfl
theorem DG (xs:List GShow):frsR (ab GShow.encO xs)=true:=bR (e:=GShow.encO) (fun x=>by simp only [go_sem,GShow.encO]) xs
theorem Cs (xs:List GShow):bM (ab GShow.encO xs)=ab GShow.encS xs:=bz (e:=GShow.encO) (fun x=>by simp only [go_sem,dV,toSl,GShow.encO,GShow.encS]) xs
theorem DI (n:Nat):List.replicate n [.own [],.own [],.lit (.int .i64 0)]=ab GShow.encO (List.replicate n (GShow.mk ([]) ([]) 0)):=aT (e:=GShow.encO) n (GShow.mk ([]) ([]) 0)
theorem yj (xs:List GShow)(a1:List GTie)(a2:Int):ab GShow.encO xs++[[.own [],.own (ab GTie.enc a1),.lit (.int .i64 a2)]]=ab GShow.encO (xs++[(GShow.mk [] a1 a2)]):=au (e:=GShow.encO) xs (GShow.mk [] a1 a2)
theorem zX (a1:List GTie)(a2:Int):[[.own [],.own (ab GTie.enc a1),.lit (.int .i64 a2)]]=ab GShow.encO [(GShow.mk [] a1 a2)]:=rfl
theorem yk (xs:List GShow)(a1:List GTie)(a2:Int):[.own [],.own (ab GTie.enc a1),.lit (.int .i64 a2)]::ab GShow.encO xs=ab GShow.encO ((GShow.mk [] a1 a2)::xs):=rfl
theorem yl (xs:List GShow)(a0:List GNode)(a2:Int):ab GShow.encO xs++[[.own (ab GNode.encO a0),.own [],.lit (.int .i64 a2)]]=ab GShow.encO (xs++[(GShow.mk a0 [] a2)]):=au (e:=GShow.encO) xs (GShow.mk a0 [] a2)
theorem zY (a0:List GNode)(a2:Int):[[.own (ab GNode.encO a0),.own [],.lit (.int .i64 a2)]]=ab GShow.encO [(GShow.mk a0 [] a2)]:=rfl
theorem ym (xs:List GShow)(a0:List GNode)(a2:Int):[.own (ab GNode.encO a0),.own [],.lit (.int .i64 a2)]::ab GShow.encO xs=ab GShow.encO ((GShow.mk a0 [] a2)::xs):=rfl
theorem yn (xs:List GShow)(a2:Int):ab GShow.encO xs++[[.own [],.own [],.lit (.int .i64 a2)]]=ab GShow.encO (xs++[(GShow.mk [] [] a2)]):=au (e:=GShow.encO) xs (GShow.mk [] [] a2)
theorem zZ (a2:Int):[[.own [],.own [],.lit (.int .i64 a2)]]=ab GShow.encO [(GShow.mk [] [] a2)]:=rfl
theorem yo (xs:List GShow)(a2:Int):[.own [],.own [],.lit (.int .i64 a2)]::ab GShow.encO xs=ab GShow.encO ((GShow.mk [] [] a2)::xs):=rfl
attribute [go_sem] GShow.encO Cq DD DE DF Cr DG Cs DI yj zX yk yl zY ym yn zZ yo
structure GChoice where
 lengths:List Int
 values:List Int
 deriving DecidableEq
def GChoice.encS (x:GChoice):List AV:=[.sl (ab eI x.lengths),.sl (ab eI x.values)]
theorem yp (xs:List GChoice)(a0 a1:List Int):ab GChoice.encS xs++[[.sl (ab eI a0),.sl (ab eI a1)]]=ab GChoice.encS (xs++[(GChoice.mk a0 a1)]):=au (e:=GChoice.encS) xs (GChoice.mk a0 a1)
theorem Aa (xs:List GChoice)(i:Nat)(a0 a1:List Int):(ab GChoice.encS xs).set i [.sl (ab eI a0),.sl (ab eI a1)]=ab GChoice.encS (xs.set i (GChoice.mk a0 a1)):=aU (e:=GChoice.encS) xs i (GChoice.mk a0 a1)
theorem Ab (xs:List GChoice):(ab GChoice.encS xs).all (fun r=>r.length == 2)=true:=aV (e:=GChoice.encS) (fun _=>rfl) xs
theorem Ac (a0 a1:List Int):[[.sl (ab eI a0),.sl (ab eI a1)]]=ab GChoice.encS [(GChoice.mk a0 a1)]:=rfl
theorem yq (xs:List GChoice)(a0 a1:List Int):[.sl (ab eI a0),.sl (ab eI a1)]::ab GChoice.encS xs=ab GChoice.encS ((GChoice.mk a0 a1)::xs):=rfl
theorem vu (xs:List GChoice)(a1:List Int):ab GChoice.encS xs++[[.sl [],.sl (ab eI a1)]]=ab GChoice.encS (xs++[(GChoice.mk [] a1)]):=au (e:=GChoice.encS) xs (GChoice.mk [] a1)
theorem wK (a1:List Int):[[.sl [],.sl (ab eI a1)]]=ab GChoice.encS [(GChoice.mk [] a1)]:=rfl
theorem vw (xs:List GChoice)(a1:List Int):[.sl [],.sl (ab eI a1)]::ab GChoice.encS xs=ab GChoice.encS ((GChoice.mk [] a1)::xs):=rfl
theorem vx (xs:List GChoice)(a0:List Int):ab GChoice.encS xs++[[.sl (ab eI a0),.sl []]]=ab GChoice.encS (xs++[(GChoice.mk a0 [])]):=au (e:=GChoice.encS) xs (GChoice.mk a0 [])
theorem wL (a0:List Int):[[.sl (ab eI a0),.sl []]]=ab GChoice.encS [(GChoice.mk a0 [])]:=rfl
theorem vy (xs:List GChoice)(a0:List Int):[.sl (ab eI a0),.sl []]::ab GChoice.encS xs=ab GChoice.encS ((GChoice.mk a0 [])::xs):=rfl
theorem vz (xs:List GChoice)  : ab GChoice.encS xs++[[.sl [],.sl []]]=ab GChoice.encS (xs++[(GChoice.mk [] [])]):=au (e:=GChoice.encS) xs (GChoice.mk [] [])
theorem wM  : [[.sl [],.sl []]]=ab GChoice.encS [(GChoice.mk [] [])]:=rfl
theorem vA (xs:List GChoice)  : [.sl [],.sl []]::ab GChoice.encS xs=ab GChoice.encS ((GChoice.mk [] [])::xs):=rfl
attribute [go_sem] GChoice.encS yp Aa Ab Ac yq vu wK vw vx wL vy vz wM vA
def GChoice.encO (x:GChoice):List AV:=[.own (ab eI x.lengths),.own (ab eI x.values)]
theorem yr (xs:List GChoice)(a0 a1:List Int):ab GChoice.encO xs++[[.own (ab eI a0),.own (ab eI a1)]]=ab GChoice.encO (xs++[(GChoice.mk a0 a1)]):=au (e:=GChoice.encO) xs (GChoice.mk a0 a1)
theorem Ad (xs:List GChoice)(i:Nat)(a0 a1:List Int):(ab GChoice.encO xs).set i [.own (ab eI a0),.own (ab eI a1)]=ab GChoice.encO (xs.set i (GChoice.mk a0 a1)):=aU (e:=GChoice.encO) xs i (GChoice.mk a0 a1)
theorem Ae (xs:List GChoice):(ab GChoice.encO xs).all (fun r=>r.length == 2)=true:=aV (e:=GChoice.encO) (fun _=>rfl) xs
theorem Af (a0 a1:List Int):[[.own (ab eI a0),.own (ab eI a1)]]=ab GChoice.encO [(GChoice.mk a0 a1)]:=rfl
theorem yu (xs:List GChoice)(a0 a1:List Int):[.own (ab eI a0),.own (ab eI a1)]::ab GChoice.encO xs=ab GChoice.encO ((GChoice.mk a0 a1)::xs):=rfl
theorem Ag (xs:List GChoice):frsR (ab GChoice.encO xs)=true:=bR (e:=GChoice.encO) (fun x=>by simp only [go_sem,GChoice.encO]) xs
theorem yw (xs:List GChoice):bM (ab GChoice.encO xs)=ab GChoice.encS xs:=bz (e:=GChoice.encO) (fun x=>by simp only [go_sem,dV,toSl,GChoice.encO,GChoice.encS]) xs
theorem Ah (n:Nat):List.replicate n [.own [],.own []]=ab GChoice.encO (List.replicate n (GChoice.mk ([]) ([]))):=aT (e:=GChoice.encO) n (GChoice.mk ([]) ([]))
theorem vB (xs:List GChoice)(a1:List Int):ab GChoice.encO xs++[[.own [],.own (ab eI a1)]]=ab GChoice.encO (xs++[(GChoice.mk [] a1)]):=au (e:=GChoice.encO) xs (GChoice.mk [] a1)
theorem wN (a1:List Int):[[.own [],.own (ab eI a1)]]=ab GChoice.encO [(GChoice.mk [] a1)]:=rfl
theorem vC (xs:List GChoice)(a1:List Int):[.own [],.own (ab eI a1)]::ab GChoice.encO xs=ab GChoice.encO ((GChoice.mk [] a1)::xs):=rfl
theorem vD (xs:List GChoice)(a0:List Int):ab GChoice.encO xs++[[.own (ab eI a0),.own []]]=ab GChoice.encO (xs++[(GChoice.mk a0 [])]):=au (e:=GChoice.encO) xs (GChoice.mk a0 [])
theorem wO (a0:List Int):[[.own (ab eI a0),.own []]]=ab GChoice.encO [(GChoice.mk a0 [])]:=rfl
theorem vE (xs:List GChoice)(a0:List Int):[.own (ab eI a0),.own []]::ab GChoice.encO xs=ab GChoice.encO ((GChoice.mk a0 [])::xs):=rfl
theorem vF (xs:List GChoice)  : ab GChoice.encO xs++[[.own [],.own []]]=ab GChoice.encO (xs++[(GChoice.mk [] [])]):=au (e:=GChoice.encO) xs (GChoice.mk [] [])
theorem wP  : [[.own [],.own []]]=ab GChoice.encO [(GChoice.mk [] [])]:=rfl
theorem vG (xs:List GChoice)  : [.own [],.own []]::ab GChoice.encO xs=ab GChoice.encO ((GChoice.mk [] [])::xs):=rfl
attribute [go_sem] GChoice.encO yr Ad Ae Af yu Ag yw Ah vB wN vC vD wO vE vF wP vG
structure aB where
 low:Int
 high:Int
 deriving DecidableEq
def aB.enc (x:aB):List AV:=[.lit (.int .i64 x.low),.lit (.int .i64 x.high)]
theorem rq (xs:List aB)(a0 a1:Int):ab aB.enc xs++[[.lit (.int .i64 a0),.lit (.int .i64 a1)]]=ab aB.enc (xs++[(aB.mk a0 a1)]):=au (e:=aB.enc) xs (aB.mk a0 a1)
theorem yx (xs:List aB)(i:Nat)(a0 a1:Int):(ab aB.enc xs).set i [.lit (.int .i64 a0),.lit (.int .i64 a1)]=ab aB.enc (xs.set i (aB.mk a0 a1)):=aU (e:=aB.enc) xs i (aB.mk a0 a1)
theorem yy (xs:List aB):(ab aB.enc xs).all (fun r=>r.length == 2)=true:=aV (e:=aB.enc) (fun _=>rfl) xs
theorem yz (a0 a1:Int):[[.lit (.int .i64 a0),.lit (.int .i64 a1)]]=ab aB.enc [(aB.mk a0 a1)]:=rfl
theorem wQ (xs:List aB)(a0 a1:Int):[.lit (.int .i64 a0),.lit (.int .i64 a1)]::ab aB.enc xs=ab aB.enc ((aB.mk a0 a1)::xs):=rfl
theorem yA (xs:List aB):frsR (ab aB.enc xs)=true:=bR (e:=aB.enc) (fun x=>by simp only [go_sem,aB.enc]) xs
theorem wR (xs:List aB):bM (ab aB.enc xs)=ab aB.enc xs:=bz (e:=aB.enc) (fun x=>by simp only [go_sem,dV,toSl,aB.enc]) xs
theorem yB (n:Nat):List.replicate n [.lit (.int .i64 0),.lit (.int .i64 0)]=ab aB.enc (List.replicate n (aB.mk 0 0)):=aT (e:=aB.enc) n (aB.mk 0 0)
attribute [go_sem] aB.enc rq yx yy yz wQ yA wR yB
structure GLink where
 from_:Int
 to:Int
 span:aB
 deriving DecidableEq
def GLink.enc (x:GLink):List AV:=[.lit (.int .i64 x.from_),.lit (.int .i64 x.to),.lit (.int .i64 x.span.low),.lit (.int .i64 x.span.high)]
theorem DJ (xs:List GLink)(a0 a1 a2 a3:Int):ab GLink.enc xs++[[.lit (.int .i64 a0),.lit (.int .i64 a1),.lit (.int .i64 a2),.lit (.int .i64 a3)]]=ab GLink.enc (xs++[(GLink.mk a0 a1 (aB.mk a2 a3))]):=au (e:=GLink.enc) xs (GLink.mk a0 a1 (aB.mk a2 a3))
theorem EX (xs:List GLink)(i:Nat)(a0 a1 a2 a3:Int):(ab GLink.enc xs).set i [.lit (.int .i64 a0),.lit (.int .i64 a1),.lit (.int .i64 a2),.lit (.int .i64 a3)]=ab GLink.enc (xs.set i (GLink.mk a0 a1 (aB.mk a2 a3))):=aU (e:=GLink.enc) xs i (GLink.mk a0 a1 (aB.mk a2 a3))
theorem EY (xs:List GLink):(ab GLink.enc xs).all (fun r=>r.length == 4)=true:=aV (e:=GLink.enc) (fun _=>rfl) xs
theorem EZ (a0 a1 a2 a3:Int):[[.lit (.int .i64 a0),.lit (.int .i64 a1),.lit (.int .i64 a2),.lit (.int .i64 a3)]]=ab GLink.enc [(GLink.mk a0 a1 (aB.mk a2 a3))]:=rfl
theorem DK (xs:List GLink)(a0 a1 a2 a3:Int):[.lit (.int .i64 a0),.lit (.int .i64 a1),.lit (.int .i64 a2),.lit (.int .i64 a3)]::ab GLink.enc xs=ab GLink.enc ((GLink.mk a0 a1 (aB.mk a2 a3))::xs):=rfl
theorem Fa (xs:List GLink):frsR (ab GLink.enc xs)=true:=bR (e:=GLink.enc) (fun x=>by simp only [go_sem,GLink.enc]) xs
theorem DL (xs:List GLink):bM (ab GLink.enc xs)=ab GLink.enc xs:=bz (e:=GLink.enc) (fun x=>by simp only [go_sem,dV,toSl,GLink.enc]) xs
theorem Fb (n:Nat):List.replicate n [.lit (.int .i64 0),.lit (.int .i64 0),.lit (.int .i64 0),.lit (.int .i64 0)]=ab GLink.enc (List.replicate n (GLink.mk 0 0 (aB.mk 0 0))):=aT (e:=GLink.enc) n (GLink.mk 0 0 (aB.mk 0 0))
attribute [go_sem] GLink.enc DJ EX EY EZ DK Fa DL Fb
structure ao where
 events:Int
 links:List GLink
 deriving DecidableEq
def ao.encS (x:ao):List AV:=[.lit (.int .i64 x.events),.sl (ab GLink.enc x.links)]
theorem yC (xs:List ao)(a0:Int)(a1:List GLink):ab ao.encS xs++[[.lit (.int .i64 a0),.sl (ab GLink.enc a1)]]=ab ao.encS (xs++[(ao.mk a0 a1)]):=au (e:=ao.encS) xs (ao.mk a0 a1)
theorem Ai (xs:List ao)(i:Nat)(a0:Int)(a1:List GLink):(ab ao.encS xs).set i [.lit (.int .i64 a0),.sl (ab GLink.enc a1)]=ab ao.encS (xs.set i (ao.mk a0 a1)):=aU (e:=ao.encS) xs i (ao.mk a0 a1)
theorem Aj (xs:List ao):(ab ao.encS xs).all (fun r=>r.length == 2)=true:=aV (e:=ao.encS) (fun _=>rfl) xs
theorem Ak (a0:Int)(a1:List GLink):[[.lit (.int .i64 a0),.sl (ab GLink.enc a1)]]=ab ao.encS [(ao.mk a0 a1)]:=rfl
theorem yD (xs:List ao)(a0:Int)(a1:List GLink):[.lit (.int .i64 a0),.sl (ab GLink.enc a1)]::ab ao.encS xs=ab ao.encS ((ao.mk a0 a1)::xs):=rfl
theorem vH (xs:List ao)(a0:Int):ab ao.encS xs++[[.lit (.int .i64 a0),.sl []]]=ab ao.encS (xs++[(ao.mk a0 [])]):=au (e:=ao.encS) xs (ao.mk a0 [])
theorem wS (a0:Int):[[.lit (.int .i64 a0),.sl []]]=ab ao.encS [(ao.mk a0 [])]:=rfl
theorem vI (xs:List ao)(a0:Int):[.lit (.int .i64 a0),.sl []]::ab ao.encS xs=ab ao.encS ((ao.mk a0 [])::xs):=rfl
attribute [go_sem] ao.encS yC Ai Aj Ak yD vH wS vI
def ao.encO (x:ao):List AV:=[.lit (.int .i64 x.events),.own (ab GLink.enc x.links)]
theorem yE (xs:List ao)(a0:Int)(a1:List GLink):ab ao.encO xs++[[.lit (.int .i64 a0),.own (ab GLink.enc a1)]]=ab ao.encO (xs++[(ao.mk a0 a1)]):=au (e:=ao.encO) xs (ao.mk a0 a1)
theorem Al (xs:List ao)(i:Nat)(a0:Int)(a1:List GLink):(ab ao.encO xs).set i [.lit (.int .i64 a0),.own (ab GLink.enc a1)]=ab ao.encO (xs.set i (ao.mk a0 a1)):=aU (e:=ao.encO) xs i (ao.mk a0 a1)
theorem Am (xs:List ao):(ab ao.encO xs).all (fun r=>r.length == 2)=true:=aV (e:=ao.encO) (fun _=>rfl) xs
theorem An (a0:Int)(a1:List GLink):[[.lit (.int .i64 a0),.own (ab GLink.enc a1)]]=ab ao.encO [(ao.mk a0 a1)]:=rfl
theorem yF (xs:List ao)(a0:Int)(a1:List GLink):[.lit (.int .i64 a0),.own (ab GLink.enc a1)]::ab ao.encO xs=ab ao.encO ((ao.mk a0 a1)::xs):=rfl
theorem Ao (xs:List ao):frsR (ab ao.encO xs)=true:=bR (e:=ao.encO) (fun x=>by simp only [go_sem,ao.encO]) xs
theorem yG (xs:List ao):bM (ab ao.encO xs)=ab ao.encS xs:=bz (e:=ao.encO) (fun x=>by simp only [go_sem,dV,toSl,ao.encO,ao.encS]) xs
theorem Ap (n:Nat):List.replicate n [.lit (.int .i64 0),.own []]=ab ao.encO (List.replicate n (ao.mk 0 ([]))):=aT (e:=ao.encO) n (ao.mk 0 ([]))
theorem vJ (xs:List ao)(a0:Int):ab ao.encO xs++[[.lit (.int .i64 a0),.own []]]=ab ao.encO (xs++[(ao.mk a0 [])]):=au (e:=ao.encO) xs (ao.mk a0 [])
theorem wT (a0:Int):[[.lit (.int .i64 a0),.own []]]=ab ao.encO [(ao.mk a0 [])]:=rfl
theorem vK (xs:List ao)(a0:Int):[.lit (.int .i64 a0),.own []]::ab ao.encO xs=ab ao.encO ((ao.mk a0 [])::xs):=rfl
attribute [go_sem] ao.encO yE Al Am An yF Ao yG Ap vJ wT vK
structure GState where
 now:Int
 times:List Int
 values:List Int
 deriving DecidableEq
def GState.encS (x:GState):List AV:=[.lit (.int .i64 x.now),.sl (ab eI x.times),.sl (ab eI x.values)]
theorem Aq (xs:List GState)(a0:Int)(a1 a2:List Int):ab GState.encS xs++[[.lit (.int .i64 a0),.sl (ab eI a1),.sl (ab eI a2)]]=ab GState.encS (xs++[(GState.mk a0 a1 a2)]):=au (e:=GState.encS) xs (GState.mk a0 a1 a2)
theorem Ct (xs:List GState)(i:Nat)(a0:Int)(a1 a2:List Int):(ab GState.encS xs).set i [.lit (.int .i64 a0),.sl (ab eI a1),.sl (ab eI a2)]=ab GState.encS (xs.set i (GState.mk a0 a1 a2)):=aU (e:=GState.encS) xs i (GState.mk a0 a1 a2)
theorem Cu (xs:List GState):(ab GState.encS xs).all (fun r=>r.length == 3)=true:=aV (e:=GState.encS) (fun _=>rfl) xs
theorem Cv (a0:Int)(a1 a2:List Int):[[.lit (.int .i64 a0),.sl (ab eI a1),.sl (ab eI a2)]]=ab GState.encS [(GState.mk a0 a1 a2)]:=rfl
theorem Ar (xs:List GState)(a0:Int)(a1 a2:List Int):[.lit (.int .i64 a0),.sl (ab eI a1),.sl (ab eI a2)]::ab GState.encS xs=ab GState.encS ((GState.mk a0 a1 a2)::xs):=rfl
theorem wU (xs:List GState)(a0:Int)(a2:List Int):ab GState.encS xs++[[.lit (.int .i64 a0),.sl [],.sl (ab eI a2)]]=ab GState.encS (xs++[(GState.mk a0 [] a2)]):=au (e:=GState.encS) xs (GState.mk a0 [] a2)
theorem yH (a0:Int)(a2:List Int):[[.lit (.int .i64 a0),.sl [],.sl (ab eI a2)]]=ab GState.encS [(GState.mk a0 [] a2)]:=rfl
theorem wV (xs:List GState)(a0:Int)(a2:List Int):[.lit (.int .i64 a0),.sl [],.sl (ab eI a2)]::ab GState.encS xs=ab GState.encS ((GState.mk a0 [] a2)::xs):=rfl
theorem wW (xs:List GState)(a0:Int)(a1:List Int):ab GState.encS xs++[[.lit (.int .i64 a0),.sl (ab eI a1),.sl []]]=ab GState.encS (xs++[(GState.mk a0 a1 [])]):=au (e:=GState.encS) xs (GState.mk a0 a1 [])
theorem yI (a0:Int)(a1:List Int):[[.lit (.int .i64 a0),.sl (ab eI a1),.sl []]]=ab GState.encS [(GState.mk a0 a1 [])]:=rfl
theorem wX (xs:List GState)(a0:Int)(a1:List Int):[.lit (.int .i64 a0),.sl (ab eI a1),.sl []]::ab GState.encS xs=ab GState.encS ((GState.mk a0 a1 [])::xs):=rfl
theorem wY (xs:List GState)(a0:Int):ab GState.encS xs++[[.lit (.int .i64 a0),.sl [],.sl []]]=ab GState.encS (xs++[(GState.mk a0 [] [])]):=au (e:=GState.encS) xs (GState.mk a0 [] [])
theorem yJ (a0:Int):[[.lit (.int .i64 a0),.sl [],.sl []]]=ab GState.encS [(GState.mk a0 [] [])]:=rfl
theorem wZ (xs:List GState)(a0:Int):[.lit (.int .i64 a0),.sl [],.sl []]::ab GState.encS xs=ab GState.encS ((GState.mk a0 [] [])::xs):=rfl
attribute [go_sem] GState.encS Aq Ct Cu Cv Ar wU yH wV wW yI wX wY yJ wZ
def GState.encO (x:GState):List AV:=[.lit (.int .i64 x.now),.own (ab eI x.times),.own (ab eI x.values)]
theorem As (xs:List GState)(a0:Int)(a1 a2:List Int):ab GState.encO xs++[[.lit (.int .i64 a0),.own (ab eI a1),.own (ab eI a2)]]=ab GState.encO (xs++[(GState.mk a0 a1 a2)]):=au (e:=GState.encO) xs (GState.mk a0 a1 a2)
theorem Cw (xs:List GState)(i:Nat)(a0:Int)(a1 a2:List Int):(ab GState.encO xs).set i [.lit (.int .i64 a0),.own (ab eI a1),.own (ab eI a2)]=ab GState.encO (xs.set i (GState.mk a0 a1 a2)):=aU (e:=GState.encO) xs i (GState.mk a0 a1 a2)
theorem Cx (xs:List GState):(ab GState.encO xs).all (fun r=>r.length == 3)=true:=aV (e:=GState.encO) (fun _=>rfl) xs
theorem Cy (a0:Int)(a1 a2:List Int):[[.lit (.int .i64 a0),.own (ab eI a1),.own (ab eI a2)]]=ab GState.encO [(GState.mk a0 a1 a2)]:=rfl
theorem Au (xs:List GState)(a0:Int)(a1 a2:List Int):[.lit (.int .i64 a0),.own (ab eI a1),.own (ab eI a2)]::ab GState.encO xs=ab GState.encO ((GState.mk a0 a1 a2)::xs):=rfl
theorem Cz (xs:List GState):frsR (ab GState.encO xs)=true:=bR (e:=GState.encO) (fun x=>by simp only [go_sem,GState.encO]) xs
theorem Av (xs:List GState):bM (ab GState.encO xs)=ab GState.encS xs:=bz (e:=GState.encO) (fun x=>by simp only [go_sem,dV,toSl,GState.encO,GState.encS]) xs
theorem CA (n:Nat):List.replicate n [.lit (.int .i64 0),.own [],.own []]=ab GState.encO (List.replicate n (GState.mk 0 ([]) ([]))):=aT (e:=GState.encO) n (GState.mk 0 ([]) ([]))
theorem xa (xs:List GState)(a0:Int)(a2:List Int):ab GState.encO xs++[[.lit (.int .i64 a0),.own [],.own (ab eI a2)]]=ab GState.encO (xs++[(GState.mk a0 [] a2)]):=au (e:=GState.encO) xs (GState.mk a0 [] a2)
theorem yK (a0:Int)(a2:List Int):[[.lit (.int .i64 a0),.own [],.own (ab eI a2)]]=ab GState.encO [(GState.mk a0 [] a2)]:=rfl
theorem xb (xs:List GState)(a0:Int)(a2:List Int):[.lit (.int .i64 a0),.own [],.own (ab eI a2)]::ab GState.encO xs=ab GState.encO ((GState.mk a0 [] a2)::xs):=rfl
theorem xc (xs:List GState)(a0:Int)(a1:List Int):ab GState.encO xs++[[.lit (.int .i64 a0),.own (ab eI a1),.own []]]=ab GState.encO (xs++[(GState.mk a0 a1 [])]):=au (e:=GState.encO) xs (GState.mk a0 a1 [])
theorem yL (a0:Int)(a1:List Int):[[.lit (.int .i64 a0),.own (ab eI a1),.own []]]=ab GState.encO [(GState.mk a0 a1 [])]:=rfl
theorem xd (xs:List GState)(a0:Int)(a1:List Int):[.lit (.int .i64 a0),.own (ab eI a1),.own []]::ab GState.encO xs=ab GState.encO ((GState.mk a0 a1 [])::xs):=rfl
theorem xe (xs:List GState)(a0:Int):ab GState.encO xs++[[.lit (.int .i64 a0),.own [],.own []]]=ab GState.encO (xs++[(GState.mk a0 [] [])]):=au (e:=GState.encO) xs (GState.mk a0 [] [])
theorem yM (a0:Int):[[.lit (.int .i64 a0),.own [],.own []]]=ab GState.encO [(GState.mk a0 [] [])]:=rfl
theorem xf (xs:List GState)(a0:Int):[.lit (.int .i64 a0),.own [],.own []]::ab GState.encO xs=ab GState.encO ((GState.mk a0 [] [])::xs):=rfl
attribute [go_sem] GState.encO As Cw Cx Cy Au Cz Av CA xa yK xb xc yL xd xe yM xf
structure am where
 now:Int
 ties:List Int
 nodes:List Int
 values:List Int
 deriving DecidableEq
def am.encS (x:am):List AV:=[.lit (.int .i64 x.now),.sl (ab eI x.ties),.sl (ab eI x.nodes),.sl (ab eI x.values)]
theorem Aw (xs:List am)(a0:Int)(a1 a2 a3:List Int):ab am.encS xs++[[.lit (.int .i64 a0),.sl (ab eI a1),.sl (ab eI a2),.sl (ab eI a3)]]=ab am.encS (xs++[(am.mk a0 a1 a2 a3)]):=au (e:=am.encS) xs (am.mk a0 a1 a2 a3)
theorem CB (xs:List am)(i:Nat)(a0:Int)(a1 a2 a3:List Int):(ab am.encS xs).set i [.lit (.int .i64 a0),.sl (ab eI a1),.sl (ab eI a2),.sl (ab eI a3)]=ab am.encS (xs.set i (am.mk a0 a1 a2 a3)):=aU (e:=am.encS) xs i (am.mk a0 a1 a2 a3)
theorem CC (xs:List am):(ab am.encS xs).all (fun r=>r.length == 4)=true:=aV (e:=am.encS) (fun _=>rfl) xs
theorem CD (a0:Int)(a1 a2 a3:List Int):[[.lit (.int .i64 a0),.sl (ab eI a1),.sl (ab eI a2),.sl (ab eI a3)]]=ab am.encS [(am.mk a0 a1 a2 a3)]:=rfl
theorem Ay (xs:List am)(a0:Int)(a1 a2 a3:List Int):[.lit (.int .i64 a0),.sl (ab eI a1),.sl (ab eI a2),.sl (ab eI a3)]::ab am.encS xs=ab am.encS ((am.mk a0 a1 a2 a3)::xs):=rfl
attribute [go_sem] am.encS Aw CB CC CD Ay
def am.encO (x:am):List AV:=[.lit (.int .i64 x.now),.own (ab eI x.ties),.own (ab eI x.nodes),.own (ab eI x.values)]
theorem Az (xs:List am)(a0:Int)(a1 a2 a3:List Int):ab am.encO xs++[[.lit (.int .i64 a0),.own (ab eI a1),.own (ab eI a2),.own (ab eI a3)]]=ab am.encO (xs++[(am.mk a0 a1 a2 a3)]):=au (e:=am.encO) xs (am.mk a0 a1 a2 a3)
theorem CE (xs:List am)(i:Nat)(a0:Int)(a1 a2 a3:List Int):(ab am.encO xs).set i [.lit (.int .i64 a0),.own (ab eI a1),.own (ab eI a2),.own (ab eI a3)]=ab am.encO (xs.set i (am.mk a0 a1 a2 a3)):=aU (e:=am.encO) xs i (am.mk a0 a1 a2 a3)
theorem CF (xs:List am):(ab am.encO xs).all (fun r=>r.length == 4)=true:=aV (e:=am.encO) (fun _=>rfl) xs
theorem CG (a0:Int)(a1 a2 a3:List Int):[[.lit (.int .i64 a0),.own (ab eI a1),.own (ab eI a2),.own (ab eI a3)]]=ab am.encO [(am.mk a0 a1 a2 a3)]:=rfl
theorem AA (xs:List am)(a0:Int)(a1 a2 a3:List Int):[.lit (.int .i64 a0),.own (ab eI a1),.own (ab eI a2),.own (ab eI a3)]::ab am.encO xs=ab am.encO ((am.mk a0 a1 a2 a3)::xs):=rfl
theorem CH (xs:List am):frsR (ab am.encO xs)=true:=bR (e:=am.encO) (fun x=>by simp only [go_sem,am.encO]) xs
theorem AB (xs:List am):bM (ab am.encO xs)=ab am.encS xs:=bz (e:=am.encO) (fun x=>by simp only [go_sem,dV,toSl,am.encO,am.encS]) xs
theorem CI (n:Nat):List.replicate n [.lit (.int .i64 0),.own [],.own [],.own []]=ab am.encO (List.replicate n (am.mk 0 ([]) ([]) ([]))):=aT (e:=am.encO) n (am.mk 0 ([]) ([]) ([]))
attribute [go_sem] am.encO Az CE CF CG AA CH AB CI
structure GDesk where
 show_:GShow
 state:GState
 lazy:Bool
 log:List am
 deriving DecidableEq
def GDesk.encS (x:GDesk):List AV:=[.sl (ab GNode.encS x.show_.nodes),.sl (ab GTie.enc x.show_.ties),.lit (.int .i64 x.show_.horizon),.lit (.int .i64 x.state.now),.sl (ab eI x.state.times),.sl (ab eI x.state.values),.lit (.bool x.lazy),.sl (ab am.encS x.log)]
theorem CJ (xs:List GDesk)(a0:List GNode)(a1:List GTie)(a2 a3:Int)(a4 a5:List Int)(a6:Bool)(a7:List am):ab GDesk.encS xs++[[.sl (ab GNode.encS a0),.sl (ab GTie.enc a1),.lit (.int .i64 a2),.lit (.int .i64 a3),.sl (ab eI a4),.sl (ab eI a5),.lit (.bool a6),.sl (ab am.encS a7)]]=ab GDesk.encS (xs++[(GDesk.mk (GShow.mk a0 a1 a2) (GState.mk a3 a4 a5) a6 a7)]):=au (e:=GDesk.encS) xs (GDesk.mk (GShow.mk a0 a1 a2) (GState.mk a3 a4 a5) a6 a7)
theorem DM (xs:List GDesk)(i:Nat)(a0:List GNode)(a1:List GTie)(a2 a3:Int)(a4 a5:List Int)(a6:Bool)(a7:List am):(ab GDesk.encS xs).set i [.sl (ab GNode.encS a0),.sl (ab GTie.enc a1),.lit (.int .i64 a2),.lit (.int .i64 a3),.sl (ab eI a4),.sl (ab eI a5),.lit (.bool a6),.sl (ab am.encS a7)]=ab GDesk.encS (xs.set i (GDesk.mk (GShow.mk a0 a1 a2) (GState.mk a3 a4 a5) a6 a7)):=aU (e:=GDesk.encS) xs i (GDesk.mk (GShow.mk a0 a1 a2) (GState.mk a3 a4 a5) a6 a7)
theorem DN (xs:List GDesk):(ab GDesk.encS xs).all (fun r=>r.length == 8)=true:=aV (e:=GDesk.encS) (fun _=>rfl) xs
theorem DO (a0:List GNode)(a1:List GTie)(a2 a3:Int)(a4 a5:List Int)(a6:Bool)(a7:List am):[[.sl (ab GNode.encS a0),.sl (ab GTie.enc a1),.lit (.int .i64 a2),.lit (.int .i64 a3),.sl (ab eI a4),.sl (ab eI a5),.lit (.bool a6),.sl (ab am.encS a7)]]=ab GDesk.encS [(GDesk.mk (GShow.mk a0 a1 a2) (GState.mk a3 a4 a5) a6 a7)]:=rfl
theorem CK (xs:List GDesk)(a0:List GNode)(a1:List GTie)(a2 a3:Int)(a4 a5:List Int)(a6:Bool)(a7:List am):[.sl (ab GNode.encS a0),.sl (ab GTie.enc a1),.lit (.int .i64 a2),.lit (.int .i64 a3),.sl (ab eI a4),.sl (ab eI a5),.lit (.bool a6),.sl (ab am.encS a7)]::ab GDesk.encS xs=ab GDesk.encS ((GDesk.mk (GShow.mk a0 a1 a2) (GState.mk a3 a4 a5) a6 a7)::xs):=rfl
attribute [go_sem] GDesk.encS CJ DM DN DO CK
def GDesk.encO (x:GDesk):List AV:=[.own (ab GNode.encO x.show_.nodes),.own (ab GTie.enc x.show_.ties),.lit (.int .i64 x.show_.horizon),.lit (.int .i64 x.state.now),.own (ab eI x.state.times),.own (ab eI x.state.values),.lit (.bool x.lazy),.own (ab am.encO x.log)]
theorem CL (xs:List GDesk)(a0:List GNode)(a1:List GTie)(a2 a3:Int)(a4 a5:List Int)(a6:Bool)(a7:List am):ab GDesk.encO xs++[[.own (ab GNode.encO a0),.own (ab GTie.enc a1),.lit (.int .i64 a2),.lit (.int .i64 a3),.own (ab eI a4),.own (ab eI a5),.lit (.bool a6),.own (ab am.encO a7)]]=ab GDesk.encO (xs++[(GDesk.mk (GShow.mk a0 a1 a2) (GState.mk a3 a4 a5) a6 a7)]):=au (e:=GDesk.encO) xs (GDesk.mk (GShow.mk a0 a1 a2) (GState.mk a3 a4 a5) a6 a7)
theorem DP (xs:List GDesk)(i:Nat)(a0:List GNode)(a1:List GTie)(a2 a3:Int)(a4 a5:List Int)(a6:Bool)(a7:List am):(ab GDesk.encO xs).set i [.own (ab GNode.encO a0),.own (ab GTie.enc a1),.lit (.int .i64 a2),.lit (.int .i64 a3),.own (ab eI a4),.own (ab eI a5),.lit (.bool a6),.own (ab am.encO a7)]=ab GDesk.encO (xs.set i (GDesk.mk (GShow.mk a0 a1 a2) (GState.mk a3 a4 a5) a6 a7)):=aU (e:=GDesk.encO) xs i (GDesk.mk (GShow.mk a0 a1 a2) (GState.mk a3 a4 a5) a6 a7)
theorem DQ (xs:List GDesk):(ab GDesk.encO xs).all (fun r=>r.length == 8)=true:=aV (e:=GDesk.encO) (fun _=>rfl) xs
theorem DR (a0:List GNode)(a1:List GTie)(a2 a3:Int)(a4 a5:List Int)(a6:Bool)(a7:List am):[[.own (ab GNode.encO a0),.own (ab GTie.enc a1),.lit (.int .i64 a2),.lit (.int .i64 a3),.own (ab eI a4),.own (ab eI a5),.lit (.bool a6),.own (ab am.encO a7)]]=ab GDesk.encO [(GDesk.mk (GShow.mk a0 a1 a2) (GState.mk a3 a4 a5) a6 a7)]:=rfl
theorem CM (xs:List GDesk)(a0:List GNode)(a1:List GTie)(a2 a3:Int)(a4 a5:List Int)(a6:Bool)(a7:List am):[.own (ab GNode.encO a0),.own (ab GTie.enc a1),.lit (.int .i64 a2),.lit (.int .i64 a3),.own (ab eI a4),.own (ab eI a5),.lit (.bool a6),.own (ab am.encO a7)]::ab GDesk.encO xs=ab GDesk.encO ((GDesk.mk (GShow.mk a0 a1 a2) (GState.mk a3 a4 a5) a6 a7)::xs):=rfl
theorem DS (xs:List GDesk):frsR (ab GDesk.encO xs)=true:=bR (e:=GDesk.encO) (fun x=>by simp only [go_sem,GDesk.encO]) xs
theorem CN (xs:List GDesk):bM (ab GDesk.encO xs)=ab GDesk.encS xs:=bz (e:=GDesk.encO) (fun x=>by simp only [go_sem,dV,toSl,GDesk.encO,GDesk.encS]) xs
theorem DU (n:Nat):List.replicate n [.own [],.own [],.lit (.int .i64 0),.lit (.int .i64 0),.own [],.own [],.lit (.bool false),.own []]=ab GDesk.encO (List.replicate n (GDesk.mk (GShow.mk ([]) ([]) 0) (GState.mk 0 ([]) ([])) false ([]))):=aT (e:=GDesk.encO) n (GDesk.mk (GShow.mk ([]) ([]) 0) (GState.mk 0 ([]) ([])) false ([]))
attribute [go_sem] GDesk.encO CL DP DQ DR CM DS CN DU
structure GL01Cur where
 b:List Int
 i:Int
 h:Int
 deriving DecidableEq
def GL01Cur.encS (x:GL01Cur):List AV:=[.sl (ab (eK .u8) x.b),.lit (.int .i64 x.i),.lit (.int .i64 x.h)]
theorem yN (xs:List GL01Cur)(a0:List Int)(a1 a2:Int):ab GL01Cur.encS xs++[[.sl (ab (eK .u8) a0),.lit (.int .i64 a1),.lit (.int .i64 a2)]]=ab GL01Cur.encS (xs++[(GL01Cur.mk a0 a1 a2)]):=au (e:=GL01Cur.encS) xs (GL01Cur.mk a0 a1 a2)
theorem AC (xs:List GL01Cur)(i:Nat)(a0:List Int)(a1 a2:Int):(ab GL01Cur.encS xs).set i [.sl (ab (eK .u8) a0),.lit (.int .i64 a1),.lit (.int .i64 a2)]=ab GL01Cur.encS (xs.set i (GL01Cur.mk a0 a1 a2)):=aU (e:=GL01Cur.encS) xs i (GL01Cur.mk a0 a1 a2)
theorem AD (xs:List GL01Cur):(ab GL01Cur.encS xs).all (fun r=>r.length == 3)=true:=aV (e:=GL01Cur.encS) (fun _=>rfl) xs
theorem AE (a0:List Int)(a1 a2:Int):[[.sl (ab (eK .u8) a0),.lit (.int .i64 a1),.lit (.int .i64 a2)]]=ab GL01Cur.encS [(GL01Cur.mk a0 a1 a2)]:=rfl
theorem yO (xs:List GL01Cur)(a0:List Int)(a1 a2:Int):[.sl (ab (eK .u8) a0),.lit (.int .i64 a1),.lit (.int .i64 a2)]::ab GL01Cur.encS xs=ab GL01Cur.encS ((GL01Cur.mk a0 a1 a2)::xs):=rfl
theorem vL (xs:List GL01Cur)(a1 a2:Int):ab GL01Cur.encS xs++[[.sl [],.lit (.int .i64 a1),.lit (.int .i64 a2)]]=ab GL01Cur.encS (xs++[(GL01Cur.mk [] a1 a2)]):=au (e:=GL01Cur.encS) xs (GL01Cur.mk [] a1 a2)
theorem xg (a1 a2:Int):[[.sl [],.lit (.int .i64 a1),.lit (.int .i64 a2)]]=ab GL01Cur.encS [(GL01Cur.mk [] a1 a2)]:=rfl
theorem vM (xs:List GL01Cur)(a1 a2:Int):[.sl [],.lit (.int .i64 a1),.lit (.int .i64 a2)]::ab GL01Cur.encS xs=ab GL01Cur.encS ((GL01Cur.mk [] a1 a2)::xs):=rfl
attribute [go_sem] GL01Cur.encS yN AC AD AE yO vL xg vM
def GL01Cur.encO (x:GL01Cur):List AV:=[.own (ab (eK .u8) x.b),.lit (.int .i64 x.i),.lit (.int .i64 x.h)]
theorem yP (xs:List GL01Cur)(a0:List Int)(a1 a2:Int):ab GL01Cur.encO xs++[[.own (ab (eK .u8) a0),.lit (.int .i64 a1),.lit (.int .i64 a2)]]=ab GL01Cur.encO (xs++[(GL01Cur.mk a0 a1 a2)]):=au (e:=GL01Cur.encO) xs (GL01Cur.mk a0 a1 a2)
theorem AF (xs:List GL01Cur)(i:Nat)(a0:List Int)(a1 a2:Int):(ab GL01Cur.encO xs).set i [.own (ab (eK .u8) a0),.lit (.int .i64 a1),.lit (.int .i64 a2)]=ab GL01Cur.encO (xs.set i (GL01Cur.mk a0 a1 a2)):=aU (e:=GL01Cur.encO) xs i (GL01Cur.mk a0 a1 a2)
theorem AG (xs:List GL01Cur):(ab GL01Cur.encO xs).all (fun r=>r.length == 3)=true:=aV (e:=GL01Cur.encO) (fun _=>rfl) xs
theorem AH (a0:List Int)(a1 a2:Int):[[.own (ab (eK .u8) a0),.lit (.int .i64 a1),.lit (.int .i64 a2)]]=ab GL01Cur.encO [(GL01Cur.mk a0 a1 a2)]:=rfl
theorem yQ (xs:List GL01Cur)(a0:List Int)(a1 a2:Int):[.own (ab (eK .u8) a0),.lit (.int .i64 a1),.lit (.int .i64 a2)]::ab GL01Cur.encO xs=ab GL01Cur.encO ((GL01Cur.mk a0 a1 a2)::xs):=rfl
theorem AI (xs:List GL01Cur):frsR (ab GL01Cur.encO xs)=true:=bR (e:=GL01Cur.encO) (fun x=>by simp only [go_sem,GL01Cur.encO]) xs
theorem yR (xs:List GL01Cur):bM (ab GL01Cur.encO xs)=ab GL01Cur.encS xs:=bz (e:=GL01Cur.encO) (fun x=>by simp only [go_sem,dV,toSl,GL01Cur.encO,GL01Cur.encS]) xs
theorem AJ (n:Nat):List.replicate n [.own [],.lit (.int .i64 0),.lit (.int .i64 0)]=ab GL01Cur.encO (List.replicate n (GL01Cur.mk ([]) 0 0)):=aT (e:=GL01Cur.encO) n (GL01Cur.mk ([]) 0 0)
theorem vN (xs:List GL01Cur)(a1 a2:Int):ab GL01Cur.encO xs++[[.own [],.lit (.int .i64 a1),.lit (.int .i64 a2)]]=ab GL01Cur.encO (xs++[(GL01Cur.mk [] a1 a2)]):=au (e:=GL01Cur.encO) xs (GL01Cur.mk [] a1 a2)
theorem xh (a1 a2:Int):[[.own [],.lit (.int .i64 a1),.lit (.int .i64 a2)]]=ab GL01Cur.encO [(GL01Cur.mk [] a1 a2)]:=rfl
theorem vO (xs:List GL01Cur)(a1 a2:Int):[.own [],.lit (.int .i64 a1),.lit (.int .i64 a2)]::ab GL01Cur.encO xs=ab GL01Cur.encO ((GL01Cur.mk [] a1 a2)::xs):=rfl
attribute [go_sem] GL01Cur.encO yP AF AG AH yQ AI yR AJ vN xh vO
structure bH where
 tie:Int
 length:Int
 deriving DecidableEq
def bH.enc (x:bH):List AV:=[.lit (.int .i64 x.tie),.lit (.int .i64 x.length)]
theorem uh (xs:List bH)(a0 a1:Int):ab bH.enc xs++[[.lit (.int .i64 a0),.lit (.int .i64 a1)]]=ab bH.enc (xs++[(bH.mk a0 a1)]):=au (e:=bH.enc) xs (bH.mk a0 a1)
theorem Fc (xs:List bH)(i:Nat)(a0 a1:Int):(ab bH.enc xs).set i [.lit (.int .i64 a0),.lit (.int .i64 a1)]=ab bH.enc (xs.set i (bH.mk a0 a1)):=aU (e:=bH.enc) xs i (bH.mk a0 a1)
theorem Fe (xs:List bH):(ab bH.enc xs).all (fun r=>r.length == 2)=true:=aV (e:=bH.enc) (fun _=>rfl) xs
theorem Ff (a0 a1:Int):[[.lit (.int .i64 a0),.lit (.int .i64 a1)]]=ab bH.enc [(bH.mk a0 a1)]:=rfl
theorem DV (xs:List bH)(a0 a1:Int):[.lit (.int .i64 a0),.lit (.int .i64 a1)]::ab bH.enc xs=ab bH.enc ((bH.mk a0 a1)::xs):=rfl
theorem Fg (xs:List bH):frsR (ab bH.enc xs)=true:=bR (e:=bH.enc) (fun x=>by simp only [go_sem,bH.enc]) xs
theorem DW (xs:List bH):bM (ab bH.enc xs)=ab bH.enc xs:=bz (e:=bH.enc) (fun x=>by simp only [go_sem,dV,toSl,bH.enc]) xs
theorem Fh (n:Nat):List.replicate n [.lit (.int .i64 0),.lit (.int .i64 0)]=ab bH.enc (List.replicate n (bH.mk 0 0)):=aT (e:=bH.enc) n (bH.mk 0 0)
attribute [go_sem] bH.enc uh Fc Fe Ff DV Fg DW Fh
structure GCue where
 name:ByteArray
 after:Int
 atEnd:Bool
 low:Int
 high:Int
 min_:Int
 max_:Int
 free:Bool
 if_:Int
 watch:Int
 device:Int
 deriving DecidableEq
def GCue.enc (x:GCue):List AV:=[.lit (.string x.name),.lit (.int .i64 x.after),.lit (.bool x.atEnd),.lit (.int .i64 x.low),.lit (.int .i64 x.high),.lit (.int .i64 x.min_),.lit (.int .i64 x.max_),.lit (.bool x.free),.lit (.int .i64 x.if_),.lit (.int .i64 x.watch),.lit (.int .i64 x.device)]
theorem Fi (xs:List GCue)(a0:ByteArray)(a1:Int)(a2:Bool)(a3 a4 a5 a6:Int)(a7:Bool)(a8 a9 a10:Int):ab GCue.enc xs++[[.lit (.string a0),.lit (.int .i64 a1),.lit (.bool a2),.lit (.int .i64 a3),.lit (.int .i64 a4),.lit (.int .i64 a5),.lit (.int .i64 a6),.lit (.bool a7),.lit (.int .i64 a8),.lit (.int .i64 a9),.lit (.int .i64 a10)]]=ab GCue.enc (xs++[(GCue.mk a0 a1 a2 a3 a4 a5 a6 a7 a8 a9 a10)]):=au (e:=GCue.enc) xs (GCue.mk a0 a1 a2 a3 a4 a5 a6 a7 a8 a9 a10)
theorem HN (xs:List GCue)(i:Nat)(a0:ByteArray)(a1:Int)(a2:Bool)(a3 a4 a5 a6:Int)(a7:Bool)(a8 a9 a10:Int):(ab GCue.enc xs).set i [.lit (.string a0),.lit (.int .i64 a1),.lit (.bool a2),.lit (.int .i64 a3),.lit (.int .i64 a4),.lit (.int .i64 a5),.lit (.int .i64 a6),.lit (.bool a7),.lit (.int .i64 a8),.lit (.int .i64 a9),.lit (.int .i64 a10)]=ab GCue.enc (xs.set i (GCue.mk a0 a1 a2 a3 a4 a5 a6 a7 a8 a9 a10)):=aU (e:=GCue.enc) xs i (GCue.mk a0 a1 a2 a3 a4 a5 a6 a7 a8 a9 a10)
theorem HP (xs:List GCue):(ab GCue.enc xs).all (fun r=>r.length == 11)=true:=aV (e:=GCue.enc) (fun _=>rfl) xs
theorem HQ (a0:ByteArray)(a1:Int)(a2:Bool)(a3 a4 a5 a6:Int)(a7:Bool)(a8 a9 a10:Int):[[.lit (.string a0),.lit (.int .i64 a1),.lit (.bool a2),.lit (.int .i64 a3),.lit (.int .i64 a4),.lit (.int .i64 a5),.lit (.int .i64 a6),.lit (.bool a7),.lit (.int .i64 a8),.lit (.int .i64 a9),.lit (.int .i64 a10)]]=ab GCue.enc [(GCue.mk a0 a1 a2 a3 a4 a5 a6 a7 a8 a9 a10)]:=rfl
theorem Fk (xs:List GCue)(a0:ByteArray)(a1:Int)(a2:Bool)(a3 a4 a5 a6:Int)(a7:Bool)(a8 a9 a10:Int):[.lit (.string a0),.lit (.int .i64 a1),.lit (.bool a2),.lit (.int .i64 a3),.lit (.int .i64 a4),.lit (.int .i64 a5),.lit (.int .i64 a6),.lit (.bool a7),.lit (.int .i64 a8),.lit (.int .i64 a9),.lit (.int .i64 a10)]::ab GCue.enc xs=ab GCue.enc ((GCue.mk a0 a1 a2 a3 a4 a5 a6 a7 a8 a9 a10)::xs):=rfl
theorem HR (xs:List GCue):frsR (ab GCue.enc xs)=true:=bR (e:=GCue.enc) (fun x=>by simp only [go_sem,GCue.enc]) xs
theorem Fl (xs:List GCue):bM (ab GCue.enc xs)=ab GCue.enc xs:=bz (e:=GCue.enc) (fun x=>by simp only [go_sem,dV,toSl,GCue.enc]) xs
theorem HS (n:Nat):List.replicate n [.lit (.string (ByteArray.mk #[])),.lit (.int .i64 0),.lit (.bool false),.lit (.int .i64 0),.lit (.int .i64 0),.lit (.int .i64 0),.lit (.int .i64 0),.lit (.bool false),.lit (.int .i64 0),.lit (.int .i64 0),.lit (.int .i64 0)]=ab GCue.enc (List.replicate n (GCue.mk (ByteArray.mk #[]) 0 false 0 0 0 0 false 0 0 0)):=aT (e:=GCue.enc) n (GCue.mk (ByteArray.mk #[]) 0 false 0 0 0 0 false 0 0 0)
attribute [go_sem] GCue.enc Fi HN HP HQ Fk HR Fl HS
structure ar where
 cues:List GCue
 prep:List Int
 horizon:Int
 deriving DecidableEq
def ar.encS (x:ar):List AV:=[.sl (ab GCue.enc x.cues),.sl (ab eI x.prep),.lit (.int .i64 x.horizon)]
theorem AK (xs:List ar)(a0:List GCue)(a1:List Int)(a2:Int):ab ar.encS xs++[[.sl (ab GCue.enc a0),.sl (ab eI a1),.lit (.int .i64 a2)]]=ab ar.encS (xs++[(ar.mk a0 a1 a2)]):=au (e:=ar.encS) xs (ar.mk a0 a1 a2)
theorem CO (xs:List ar)(i:Nat)(a0:List GCue)(a1:List Int)(a2:Int):(ab ar.encS xs).set i [.sl (ab GCue.enc a0),.sl (ab eI a1),.lit (.int .i64 a2)]=ab ar.encS (xs.set i (ar.mk a0 a1 a2)):=aU (e:=ar.encS) xs i (ar.mk a0 a1 a2)
theorem CP (xs:List ar):(ab ar.encS xs).all (fun r=>r.length == 3)=true:=aV (e:=ar.encS) (fun _=>rfl) xs
theorem CQ (a0:List GCue)(a1:List Int)(a2:Int):[[.sl (ab GCue.enc a0),.sl (ab eI a1),.lit (.int .i64 a2)]]=ab ar.encS [(ar.mk a0 a1 a2)]:=rfl
theorem AL (xs:List ar)(a0:List GCue)(a1:List Int)(a2:Int):[.sl (ab GCue.enc a0),.sl (ab eI a1),.lit (.int .i64 a2)]::ab ar.encS xs=ab ar.encS ((ar.mk a0 a1 a2)::xs):=rfl
theorem xi (xs:List ar)(a1:List Int)(a2:Int):ab ar.encS xs++[[.sl [],.sl (ab eI a1),.lit (.int .i64 a2)]]=ab ar.encS (xs++[(ar.mk [] a1 a2)]):=au (e:=ar.encS) xs (ar.mk [] a1 a2)
theorem yS (a1:List Int)(a2:Int):[[.sl [],.sl (ab eI a1),.lit (.int .i64 a2)]]=ab ar.encS [(ar.mk [] a1 a2)]:=rfl
theorem xj (xs:List ar)(a1:List Int)(a2:Int):[.sl [],.sl (ab eI a1),.lit (.int .i64 a2)]::ab ar.encS xs=ab ar.encS ((ar.mk [] a1 a2)::xs):=rfl
theorem xk (xs:List ar)(a0:List GCue)(a2:Int):ab ar.encS xs++[[.sl (ab GCue.enc a0),.sl [],.lit (.int .i64 a2)]]=ab ar.encS (xs++[(ar.mk a0 [] a2)]):=au (e:=ar.encS) xs (ar.mk a0 [] a2)
theorem yT (a0:List GCue)(a2:Int):[[.sl (ab GCue.enc a0),.sl [],.lit (.int .i64 a2)]]=ab ar.encS [(ar.mk a0 [] a2)]:=rfl
theorem xl (xs:List ar)(a0:List GCue)(a2:Int):[.sl (ab GCue.enc a0),.sl [],.lit (.int .i64 a2)]::ab ar.encS xs=ab ar.encS ((ar.mk a0 [] a2)::xs):=rfl
theorem xm (xs:List ar)(a2:Int):ab ar.encS xs++[[.sl [],.sl [],.lit (.int .i64 a2)]]=ab ar.encS (xs++[(ar.mk [] [] a2)]):=au (e:=ar.encS) xs (ar.mk [] [] a2)
theorem yU (a2:Int):[[.sl [],.sl [],.lit (.int .i64 a2)]]=ab ar.encS [(ar.mk [] [] a2)]:=rfl
theorem xn (xs:List ar)(a2:Int):[.sl [],.sl [],.lit (.int .i64 a2)]::ab ar.encS xs=ab ar.encS ((ar.mk [] [] a2)::xs):=rfl
attribute [go_sem] ar.encS AK CO CP CQ AL xi yS xj xk yT xl xm yU xn
def ar.encO (x:ar):List AV:=[.own (ab GCue.enc x.cues),.own (ab eI x.prep),.lit (.int .i64 x.horizon)]
theorem AM (xs:List ar)(a0:List GCue)(a1:List Int)(a2:Int):ab ar.encO xs++[[.own (ab GCue.enc a0),.own (ab eI a1),.lit (.int .i64 a2)]]=ab ar.encO (xs++[(ar.mk a0 a1 a2)]):=au (e:=ar.encO) xs (ar.mk a0 a1 a2)
theorem CR (xs:List ar)(i:Nat)(a0:List GCue)(a1:List Int)(a2:Int):(ab ar.encO xs).set i [.own (ab GCue.enc a0),.own (ab eI a1),.lit (.int .i64 a2)]=ab ar.encO (xs.set i (ar.mk a0 a1 a2)):=aU (e:=ar.encO) xs i (ar.mk a0 a1 a2)
theorem CS (xs:List ar):(ab ar.encO xs).all (fun r=>r.length == 3)=true:=aV (e:=ar.encO) (fun _=>rfl) xs
theorem CT (a0:List GCue)(a1:List Int)(a2:Int):[[.own (ab GCue.enc a0),.own (ab eI a1),.lit (.int .i64 a2)]]=ab ar.encO [(ar.mk a0 a1 a2)]:=rfl
theorem AN (xs:List ar)(a0:List GCue)(a1:List Int)(a2:Int):[.own (ab GCue.enc a0),.own (ab eI a1),.lit (.int .i64 a2)]::ab ar.encO xs=ab ar.encO ((ar.mk a0 a1 a2)::xs):=rfl
theorem CU (xs:List ar):frsR (ab ar.encO xs)=true:=bR (e:=ar.encO) (fun x=>by simp only [go_sem,ar.encO]) xs
theorem AO (xs:List ar):bM (ab ar.encO xs)=ab ar.encS xs:=bz (e:=ar.encO) (fun x=>by simp only [go_sem,dV,toSl,ar.encO,ar.encS]) xs
theorem CV (n:Nat):List.replicate n [.own [],.own [],.lit (.int .i64 0)]=ab ar.encO (List.replicate n (ar.mk ([]) ([]) 0)):=aT (e:=ar.encO) n (ar.mk ([]) ([]) 0)
theorem xo (xs:List ar)(a1:List Int)(a2:Int):ab ar.encO xs++[[.own [],.own (ab eI a1),.lit (.int .i64 a2)]]=ab ar.encO (xs++[(ar.mk [] a1 a2)]):=au (e:=ar.encO) xs (ar.mk [] a1 a2)
theorem yV (a1:List Int)(a2:Int):[[.own [],.own (ab eI a1),.lit (.int .i64 a2)]]=ab ar.encO [(ar.mk [] a1 a2)]:=rfl
theorem xp (xs:List ar)(a1:List Int)(a2:Int):[.own [],.own (ab eI a1),.lit (.int .i64 a2)]::ab ar.encO xs=ab ar.encO ((ar.mk [] a1 a2)::xs):=rfl
theorem xq (xs:List ar)(a0:List GCue)(a2:Int):ab ar.encO xs++[[.own (ab GCue.enc a0),.own [],.lit (.int .i64 a2)]]=ab ar.encO (xs++[(ar.mk a0 [] a2)]):=au (e:=ar.encO) xs (ar.mk a0 [] a2)
theorem yW (a0:List GCue)(a2:Int):[[.own (ab GCue.enc a0),.own [],.lit (.int .i64 a2)]]=ab ar.encO [(ar.mk a0 [] a2)]:=rfl
theorem xr (xs:List ar)(a0:List GCue)(a2:Int):[.own (ab GCue.enc a0),.own [],.lit (.int .i64 a2)]::ab ar.encO xs=ab ar.encO ((ar.mk a0 [] a2)::xs):=rfl
theorem xt (xs:List ar)(a2:Int):ab ar.encO xs++[[.own [],.own [],.lit (.int .i64 a2)]]=ab ar.encO (xs++[(ar.mk [] [] a2)]):=au (e:=ar.encO) xs (ar.mk [] [] a2)
theorem yX (a2:Int):[[.own [],.own [],.lit (.int .i64 a2)]]=ab ar.encO [(ar.mk [] [] a2)]:=rfl
theorem xu (xs:List ar)(a2:Int):[.own [],.own [],.lit (.int .i64 a2)]::ab ar.encO xs=ab ar.encO ((ar.mk [] [] a2)::xs):=rfl
attribute [go_sem] ar.encO AM CR CS CT AN CU AO CV xo yV xp xq yW xr xt yX xu
theorem rr (xs:List aB)(a0 a1:Int):ab aB.enc xs++ab bH.enc [(bH.mk a0 a1)]=ab aB.enc (xs++[(aB.mk a0 a1)]):=rq xs a0 a1
attribute [go_sem] rr
theorem rt (xs:List bH)(a0 a1:Int):ab bH.enc xs++ab aB.enc [(aB.mk a0 a1)]=ab bH.enc (xs++[(bH.mk a0 a1)]):=uh xs a0 a1
attribute [go_sem] rt
def spf (f:Nat):Bool:=[162,244].contains f
@[go_sem] theorem XT:spf 102=false:=rfl
@[go_sem] theorem XU:spf 145=false:=rfl
@[go_sem] theorem XV:spf 162=true:=rfl
@[go_sem] theorem XW:spf 168=false:=rfl
@[go_sem] theorem XX:spf 203=false:=rfl
@[go_sem] theorem XY:spf 206=false:=rfl
@[go_sem] theorem XZ:spf 210=false:=rfl
@[go_sem] theorem Ya:spf 226=false:=rfl
@[go_sem] theorem Yb:spf 231=false:=rfl
@[go_sem] theorem Yc:spf 244=true:=rfl
@[go_sem] theorem Yd:spf 246=false:=rfl
@[go_sem] theorem Ye:spf 259=false:=rfl
@[go_sem] theorem Yf:spf 268=false:=rfl
@[go_sem] theorem Yg:spf 277=false:=rfl
@[go_sem] theorem Yh:spf 294=false:=rfl
@[go_sem] theorem Yi:spf 335=false:=rfl
@[go_sem] theorem Yt:spf 83=false:=rfl
@[go_sem] theorem Yj:spf 105=false:=rfl
@[go_sem] theorem Yk:spf 198=false:=rfl
@[go_sem] theorem Yl:spf 208=false:=rfl
@[go_sem] theorem Ym:spf 240=false:=rfl
@[go_sem] theorem Yn:spf 269=false:=rfl
def mdT:Nat→List AV→Md:=fun n a=>match n with
 | 73=>⟨[0],true⟩
 | 74=>⟨[],true⟩
 | 89=>⟨[],true⟩
 | 90=>⟨[0],true⟩
 | 92=>⟨[0],true⟩
 | 96=>⟨[],true⟩
 | 97=>⟨[0],true⟩
 | 111=>⟨[0],true⟩
 | 112=>⟨[0],true⟩
 | 151=>⟨[0],true⟩
 | 162=>⟨[0],true⟩
 | 163=>⟨[0],true⟩
 | 164=>⟨[],true⟩
 | 165=>⟨[0],true⟩
 | 166=>⟨[0],false⟩
 | 178=>⟨[0],true⟩
 | 179=>⟨[0],true⟩
 | 203=>⟨[5,6],false⟩
 | 242=>⟨[0],true⟩
 | 243=>⟨[0,1],true⟩
 | 244=>⟨[1,2],true⟩
 | 249=>⟨[0],false⟩
 | 252=>⟨[0,1],true⟩
 | 289=>bif spf (fnId a) then ⟨[0,1],true⟩ else ⟨[],false⟩
 | 290=>⟨[1000],false⟩
 | 291=>⟨[0],false⟩
 | 308=>⟨[0],false⟩
 | _=>⟨[],false⟩
@[go_sem] theorem md3 (a:List AV):mdT 3 a=⟨[],false⟩:=rfl
@[go_sem] theorem md4 (a:List AV):mdT 4 a=⟨[],false⟩:=rfl
@[go_sem] theorem md5 (a:List AV):mdT 5 a=⟨[],false⟩:=rfl
@[go_sem] theorem md6 (a:List AV):mdT 6 a=⟨[],false⟩:=rfl
@[go_sem] theorem md7 (a:List AV):mdT 7 a=⟨[],false⟩:=rfl
@[go_sem] theorem md8 (a:List AV):mdT 8 a=⟨[],false⟩:=rfl
@[go_sem] theorem md9 (a:List AV):mdT 9 a=⟨[],false⟩:=rfl
@[go_sem] theorem md10 (a:List AV):mdT 10 a=⟨[],false⟩:=rfl
@[go_sem] theorem md11 (a:List AV):mdT 11 a=⟨[],false⟩:=rfl
@[go_sem] theorem md12 (a:List AV):mdT 12 a=⟨[],false⟩:=rfl
@[go_sem] theorem md13 (a:List AV):mdT 13 a=⟨[],false⟩:=rfl
@[go_sem] theorem md14 (a:List AV):mdT 14 a=⟨[],false⟩:=rfl
@[go_sem] theorem md15 (a:List AV):mdT 15 a=⟨[],false⟩:=rfl
@[go_sem] theorem md16 (a:List AV):mdT 16 a=⟨[],false⟩:=rfl
@[go_sem] theorem md17 (a:List AV):mdT 17 a=⟨[],false⟩:=rfl
@[go_sem] theorem md18 (a:List AV):mdT 18 a=⟨[],false⟩:=rfl
@[go_sem] theorem md19 (a:List AV):mdT 19 a=⟨[],false⟩:=rfl
@[go_sem] theorem md20 (a:List AV):mdT 20 a=⟨[],false⟩:=rfl
@[go_sem] theorem md21 (a:List AV):mdT 21 a=⟨[],false⟩:=rfl
@[go_sem] theorem md22 (a:List AV):mdT 22 a=⟨[],false⟩:=rfl
@[go_sem] theorem md23 (a:List AV):mdT 23 a=⟨[],false⟩:=rfl
@[go_sem] theorem md24 (a:List AV):mdT 24 a=⟨[],false⟩:=rfl
@[go_sem] theorem md25 (a:List AV):mdT 25 a=⟨[],false⟩:=rfl
@[go_sem] theorem md26 (a:List AV):mdT 26 a=⟨[],false⟩:=rfl
@[go_sem] theorem md27 (a:List AV):mdT 27 a=⟨[],false⟩:=rfl
@[go_sem] theorem md28 (a:List AV):mdT 28 a=⟨[],false⟩:=rfl
@[go_sem] theorem md29 (a:List AV):mdT 29 a=⟨[],false⟩:=rfl
@[go_sem] theorem md30 (a:List AV):mdT 30 a=⟨[],false⟩:=rfl
@[go_sem] theorem md31 (a:List AV):mdT 31 a=⟨[],false⟩:=rfl
@[go_sem] theorem md32 (a:List AV):mdT 32 a=⟨[],false⟩:=rfl
@[go_sem] theorem md33 (a:List AV):mdT 33 a=⟨[],false⟩:=rfl
@[go_sem] theorem md34 (a:List AV):mdT 34 a=⟨[],false⟩:=rfl
@[go_sem] theorem md35 (a:List AV):mdT 35 a=⟨[],false⟩:=rfl
@[go_sem] theorem md36 (a:List AV):mdT 36 a=⟨[],false⟩:=rfl
@[go_sem] theorem md37 (a:List AV):mdT 37 a=⟨[],false⟩:=rfl
@[go_sem] theorem md38 (a:List AV):mdT 38 a=⟨[],false⟩:=rfl
@[go_sem] theorem md39 (a:List AV):mdT 39 a=⟨[],false⟩:=rfl
@[go_sem] theorem md40 (a:List AV):mdT 40 a=⟨[],false⟩:=rfl
@[go_sem] theorem md41 (a:List AV):mdT 41 a=⟨[],false⟩:=rfl
@[go_sem] theorem md42 (a:List AV):mdT 42 a=⟨[],false⟩:=rfl
@[go_sem] theorem md43 (a:List AV):mdT 43 a=⟨[],false⟩:=rfl
@[go_sem] theorem md44 (a:List AV):mdT 44 a=⟨[],false⟩:=rfl
@[go_sem] theorem md45 (a:List AV):mdT 45 a=⟨[],false⟩:=rfl
@[go_sem] theorem md46 (a:List AV):mdT 46 a=⟨[],false⟩:=rfl
@[go_sem] theorem md47 (a:List AV):mdT 47 a=⟨[],false⟩:=rfl
@[go_sem] theorem md48 (a:List AV):mdT 48 a=⟨[],false⟩:=rfl
@[go_sem] theorem md49 (a:List AV):mdT 49 a=⟨[],false⟩:=rfl
@[go_sem] theorem md50 (a:List AV):mdT 50 a=⟨[],false⟩:=rfl
@[go_sem] theorem md51 (a:List AV):mdT 51 a=⟨[],false⟩:=rfl
@[go_sem] theorem md52 (a:List AV):mdT 52 a=⟨[],false⟩:=rfl
@[go_sem] theorem md53 (a:List AV):mdT 53 a=⟨[],false⟩:=rfl
@[go_sem] theorem md54 (a:List AV):mdT 54 a=⟨[],false⟩:=rfl
@[go_sem] theorem md55 (a:List AV):mdT 55 a=⟨[],false⟩:=rfl
@[go_sem] theorem md56 (a:List AV):mdT 56 a=⟨[],false⟩:=rfl
@[go_sem] theorem md57 (a:List AV):mdT 57 a=⟨[],false⟩:=rfl
@[go_sem] theorem md58 (a:List AV):mdT 58 a=⟨[],false⟩:=rfl
@[go_sem] theorem md59 (a:List AV):mdT 59 a=⟨[],false⟩:=rfl
@[go_sem] theorem md60 (a:List AV):mdT 60 a=⟨[],false⟩:=rfl
@[go_sem] theorem md61 (a:List AV):mdT 61 a=⟨[],false⟩:=rfl
@[go_sem] theorem md62 (a:List AV):mdT 62 a=⟨[],false⟩:=rfl
@[go_sem] theorem md63 (a:List AV):mdT 63 a=⟨[],false⟩:=rfl
@[go_sem] theorem md64 (a:List AV):mdT 64 a=⟨[],false⟩:=rfl
@[go_sem] theorem md65 (a:List AV):mdT 65 a=⟨[],false⟩:=rfl
@[go_sem] theorem md66 (a:List AV):mdT 66 a=⟨[],false⟩:=rfl
@[go_sem] theorem md67 (a:List AV):mdT 67 a=⟨[],false⟩:=rfl
@[go_sem] theorem md68 (a:List AV):mdT 68 a=⟨[],false⟩:=rfl
@[go_sem] theorem md69 (a:List AV):mdT 69 a=⟨[],false⟩:=rfl
@[go_sem] theorem md70 (a:List AV):mdT 70 a=⟨[],false⟩:=rfl
@[go_sem] theorem md71 (a:List AV):mdT 71 a=⟨[],false⟩:=rfl
@[go_sem] theorem md72 (a:List AV):mdT 72 a=⟨[],false⟩:=rfl
@[go_sem] theorem md73 (a:List AV):mdT 73 a=⟨[0],true⟩:=rfl
@[go_sem] theorem md74 (a:List AV):mdT 74 a=⟨[],true⟩:=rfl
@[go_sem] theorem md75 (a:List AV):mdT 75 a=⟨[],false⟩:=rfl
@[go_sem] theorem md77 (a:List AV):mdT 77 a=⟨[],false⟩:=rfl
@[go_sem] theorem md79 (a:List AV):mdT 79 a=⟨[],false⟩:=rfl
@[go_sem] theorem md80 (a:List AV):mdT 80 a=⟨[],false⟩:=rfl
@[go_sem] theorem md81 (a:List AV):mdT 81 a=⟨[],false⟩:=rfl
@[go_sem] theorem md82 (a:List AV):mdT 82 a=⟨[],false⟩:=rfl
@[go_sem] theorem md83 (a:List AV):mdT 83 a=⟨[],false⟩:=rfl
@[go_sem] theorem md84 (a:List AV):mdT 84 a=⟨[],false⟩:=rfl
@[go_sem] theorem md85 (a:List AV):mdT 85 a=⟨[],false⟩:=rfl
@[go_sem] theorem md86 (a:List AV):mdT 86 a=⟨[],false⟩:=rfl
@[go_sem] theorem md87 (a:List AV):mdT 87 a=⟨[],false⟩:=rfl
@[go_sem] theorem md88 (a:List AV):mdT 88 a=⟨[],false⟩:=rfl
@[go_sem] theorem md89 (a:List AV):mdT 89 a=⟨[],true⟩:=rfl
@[go_sem] theorem md90 (a:List AV):mdT 90 a=⟨[0],true⟩:=rfl
@[go_sem] theorem md91 (a:List AV):mdT 91 a=⟨[],false⟩:=rfl
@[go_sem] theorem md92 (a:List AV):mdT 92 a=⟨[0],true⟩:=rfl
@[go_sem] theorem md93 (a:List AV):mdT 93 a=⟨[],false⟩:=rfl
@[go_sem] theorem md94 (a:List AV):mdT 94 a=⟨[],false⟩:=rfl
@[go_sem] theorem md95 (a:List AV):mdT 95 a=⟨[],false⟩:=rfl
@[go_sem] theorem md96 (a:List AV):mdT 96 a=⟨[],true⟩:=rfl
@[go_sem] theorem md97 (a:List AV):mdT 97 a=⟨[0],true⟩:=rfl
@[go_sem] theorem md98 (a:List AV):mdT 98 a=⟨[],false⟩:=rfl
@[go_sem] theorem md99 (a:List AV):mdT 99 a=⟨[],false⟩:=rfl
@[go_sem] theorem Yu (a:List AV):mdT 100 a=⟨[],false⟩:=rfl
@[go_sem] theorem Yv (a:List AV):mdT 101 a=⟨[],false⟩:=rfl
@[go_sem] theorem Yw (a:List AV):mdT 102 a=⟨[],false⟩:=rfl
@[go_sem] theorem Yx (a:List AV):mdT 103 a=⟨[],false⟩:=rfl
@[go_sem] theorem Yy (a:List AV):mdT 104 a=⟨[],false⟩:=rfl
@[go_sem] theorem Yz (a:List AV):mdT 105 a=⟨[],false⟩:=rfl
@[go_sem] theorem YA (a:List AV):mdT 106 a=⟨[],false⟩:=rfl
@[go_sem] theorem YB (a:List AV):mdT 107 a=⟨[],false⟩:=rfl
@[go_sem] theorem YC (a:List AV):mdT 108 a=⟨[],false⟩:=rfl
@[go_sem] theorem YD (a:List AV):mdT 109 a=⟨[],false⟩:=rfl
@[go_sem] theorem YE (a:List AV):mdT 110 a=⟨[],false⟩:=rfl
@[go_sem] theorem YF (a:List AV):mdT 111 a=⟨[0],true⟩:=rfl
@[go_sem] theorem YG (a:List AV):mdT 112 a=⟨[0],true⟩:=rfl
@[go_sem] theorem YH (a:List AV):mdT 113 a=⟨[],false⟩:=rfl
@[go_sem] theorem YI (a:List AV):mdT 114 a=⟨[],false⟩:=rfl
@[go_sem] theorem YJ (a:List AV):mdT 115 a=⟨[],false⟩:=rfl
@[go_sem] theorem YK (a:List AV):mdT 116 a=⟨[],false⟩:=rfl
@[go_sem] theorem YL (a:List AV):mdT 117 a=⟨[],false⟩:=rfl
@[go_sem] theorem YM (a:List AV):mdT 118 a=⟨[],false⟩:=rfl
@[go_sem] theorem YN (a:List AV):mdT 119 a=⟨[],false⟩:=rfl
@[go_sem] theorem YO (a:List AV):mdT 120 a=⟨[],false⟩:=rfl
@[go_sem] theorem YP (a:List AV):mdT 121 a=⟨[],false⟩:=rfl
@[go_sem] theorem YQ (a:List AV):mdT 122 a=⟨[],false⟩:=rfl
@[go_sem] theorem YR (a:List AV):mdT 123 a=⟨[],false⟩:=rfl
@[go_sem] theorem YS (a:List AV):mdT 124 a=⟨[],false⟩:=rfl
@[go_sem] theorem YT (a:List AV):mdT 125 a=⟨[],false⟩:=rfl
@[go_sem] theorem YU (a:List AV):mdT 126 a=⟨[],false⟩:=rfl
@[go_sem] theorem YV (a:List AV):mdT 127 a=⟨[],false⟩:=rfl
@[go_sem] theorem YW (a:List AV):mdT 128 a=⟨[],false⟩:=rfl
@[go_sem] theorem YX (a:List AV):mdT 129 a=⟨[],false⟩:=rfl
@[go_sem] theorem YY (a:List AV):mdT 130 a=⟨[],false⟩:=rfl
@[go_sem] theorem YZ (a:List AV):mdT 131 a=⟨[],false⟩:=rfl
@[go_sem] theorem Za (a:List AV):mdT 132 a=⟨[],false⟩:=rfl
@[go_sem] theorem Zb (a:List AV):mdT 133 a=⟨[],false⟩:=rfl
@[go_sem] theorem Zc (a:List AV):mdT 134 a=⟨[],false⟩:=rfl
@[go_sem] theorem Zd (a:List AV):mdT 135 a=⟨[],false⟩:=rfl
@[go_sem] theorem Ze (a:List AV):mdT 136 a=⟨[],false⟩:=rfl
@[go_sem] theorem Zf (a:List AV):mdT 137 a=⟨[],false⟩:=rfl
@[go_sem] theorem Zg (a:List AV):mdT 138 a=⟨[],false⟩:=rfl
@[go_sem] theorem Zh (a:List AV):mdT 139 a=⟨[],false⟩:=rfl
@[go_sem] theorem Zi (a:List AV):mdT 140 a=⟨[],false⟩:=rfl
@[go_sem] theorem Zj (a:List AV):mdT 141 a=⟨[],false⟩:=rfl
@[go_sem] theorem Zk (a:List AV):mdT 142 a=⟨[],false⟩:=rfl
@[go_sem] theorem Zl (a:List AV):mdT 143 a=⟨[],false⟩:=rfl
@[go_sem] theorem Zm (a:List AV):mdT 144 a=⟨[],false⟩:=rfl
@[go_sem] theorem Zn (a:List AV):mdT 145 a=⟨[],false⟩:=rfl
@[go_sem] theorem Zo (a:List AV):mdT 146 a=⟨[],false⟩:=rfl
@[go_sem] theorem Zp (a:List AV):mdT 147 a=⟨[],false⟩:=rfl
@[go_sem] theorem Zq (a:List AV):mdT 148 a=⟨[],false⟩:=rfl
@[go_sem] theorem Zr (a:List AV):mdT 149 a=⟨[],false⟩:=rfl
@[go_sem] theorem Zs (a:List AV):mdT 150 a=⟨[],false⟩:=rfl
@[go_sem] theorem Zt (a:List AV):mdT 151 a=⟨[0],true⟩:=rfl
@[go_sem] theorem Zu (a:List AV):mdT 153 a=⟨[],false⟩:=rfl
@[go_sem] theorem Zv (a:List AV):mdT 155 a=⟨[],false⟩:=rfl
@[go_sem] theorem Zw (a:List AV):mdT 156 a=⟨[],false⟩:=rfl
@[go_sem] theorem Zx (a:List AV):mdT 157 a=⟨[],false⟩:=rfl
@[go_sem] theorem Zy (a:List AV):mdT 158 a=⟨[],false⟩:=rfl
@[go_sem] theorem Zz (a:List AV):mdT 159 a=⟨[],false⟩:=rfl
@[go_sem] theorem ZA (a:List AV):mdT 160 a=⟨[],false⟩:=rfl
@[go_sem] theorem ZB (a:List AV):mdT 161 a=⟨[],false⟩:=rfl
@[go_sem] theorem ZC (a:List AV):mdT 162 a=⟨[0],true⟩:=rfl
@[go_sem] theorem ZD (a:List AV):mdT 163 a=⟨[0],true⟩:=rfl
@[go_sem] theorem ZE (a:List AV):mdT 164 a=⟨[],true⟩:=rfl
@[go_sem] theorem ZF (a:List AV):mdT 165 a=⟨[0],true⟩:=rfl
@[go_sem] theorem ZG (a:List AV):mdT 166 a=⟨[0],false⟩:=rfl
@[go_sem] theorem ZH (a:List AV):mdT 167 a=⟨[],false⟩:=rfl
@[go_sem] theorem ZI (a:List AV):mdT 168 a=⟨[],false⟩:=rfl
@[go_sem] theorem ZJ (a:List AV):mdT 169 a=⟨[],false⟩:=rfl
@[go_sem] theorem ZK (a:List AV):mdT 170 a=⟨[],false⟩:=rfl
@[go_sem] theorem ZL (a:List AV):mdT 171 a=⟨[],false⟩:=rfl
@[go_sem] theorem ZM (a:List AV):mdT 172 a=⟨[],false⟩:=rfl
@[go_sem] theorem ZN (a:List AV):mdT 173 a=⟨[],false⟩:=rfl
@[go_sem] theorem ZO (a:List AV):mdT 174 a=⟨[],false⟩:=rfl
@[go_sem] theorem ZP (a:List AV):mdT 175 a=⟨[],false⟩:=rfl
@[go_sem] theorem ZQ (a:List AV):mdT 176 a=⟨[],false⟩:=rfl
@[go_sem] theorem ZR (a:List AV):mdT 177 a=⟨[],false⟩:=rfl
@[go_sem] theorem ZS (a:List AV):mdT 178 a=⟨[0],true⟩:=rfl
@[go_sem] theorem ZT (a:List AV):mdT 179 a=⟨[0],true⟩:=rfl
@[go_sem] theorem ZU (a:List AV):mdT 180 a=⟨[],false⟩:=rfl
@[go_sem] theorem ZV (a:List AV):mdT 181 a=⟨[],false⟩:=rfl
@[go_sem] theorem ZW (a:List AV):mdT 182 a=⟨[],false⟩:=rfl
@[go_sem] theorem ZX (a:List AV):mdT 183 a=⟨[],false⟩:=rfl
@[go_sem] theorem ZY (a:List AV):mdT 184 a=⟨[],false⟩:=rfl
@[go_sem] theorem ZZ (a:List AV):mdT 185 a=⟨[],false⟩:=rfl
@[go_sem] theorem aaa (a:List AV):mdT 186 a=⟨[],false⟩:=rfl
@[go_sem] theorem aab (a:List AV):mdT 187 a=⟨[],false⟩:=rfl
@[go_sem] theorem aac (a:List AV):mdT 188 a=⟨[],false⟩:=rfl
@[go_sem] theorem aad (a:List AV):mdT 189 a=⟨[],false⟩:=rfl
@[go_sem] theorem aae (a:List AV):mdT 190 a=⟨[],false⟩:=rfl
@[go_sem] theorem aaf (a:List AV):mdT 191 a=⟨[],false⟩:=rfl
@[go_sem] theorem aag (a:List AV):mdT 192 a=⟨[],false⟩:=rfl
@[go_sem] theorem aah (a:List AV):mdT 193 a=⟨[],false⟩:=rfl
@[go_sem] theorem aai (a:List AV):mdT 194 a=⟨[],false⟩:=rfl
@[go_sem] theorem aaj (a:List AV):mdT 195 a=⟨[],false⟩:=rfl
@[go_sem] theorem aak (a:List AV):mdT 196 a=⟨[],false⟩:=rfl
@[go_sem] theorem aal (a:List AV):mdT 197 a=⟨[],false⟩:=rfl
@[go_sem] theorem aam (a:List AV):mdT 198 a=⟨[],false⟩:=rfl
@[go_sem] theorem aan (a:List AV):mdT 199 a=⟨[],false⟩:=rfl
@[go_sem] theorem aao (a:List AV):mdT 200 a=⟨[],false⟩:=rfl
@[go_sem] theorem aap (a:List AV):mdT 201 a=⟨[],false⟩:=rfl
@[go_sem] theorem aaq (a:List AV):mdT 202 a=⟨[],false⟩:=rfl
@[go_sem] theorem aar (a:List AV):mdT 203 a=⟨[5,6],false⟩:=rfl
@[go_sem] theorem aas (a:List AV):mdT 204 a=⟨[],false⟩:=rfl
@[go_sem] theorem aat (a:List AV):mdT 205 a=⟨[],false⟩:=rfl
@[go_sem] theorem aau (a:List AV):mdT 206 a=⟨[],false⟩:=rfl
@[go_sem] theorem aav (a:List AV):mdT 207 a=⟨[],false⟩:=rfl
@[go_sem] theorem aaw (a:List AV):mdT 208 a=⟨[],false⟩:=rfl
@[go_sem] theorem aax (a:List AV):mdT 209 a=⟨[],false⟩:=rfl
@[go_sem] theorem aay (a:List AV):mdT 210 a=⟨[],false⟩:=rfl
@[go_sem] theorem aaz (a:List AV):mdT 211 a=⟨[],false⟩:=rfl
@[go_sem] theorem aaA (a:List AV):mdT 212 a=⟨[],false⟩:=rfl
@[go_sem] theorem aaB (a:List AV):mdT 213 a=⟨[],false⟩:=rfl
@[go_sem] theorem aaC (a:List AV):mdT 214 a=⟨[],false⟩:=rfl
@[go_sem] theorem aaD (a:List AV):mdT 215 a=⟨[],false⟩:=rfl
@[go_sem] theorem aaE (a:List AV):mdT 216 a=⟨[],false⟩:=rfl
@[go_sem] theorem aaF (a:List AV):mdT 217 a=⟨[],false⟩:=rfl
@[go_sem] theorem aaG (a:List AV):mdT 218 a=⟨[],false⟩:=rfl
@[go_sem] theorem aaH (a:List AV):mdT 219 a=⟨[],false⟩:=rfl
@[go_sem] theorem aaI (a:List AV):mdT 220 a=⟨[],false⟩:=rfl
@[go_sem] theorem aaJ (a:List AV):mdT 221 a=⟨[],false⟩:=rfl
@[go_sem] theorem aaK (a:List AV):mdT 222 a=⟨[],false⟩:=rfl
@[go_sem] theorem aaL (a:List AV):mdT 223 a=⟨[],false⟩:=rfl
@[go_sem] theorem aaM (a:List AV):mdT 224 a=⟨[],false⟩:=rfl
@[go_sem] theorem aaN (a:List AV):mdT 225 a=⟨[],false⟩:=rfl
@[go_sem] theorem aaO (a:List AV):mdT 226 a=⟨[],false⟩:=rfl
@[go_sem] theorem aaP (a:List AV):mdT 227 a=⟨[],false⟩:=rfl
@[go_sem] theorem aaQ (a:List AV):mdT 228 a=⟨[],false⟩:=rfl
@[go_sem] theorem aaR (a:List AV):mdT 229 a=⟨[],false⟩:=rfl
@[go_sem] theorem aaS (a:List AV):mdT 230 a=⟨[],false⟩:=rfl
@[go_sem] theorem aaT (a:List AV):mdT 231 a=⟨[],false⟩:=rfl
@[go_sem] theorem aaU (a:List AV):mdT 232 a=⟨[],false⟩:=rfl
@[go_sem] theorem aaV (a:List AV):mdT 233 a=⟨[],false⟩:=rfl
@[go_sem] theorem aaW (a:List AV):mdT 234 a=⟨[],false⟩:=rfl
@[go_sem] theorem aaX (a:List AV):mdT 236 a=⟨[],false⟩:=rfl
@[go_sem] theorem aaY (a:List AV):mdT 238 a=⟨[],false⟩:=rfl
@[go_sem] theorem aaZ (a:List AV):mdT 240 a=⟨[],false⟩:=rfl
@[go_sem] theorem aba (a:List AV):mdT 241 a=⟨[],false⟩:=rfl
@[go_sem] theorem abb (a:List AV):mdT 242 a=⟨[0],true⟩:=rfl
@[go_sem] theorem abc (a:List AV):mdT 243 a=⟨[0,1],true⟩:=rfl
@[go_sem] theorem abd (a:List AV):mdT 244 a=⟨[1,2],true⟩:=rfl
@[go_sem] theorem abe (a:List AV):mdT 245 a=⟨[],false⟩:=rfl
@[go_sem] theorem abf (a:List AV):mdT 246 a=⟨[],false⟩:=rfl
@[go_sem] theorem abg (a:List AV):mdT 247 a=⟨[],false⟩:=rfl
@[go_sem] theorem abh (a:List AV):mdT 248 a=⟨[],false⟩:=rfl
@[go_sem] theorem abi (a:List AV):mdT 249 a=⟨[0],false⟩:=rfl
@[go_sem] theorem abj (a:List AV):mdT 250 a=⟨[],false⟩:=rfl
@[go_sem] theorem abk (a:List AV):mdT 251 a=⟨[],false⟩:=rfl
@[go_sem] theorem abl (a:List AV):mdT 252 a=⟨[0,1],true⟩:=rfl
@[go_sem] theorem abm (a:List AV):mdT 253 a=⟨[],false⟩:=rfl
@[go_sem] theorem abn (a:List AV):mdT 254 a=⟨[],false⟩:=rfl
@[go_sem] theorem abo (a:List AV):mdT 255 a=⟨[],false⟩:=rfl
@[go_sem] theorem abp (a:List AV):mdT 256 a=⟨[],false⟩:=rfl
@[go_sem] theorem abq (a:List AV):mdT 257 a=⟨[],false⟩:=rfl
@[go_sem] theorem abr (a:List AV):mdT 258 a=⟨[],false⟩:=rfl
@[go_sem] theorem abt (a:List AV):mdT 259 a=⟨[],false⟩:=rfl
@[go_sem] theorem abu (a:List AV):mdT 260 a=⟨[],false⟩:=rfl
@[go_sem] theorem abv (a:List AV):mdT 261 a=⟨[],false⟩:=rfl
@[go_sem] theorem abw (a:List AV):mdT 263 a=⟨[],false⟩:=rfl
@[go_sem] theorem abx (a:List AV):mdT 266 a=⟨[],false⟩:=rfl
@[go_sem] theorem aby (a:List AV):mdT 267 a=⟨[],false⟩:=rfl
@[go_sem] theorem abz (a:List AV):mdT 268 a=⟨[],false⟩:=rfl
@[go_sem] theorem abA (a:List AV):mdT 269 a=⟨[],false⟩:=rfl
@[go_sem] theorem abB (a:List AV):mdT 270 a=⟨[],false⟩:=rfl
@[go_sem] theorem abC (a:List AV):mdT 271 a=⟨[],false⟩:=rfl
@[go_sem] theorem abD (a:List AV):mdT 272 a=⟨[],false⟩:=rfl
@[go_sem] theorem abE (a:List AV):mdT 273 a=⟨[],false⟩:=rfl
@[go_sem] theorem abF (a:List AV):mdT 274 a=⟨[],false⟩:=rfl
@[go_sem] theorem abG (a:List AV):mdT 275 a=⟨[],false⟩:=rfl
@[go_sem] theorem abH (a:List AV):mdT 276 a=⟨[],false⟩:=rfl
@[go_sem] theorem abI (a:List AV):mdT 277 a=⟨[],false⟩:=rfl
@[go_sem] theorem abJ (a:List AV):mdT 278 a=⟨[],false⟩:=rfl
@[go_sem] theorem abK (a:List AV):mdT 279 a=⟨[],false⟩:=rfl
@[go_sem] theorem abL (a:List AV):mdT 280 a=⟨[],false⟩:=rfl
@[go_sem] theorem abM (a:List AV):mdT 281 a=⟨[],false⟩:=rfl
@[go_sem] theorem abN (a:List AV):mdT 288 a=⟨[],false⟩:=rfl
@[go_sem] theorem abO (a:List AV):mdT 289 a=bif spf (fnId a) then ⟨[0,1],true⟩ else ⟨[],false⟩:=rfl
@[go_sem] theorem abP (a:List AV):mdT 290 a=⟨[1000],false⟩:=rfl
@[go_sem] theorem abQ (a:List AV):mdT 291 a=⟨[0],false⟩:=rfl
@[go_sem] theorem abR (a:List AV):mdT 292 a=⟨[],false⟩:=rfl
@[go_sem] theorem abS (a:List AV):mdT 293 a=⟨[],false⟩:=rfl
@[go_sem] theorem abT (a:List AV):mdT 294 a=⟨[],false⟩:=rfl
@[go_sem] theorem abU (a:List AV):mdT 295 a=⟨[],false⟩:=rfl
@[go_sem] theorem abV (a:List AV):mdT 298 a=⟨[],false⟩:=rfl
@[go_sem] theorem abW (a:List AV):mdT 299 a=⟨[],false⟩:=rfl
@[go_sem] theorem abX (a:List AV):mdT 300 a=⟨[],false⟩:=rfl
@[go_sem] theorem abY (a:List AV):mdT 308 a=⟨[0],false⟩:=rfl
@[go_sem] theorem abZ (a:List AV):mdT 314 a=⟨[],false⟩:=rfl
@[go_sem] theorem aca (a:List AV):mdT 318 a=⟨[],false⟩:=rfl
@[go_sem] theorem acb (a:List AV):mdT 319 a=⟨[],false⟩:=rfl
@[go_sem] theorem acd (a:List AV):mdT 325 a=⟨[],false⟩:=rfl
@[go_sem] theorem ace (a:List AV):mdT 334 a=⟨[],false⟩:=rfl
@[go_sem] theorem acf (a:List AV):mdT 335 a=⟨[],false⟩:=rfl
end Go.Proofs.Qb
