/- The things of the program. -/
import Derived.Test.YtpkcmjnlnbddbaaGreatDoorXdT
import Derived.Test.YtpkcmjnlnbddbaaGreatDoorXd33
set_option linter.all false
set_option maxRecDepth 100000
set_option maxHeartbeats 400000
namespace Go.Proofs.Qd
open Go
structure GNode where
 name:ByteArray
 label:List Int
 watch:Int
 deriving DecidableEq
def GNode.encS (x:GNode):List AV:=[.lit (.string x.name),.sl (ab eI x.label),.lit (.int .i64 x.watch)]
theorem Cw (xs:List GNode)(a0:ByteArray)(a1:List Int)(a2:Int):ab GNode.encS xs++[[.lit (.string a0),.sl (ab eI a1),.lit (.int .i64 a2)]]=ab GNode.encS (xs++[(GNode.mk a0 a1 a2)]):=aB (e:=GNode.encS) xs (GNode.mk a0 a1 a2)
theorem DU (xs:List GNode)(i:Nat)(a0:ByteArray)(a1:List Int)(a2:Int):(ab GNode.encS xs).set i [.lit (.string a0),.sl (ab eI a1),.lit (.int .i64 a2)]=ab GNode.encS (xs.set i (GNode.mk a0 a1 a2)):=aV (e:=GNode.encS) xs i (GNode.mk a0 a1 a2)
theorem DV (xs:List GNode):(ab GNode.encS xs).all (fun r=>r.length == 3)=true:=aY (e:=GNode.encS) (fun _=>rfl) xs
theorem DW (a0:ByteArray)(a1:List Int)(a2:Int):[[.lit (.string a0),.sl (ab eI a1),.lit (.int .i64 a2)]]=ab GNode.encS [(GNode.mk a0 a1 a2)]:=rfl
theorem Cx (xs:List GNode)(a0:ByteArray)(a1:List Int)(a2:Int):[.lit (.string a0),.sl (ab eI a1),.lit (.int .i64 a2)]::ab GNode.encS xs=ab GNode.encS ((GNode.mk a0 a1 a2)::xs):=rfl
theorem yb (xs:List GNode)(a0:ByteArray)(a2:Int):ab GNode.encS xs++[[.lit (.string a0),.sl [],.lit (.int .i64 a2)]]=ab GNode.encS (xs++[(GNode.mk a0 [] a2)]):=aB (e:=GNode.encS) xs (GNode.mk a0 [] a2)
theorem Ad (a0:ByteArray)(a2:Int):[[.lit (.string a0),.sl [],.lit (.int .i64 a2)]]=ab GNode.encS [(GNode.mk a0 [] a2)]:=rfl
theorem yc (xs:List GNode)(a0:ByteArray)(a2:Int):[.lit (.string a0),.sl [],.lit (.int .i64 a2)]::ab GNode.encS xs=ab GNode.encS ((GNode.mk a0 [] a2)::xs):=rfl
attribute [go_sem] GNode.encS Cw DU DV DW Cx yb Ad yc
def GNode.encO (x:GNode):List AV:=[.lit (.string x.name),.own (ab eI x.label),.lit (.int .i64 x.watch)]
theorem Cy (xs:List GNode)(a0:ByteArray)(a1:List Int)(a2:Int):ab GNode.encO xs++[[.lit (.string a0),.own (ab eI a1),.lit (.int .i64 a2)]]=ab GNode.encO (xs++[(GNode.mk a0 a1 a2)]):=aB (e:=GNode.encO) xs (GNode.mk a0 a1 a2)
theorem DX (xs:List GNode)(i:Nat)(a0:ByteArray)(a1:List Int)(a2:Int):(ab GNode.encO xs).set i [.lit (.string a0),.own (ab eI a1),.lit (.int .i64 a2)]=ab GNode.encO (xs.set i (GNode.mk a0 a1 a2)):=aV (e:=GNode.encO) xs i (GNode.mk a0 a1 a2)
theorem DY (xs:List GNode):(ab GNode.encO xs).all (fun r=>r.length == 3)=true:=aY (e:=GNode.encO) (fun _=>rfl) xs
theorem DZ (a0:ByteArray)(a1:List Int)(a2:Int):[[.lit (.string a0),.own (ab eI a1),.lit (.int .i64 a2)]]=ab GNode.encO [(GNode.mk a0 a1 a2)]:=rfl
theorem Cz (xs:List GNode)(a0:ByteArray)(a1:List Int)(a2:Int):[.lit (.string a0),.own (ab eI a1),.lit (.int .i64 a2)]::ab GNode.encO xs=ab GNode.encO ((GNode.mk a0 a1 a2)::xs):=rfl
theorem Ea (xs:List GNode):frsR (ab GNode.encO xs)=true:=bO (e:=GNode.encO) (fun x=>by simp only [go_sem,GNode.encO]) xs
theorem CA (xs:List GNode):bG (ab GNode.encO xs)=ab GNode.encS xs:=br (e:=GNode.encO) (fun x=>by simp only [go_sem,dO,toSl,GNode.encO,GNode.encS]) xs
theorem Eb (n:Nat):List.replicate n [.lit (.string (ByteArray.mk #[])),.own [],.lit (.int .i64 0)]=ab GNode.encO (List.replicate n (GNode.mk (ByteArray.mk #[]) ([]) 0)):=aU (e:=GNode.encO) n (GNode.mk (ByteArray.mk #[]) ([]) 0)
theorem yd (xs:List GNode)(a0:ByteArray)(a2:Int):ab GNode.encO xs++[[.lit (.string a0),.own [],.lit (.int .i64 a2)]]=ab GNode.encO (xs++[(GNode.mk a0 [] a2)]):=aB (e:=GNode.encO) xs (GNode.mk a0 [] a2)
theorem Ae (a0:ByteArray)(a2:Int):[[.lit (.string a0),.own [],.lit (.int .i64 a2)]]=ab GNode.encO [(GNode.mk a0 [] a2)]:=rfl
theorem ye (xs:List GNode)(a0:ByteArray)(a2:Int):[.lit (.string a0),.own [],.lit (.int .i64 a2)]::ab GNode.encO xs=ab GNode.encO ((GNode.mk a0 [] a2)::xs):=rfl
attribute [go_sem] GNode.encO Cy DX DY DZ Cz Ea CA Eb yd Ae ye
structure GTie where
 from_:Int
 to:Int
 low:Int
 high:Int
 free:Bool
 deriving DecidableEq
def GTie.enc (x:GTie):List AV:=[.lit (.int .i64 x.from_),.lit (.int .i64 x.to),.lit (.int .i64 x.low),.lit (.int .i64 x.high),.lit (.bool x.free)]
theorem FI (xs:List GTie)(a0 a1 a2 a3:Int)(a4:Bool):ab GTie.enc xs++[[.lit (.int .i64 a0),.lit (.int .i64 a1),.lit (.int .i64 a2),.lit (.int .i64 a3),.lit (.bool a4)]]=ab GTie.enc (xs++[(GTie.mk a0 a1 a2 a3 a4)]):=aB (e:=GTie.enc) xs (GTie.mk a0 a1 a2 a3 a4)
theorem Io (xs:List GTie)(i:Nat)(a0 a1 a2 a3:Int)(a4:Bool):(ab GTie.enc xs).set i [.lit (.int .i64 a0),.lit (.int .i64 a1),.lit (.int .i64 a2),.lit (.int .i64 a3),.lit (.bool a4)]=ab GTie.enc (xs.set i (GTie.mk a0 a1 a2 a3 a4)):=aV (e:=GTie.enc) xs i (GTie.mk a0 a1 a2 a3 a4)
theorem Ip (xs:List GTie):(ab GTie.enc xs).all (fun r=>r.length == 5)=true:=aY (e:=GTie.enc) (fun _=>rfl) xs
theorem Iq (a0 a1 a2 a3:Int)(a4:Bool):[[.lit (.int .i64 a0),.lit (.int .i64 a1),.lit (.int .i64 a2),.lit (.int .i64 a3),.lit (.bool a4)]]=ab GTie.enc [(GTie.mk a0 a1 a2 a3 a4)]:=rfl
theorem FJ (xs:List GTie)(a0 a1 a2 a3:Int)(a4:Bool):[.lit (.int .i64 a0),.lit (.int .i64 a1),.lit (.int .i64 a2),.lit (.int .i64 a3),.lit (.bool a4)]::ab GTie.enc xs=ab GTie.enc ((GTie.mk a0 a1 a2 a3 a4)::xs):=rfl
theorem Ir (xs:List GTie):frsR (ab GTie.enc xs)=true:=bO (e:=GTie.enc) (fun x=>by simp only [go_sem,GTie.enc]) xs
theorem FK (xs:List GTie):bG (ab GTie.enc xs)=ab GTie.enc xs:=br (e:=GTie.enc) (fun x=>by simp only [go_sem,dO,toSl,GTie.enc]) xs
theorem Is (n:Nat):List.replicate n [.lit (.int .i64 0),.lit (.int .i64 0),.lit (.int .i64 0),.lit (.int .i64 0),.lit (.bool false)]=ab GTie.enc (List.replicate n (GTie.mk 0 0 0 0 false)):=aU (e:=GTie.enc) n (GTie.mk 0 0 0 0 false)
attribute [go_sem] GTie.enc FI Io Ip Iq FJ Ir FK Is
structure GShow where
 nodes:List GNode
 ties:List GTie
 horizon:Int
 deriving DecidableEq
def GShow.encS (x:GShow):List AV:=[.sl (ab GNode.encS x.nodes),.sl (ab GTie.enc x.ties),.lit (.int .i64 x.horizon)]
theorem CB (xs:List GShow)(a0:List GNode)(a1:List GTie)(a2:Int):ab GShow.encS xs++[[.sl (ab GNode.encS a0),.sl (ab GTie.enc a1),.lit (.int .i64 a2)]]=ab GShow.encS (xs++[(GShow.mk a0 a1 a2)]):=aB (e:=GShow.encS) xs (GShow.mk a0 a1 a2)
theorem Ec (xs:List GShow)(i:Nat)(a0:List GNode)(a1:List GTie)(a2:Int):(ab GShow.encS xs).set i [.sl (ab GNode.encS a0),.sl (ab GTie.enc a1),.lit (.int .i64 a2)]=ab GShow.encS (xs.set i (GShow.mk a0 a1 a2)):=aV (e:=GShow.encS) xs i (GShow.mk a0 a1 a2)
theorem Ed (xs:List GShow):(ab GShow.encS xs).all (fun r=>r.length == 3)=true:=aY (e:=GShow.encS) (fun _=>rfl) xs
theorem Ee (a0:List GNode)(a1:List GTie)(a2:Int):[[.sl (ab GNode.encS a0),.sl (ab GTie.enc a1),.lit (.int .i64 a2)]]=ab GShow.encS [(GShow.mk a0 a1 a2)]:=rfl
theorem CC (xs:List GShow)(a0:List GNode)(a1:List GTie)(a2:Int):[.sl (ab GNode.encS a0),.sl (ab GTie.enc a1),.lit (.int .i64 a2)]::ab GShow.encS xs=ab GShow.encS ((GShow.mk a0 a1 a2)::xs):=rfl
theorem yf (xs:List GShow)(a1:List GTie)(a2:Int):ab GShow.encS xs++[[.sl [],.sl (ab GTie.enc a1),.lit (.int .i64 a2)]]=ab GShow.encS (xs++[(GShow.mk [] a1 a2)]):=aB (e:=GShow.encS) xs (GShow.mk [] a1 a2)
theorem Af (a1:List GTie)(a2:Int):[[.sl [],.sl (ab GTie.enc a1),.lit (.int .i64 a2)]]=ab GShow.encS [(GShow.mk [] a1 a2)]:=rfl
theorem yg (xs:List GShow)(a1:List GTie)(a2:Int):[.sl [],.sl (ab GTie.enc a1),.lit (.int .i64 a2)]::ab GShow.encS xs=ab GShow.encS ((GShow.mk [] a1 a2)::xs):=rfl
theorem yh (xs:List GShow)(a0:List GNode)(a2:Int):ab GShow.encS xs++[[.sl (ab GNode.encS a0),.sl [],.lit (.int .i64 a2)]]=ab GShow.encS (xs++[(GShow.mk a0 [] a2)]):=aB (e:=GShow.encS) xs (GShow.mk a0 [] a2)
theorem Ag (a0:List GNode)(a2:Int):[[.sl (ab GNode.encS a0),.sl [],.lit (.int .i64 a2)]]=ab GShow.encS [(GShow.mk a0 [] a2)]:=rfl
theorem yi (xs:List GShow)(a0:List GNode)(a2:Int):[.sl (ab GNode.encS a0),.sl [],.lit (.int .i64 a2)]::ab GShow.encS xs=ab GShow.encS ((GShow.mk a0 [] a2)::xs):=rfl
theorem yj (xs:List GShow)(a2:Int):ab GShow.encS xs++[[.sl [],.sl [],.lit (.int .i64 a2)]]=ab GShow.encS (xs++[(GShow.mk [] [] a2)]):=aB (e:=GShow.encS) xs (GShow.mk [] [] a2)
theorem Ah (a2:Int):[[.sl [],.sl [],.lit (.int .i64 a2)]]=ab GShow.encS [(GShow.mk [] [] a2)]:=rfl
theorem yk (xs:List GShow)(a2:Int):[.sl [],.sl [],.lit (.int .i64 a2)]::ab GShow.encS xs=ab GShow.encS ((GShow.mk [] [] a2)::xs):=rfl
attribute [go_sem] GShow.encS CB Ec Ed Ee CC yf Af yg yh Ag yi yj Ah yk
def GShow.encO (x:GShow):List AV:=[.own (ab GNode.encO x.nodes),.own (ab GTie.enc x.ties),.lit (.int .i64 x.horizon)]
theorem CD (xs:List GShow)(a0:List GNode)(a1:List GTie)(a2:Int):ab GShow.encO xs++[[.own (ab GNode.encO a0),.own (ab GTie.enc a1),.lit (.int .i64 a2)]]=ab GShow.encO (xs++[(GShow.mk a0 a1 a2)]):=aB (e:=GShow.encO) xs (GShow.mk a0 a1 a2)
theorem Ef (xs:List GShow)(i:Nat)(a0:List GNode)(a1:List GTie)(a2:Int):(ab GShow.encO xs).set i [.own (ab GNode.encO a0),.own (ab GTie.enc a1),.lit (.int .i64 a2)]=ab GShow.encO (xs.set i (GShow.mk a0 a1 a2)):=aV (e:=GShow.encO) xs i (GShow.mk a0 a1 a2)
theorem Eg (xs:List GShow):(ab GShow.encO xs).all (fun r=>r.length == 3)=true:=aY (e:=GShow.encO) (fun _=>rfl) xs
theorem Eh (a0:List GNode)(a1:List GTie)(a2:Int):[[.own (ab GNode.encO a0),.own (ab GTie.enc a1),.lit (.int .i64 a2)]]=ab GShow.encO [(GShow.mk a0 a1 a2)]:=rfl
theorem CE (xs:List GShow)(a0:List GNode)(a1:List GTie)(a2:Int):[.own (ab GNode.encO a0),.own (ab GTie.enc a1),.lit (.int .i64 a2)]::ab GShow.encO xs=ab GShow.encO ((GShow.mk a0 a1 a2)::xs):=rfl
theorem Ei (xs:List GShow):frsR (ab GShow.encO xs)=true:=bO (e:=GShow.encO) (fun x=>by simp only [go_sem,GShow.encO]) xs
theorem CF (xs:List GShow):bG (ab GShow.encO xs)=ab GShow.encS xs:=br (e:=GShow.encO) (fun x=>by simp only [go_sem,dO,toSl,GShow.encO,GShow.encS]) xs
theorem Ej (n:Nat):List.replicate n [.own [],.own [],.lit (.int .i64 0)]=ab GShow.encO (List.replicate n (GShow.mk ([]) ([]) 0)):=aU (e:=GShow.encO) n (GShow.mk ([]) ([]) 0)
theorem yl (xs:List GShow)(a1:List GTie)(a2:Int):ab GShow.encO xs++[[.own [],.own (ab GTie.enc a1),.lit (.int .i64 a2)]]=ab GShow.encO (xs++[(GShow.mk [] a1 a2)]):=aB (e:=GShow.encO) xs (GShow.mk [] a1 a2)
theorem Ai (a1:List GTie)(a2:Int):[[.own [],.own (ab GTie.enc a1),.lit (.int .i64 a2)]]=ab GShow.encO [(GShow.mk [] a1 a2)]:=rfl
theorem ym (xs:List GShow)(a1:List GTie)(a2:Int):[.own [],.own (ab GTie.enc a1),.lit (.int .i64 a2)]::ab GShow.encO xs=ab GShow.encO ((GShow.mk [] a1 a2)::xs):=rfl
theorem yn (xs:List GShow)(a0:List GNode)(a2:Int):ab GShow.encO xs++[[.own (ab GNode.encO a0),.own [],.lit (.int .i64 a2)]]=ab GShow.encO (xs++[(GShow.mk a0 [] a2)]):=aB (e:=GShow.encO) xs (GShow.mk a0 [] a2)
theorem Aj (a0:List GNode)(a2:Int):[[.own (ab GNode.encO a0),.own [],.lit (.int .i64 a2)]]=ab GShow.encO [(GShow.mk a0 [] a2)]:=rfl
theorem yo (xs:List GShow)(a0:List GNode)(a2:Int):[.own (ab GNode.encO a0),.own [],.lit (.int .i64 a2)]::ab GShow.encO xs=ab GShow.encO ((GShow.mk a0 [] a2)::xs):=rfl
theorem yp (xs:List GShow)(a2:Int):ab GShow.encO xs++[[.own [],.own [],.lit (.int .i64 a2)]]=ab GShow.encO (xs++[(GShow.mk [] [] a2)]):=aB (e:=GShow.encO) xs (GShow.mk [] [] a2)
theorem Ak (a2:Int):[[.own [],.own [],.lit (.int .i64 a2)]]=ab GShow.encO [(GShow.mk [] [] a2)]:=rfl
theorem yq (xs:List GShow)(a2:Int):[.own [],.own [],.lit (.int .i64 a2)]::ab GShow.encO xs=ab GShow.encO ((GShow.mk [] [] a2)::xs):=rfl
attribute [go_sem] GShow.encO CD Ef Eg Eh CE Ei CF Ej yl Ai ym yn Aj yo yp Ak yq
structure GChoice where
 lengths:List Int
 values:List Int
 deriving DecidableEq
def GChoice.encS (x:GChoice):List AV:=[.sl (ab eI x.lengths),.sl (ab eI x.values)]
theorem yr (xs:List GChoice)(a0 a1:List Int):ab GChoice.encS xs++[[.sl (ab eI a0),.sl (ab eI a1)]]=ab GChoice.encS (xs++[(GChoice.mk a0 a1)]):=aB (e:=GChoice.encS) xs (GChoice.mk a0 a1)
theorem Al (xs:List GChoice)(i:Nat)(a0 a1:List Int):(ab GChoice.encS xs).set i [.sl (ab eI a0),.sl (ab eI a1)]=ab GChoice.encS (xs.set i (GChoice.mk a0 a1)):=aV (e:=GChoice.encS) xs i (GChoice.mk a0 a1)
theorem Am (xs:List GChoice):(ab GChoice.encS xs).all (fun r=>r.length == 2)=true:=aY (e:=GChoice.encS) (fun _=>rfl) xs
theorem An (a0 a1:List Int):[[.sl (ab eI a0),.sl (ab eI a1)]]=ab GChoice.encS [(GChoice.mk a0 a1)]:=rfl
theorem yu (xs:List GChoice)(a0 a1:List Int):[.sl (ab eI a0),.sl (ab eI a1)]::ab GChoice.encS xs=ab GChoice.encS ((GChoice.mk a0 a1)::xs):=rfl
theorem vh (xs:List GChoice)(a1:List Int):ab GChoice.encS xs++[[.sl [],.sl (ab eI a1)]]=ab GChoice.encS (xs++[(GChoice.mk [] a1)]):=aB (e:=GChoice.encS) xs (GChoice.mk [] a1)
theorem wF (a1:List Int):[[.sl [],.sl (ab eI a1)]]=ab GChoice.encS [(GChoice.mk [] a1)]:=rfl
theorem vi (xs:List GChoice)(a1:List Int):[.sl [],.sl (ab eI a1)]::ab GChoice.encS xs=ab GChoice.encS ((GChoice.mk [] a1)::xs):=rfl
theorem vj (xs:List GChoice)(a0:List Int):ab GChoice.encS xs++[[.sl (ab eI a0),.sl []]]=ab GChoice.encS (xs++[(GChoice.mk a0 [])]):=aB (e:=GChoice.encS) xs (GChoice.mk a0 [])
theorem wG (a0:List Int):[[.sl (ab eI a0),.sl []]]=ab GChoice.encS [(GChoice.mk a0 [])]:=rfl
theorem vk (xs:List GChoice)(a0:List Int):[.sl (ab eI a0),.sl []]::ab GChoice.encS xs=ab GChoice.encS ((GChoice.mk a0 [])::xs):=rfl
theorem vl (xs:List GChoice)  : ab GChoice.encS xs++[[.sl [],.sl []]]=ab GChoice.encS (xs++[(GChoice.mk [] [])]):=aB (e:=GChoice.encS) xs (GChoice.mk [] [])
theorem wH  : [[.sl [],.sl []]]=ab GChoice.encS [(GChoice.mk [] [])]:=rfl
theorem vm (xs:List GChoice)  : [.sl [],.sl []]::ab GChoice.encS xs=ab GChoice.encS ((GChoice.mk [] [])::xs):=rfl
attribute [go_sem] GChoice.encS yr Al Am An yu vh wF vi vj wG vk vl wH vm
def GChoice.encO (x:GChoice):List AV:=[.own (ab eI x.lengths),.own (ab eI x.values)]
theorem yw (xs:List GChoice)(a0 a1:List Int):ab GChoice.encO xs++[[.own (ab eI a0),.own (ab eI a1)]]=ab GChoice.encO (xs++[(GChoice.mk a0 a1)]):=aB (e:=GChoice.encO) xs (GChoice.mk a0 a1)
theorem Ao (xs:List GChoice)(i:Nat)(a0 a1:List Int):(ab GChoice.encO xs).set i [.own (ab eI a0),.own (ab eI a1)]=ab GChoice.encO (xs.set i (GChoice.mk a0 a1)):=aV (e:=GChoice.encO) xs i (GChoice.mk a0 a1)
theorem Ap (xs:List GChoice):(ab GChoice.encO xs).all (fun r=>r.length == 2)=true:=aY (e:=GChoice.encO) (fun _=>rfl) xs
theorem Aq (a0 a1:List Int):[[.own (ab eI a0),.own (ab eI a1)]]=ab GChoice.encO [(GChoice.mk a0 a1)]:=rfl
theorem yx (xs:List GChoice)(a0 a1:List Int):[.own (ab eI a0),.own (ab eI a1)]::ab GChoice.encO xs=ab GChoice.encO ((GChoice.mk a0 a1)::xs):=rfl
theorem Ar (xs:List GChoice):frsR (ab GChoice.encO xs)=true:=bO (e:=GChoice.encO) (fun x=>by simp only [go_sem,GChoice.encO]) xs
theorem yy (xs:List GChoice):bG (ab GChoice.encO xs)=ab GChoice.encS xs:=br (e:=GChoice.encO) (fun x=>by simp only [go_sem,dO,toSl,GChoice.encO,GChoice.encS]) xs
theorem As (n:Nat):List.replicate n [.own [],.own []]=ab GChoice.encO (List.replicate n (GChoice.mk ([]) ([]))):=aU (e:=GChoice.encO) n (GChoice.mk ([]) ([]))
theorem vn (xs:List GChoice)(a1:List Int):ab GChoice.encO xs++[[.own [],.own (ab eI a1)]]=ab GChoice.encO (xs++[(GChoice.mk [] a1)]):=aB (e:=GChoice.encO) xs (GChoice.mk [] a1)
theorem wI (a1:List Int):[[.own [],.own (ab eI a1)]]=ab GChoice.encO [(GChoice.mk [] a1)]:=rfl
theorem vp (xs:List GChoice)(a1:List Int):[.own [],.own (ab eI a1)]::ab GChoice.encO xs=ab GChoice.encO ((GChoice.mk [] a1)::xs):=rfl
theorem vq (xs:List GChoice)(a0:List Int):ab GChoice.encO xs++[[.own (ab eI a0),.own []]]=ab GChoice.encO (xs++[(GChoice.mk a0 [])]):=aB (e:=GChoice.encO) xs (GChoice.mk a0 [])
theorem wJ (a0:List Int):[[.own (ab eI a0),.own []]]=ab GChoice.encO [(GChoice.mk a0 [])]:=rfl
theorem vt (xs:List GChoice)(a0:List Int):[.own (ab eI a0),.own []]::ab GChoice.encO xs=ab GChoice.encO ((GChoice.mk a0 [])::xs):=rfl
theorem vu (xs:List GChoice)  : ab GChoice.encO xs++[[.own [],.own []]]=ab GChoice.encO (xs++[(GChoice.mk [] [])]):=aB (e:=GChoice.encO) xs (GChoice.mk [] [])
theorem wK  : [[.own [],.own []]]=ab GChoice.encO [(GChoice.mk [] [])]:=rfl
theorem vw (xs:List GChoice)  : [.own [],.own []]::ab GChoice.encO xs=ab GChoice.encO ((GChoice.mk [] [])::xs):=rfl
attribute [go_sem] GChoice.encO yw Ao Ap Aq yx Ar yy As vn wI vp vq wJ vt vu wK vw
structure aK where
 low:Int
 high:Int
 deriving DecidableEq
def aK.enc (x:aK):List AV:=[.lit (.int .i64 x.low),.lit (.int .i64 x.high)]
theorem wL (xs:List aK)(a0 a1:Int):ab aK.enc xs++[[.lit (.int .i64 a0),.lit (.int .i64 a1)]]=ab aK.enc (xs++[(aK.mk a0 a1)]):=aB (e:=aK.enc) xs (aK.mk a0 a1)
theorem yz (xs:List aK)(i:Nat)(a0 a1:Int):(ab aK.enc xs).set i [.lit (.int .i64 a0),.lit (.int .i64 a1)]=ab aK.enc (xs.set i (aK.mk a0 a1)):=aV (e:=aK.enc) xs i (aK.mk a0 a1)
theorem yA (xs:List aK):(ab aK.enc xs).all (fun r=>r.length == 2)=true:=aY (e:=aK.enc) (fun _=>rfl) xs
theorem yB (a0 a1:Int):[[.lit (.int .i64 a0),.lit (.int .i64 a1)]]=ab aK.enc [(aK.mk a0 a1)]:=rfl
theorem wM (xs:List aK)(a0 a1:Int):[.lit (.int .i64 a0),.lit (.int .i64 a1)]::ab aK.enc xs=ab aK.enc ((aK.mk a0 a1)::xs):=rfl
theorem yC (xs:List aK):frsR (ab aK.enc xs)=true:=bO (e:=aK.enc) (fun x=>by simp only [go_sem,aK.enc]) xs
theorem wN (xs:List aK):bG (ab aK.enc xs)=ab aK.enc xs:=br (e:=aK.enc) (fun x=>by simp only [go_sem,dO,toSl,aK.enc]) xs
theorem yD (n:Nat):List.replicate n [.lit (.int .i64 0),.lit (.int .i64 0)]=ab aK.enc (List.replicate n (aK.mk 0 0)):=aU (e:=aK.enc) n (aK.mk 0 0)
attribute [go_sem] aK.enc wL yz yA yB wM yC wN yD
structure aN where
 from_:Int
 to:Int
 span:aK
 deriving DecidableEq
def aN.enc (x:aN):List AV:=[.lit (.int .i64 x.from_),.lit (.int .i64 x.to),.lit (.int .i64 x.span.low),.lit (.int .i64 x.span.high)]
theorem Ek (xs:List aN)(a0 a1 a2 a3:Int):ab aN.enc xs++[[.lit (.int .i64 a0),.lit (.int .i64 a1),.lit (.int .i64 a2),.lit (.int .i64 a3)]]=ab aN.enc (xs++[(aN.mk a0 a1 (aK.mk a2 a3))]):=aB (e:=aN.enc) xs (aN.mk a0 a1 (aK.mk a2 a3))
theorem FL (xs:List aN)(i:Nat)(a0 a1 a2 a3:Int):(ab aN.enc xs).set i [.lit (.int .i64 a0),.lit (.int .i64 a1),.lit (.int .i64 a2),.lit (.int .i64 a3)]=ab aN.enc (xs.set i (aN.mk a0 a1 (aK.mk a2 a3))):=aV (e:=aN.enc) xs i (aN.mk a0 a1 (aK.mk a2 a3))
theorem FM (xs:List aN):(ab aN.enc xs).all (fun r=>r.length == 4)=true:=aY (e:=aN.enc) (fun _=>rfl) xs
theorem FN (a0 a1 a2 a3:Int):[[.lit (.int .i64 a0),.lit (.int .i64 a1),.lit (.int .i64 a2),.lit (.int .i64 a3)]]=ab aN.enc [(aN.mk a0 a1 (aK.mk a2 a3))]:=rfl
theorem El (xs:List aN)(a0 a1 a2 a3:Int):[.lit (.int .i64 a0),.lit (.int .i64 a1),.lit (.int .i64 a2),.lit (.int .i64 a3)]::ab aN.enc xs=ab aN.enc ((aN.mk a0 a1 (aK.mk a2 a3))::xs):=rfl
theorem FO (xs:List aN):frsR (ab aN.enc xs)=true:=bO (e:=aN.enc) (fun x=>by simp only [go_sem,aN.enc]) xs
theorem Em (xs:List aN):bG (ab aN.enc xs)=ab aN.enc xs:=br (e:=aN.enc) (fun x=>by simp only [go_sem,dO,toSl,aN.enc]) xs
theorem FP (n:Nat):List.replicate n [.lit (.int .i64 0),.lit (.int .i64 0),.lit (.int .i64 0),.lit (.int .i64 0)]=ab aN.enc (List.replicate n (aN.mk 0 0 (aK.mk 0 0))):=aU (e:=aN.enc) n (aN.mk 0 0 (aK.mk 0 0))
attribute [go_sem] aN.enc Ek FL FM FN El FO Em FP
structure aE where
 events:Int
 links:List aN
 deriving DecidableEq
def aE.encS (x:aE):List AV:=[.lit (.int .i64 x.events),.sl (ab aN.enc x.links)]
theorem yE (xs:List aE)(a0:Int)(a1:List aN):ab aE.encS xs++[[.lit (.int .i64 a0),.sl (ab aN.enc a1)]]=ab aE.encS (xs++[(aE.mk a0 a1)]):=aB (e:=aE.encS) xs (aE.mk a0 a1)
theorem Au (xs:List aE)(i:Nat)(a0:Int)(a1:List aN):(ab aE.encS xs).set i [.lit (.int .i64 a0),.sl (ab aN.enc a1)]=ab aE.encS (xs.set i (aE.mk a0 a1)):=aV (e:=aE.encS) xs i (aE.mk a0 a1)
theorem Av (xs:List aE):(ab aE.encS xs).all (fun r=>r.length == 2)=true:=aY (e:=aE.encS) (fun _=>rfl) xs
theorem Aw (a0:Int)(a1:List aN):[[.lit (.int .i64 a0),.sl (ab aN.enc a1)]]=ab aE.encS [(aE.mk a0 a1)]:=rfl
theorem yF (xs:List aE)(a0:Int)(a1:List aN):[.lit (.int .i64 a0),.sl (ab aN.enc a1)]::ab aE.encS xs=ab aE.encS ((aE.mk a0 a1)::xs):=rfl
theorem vx (xs:List aE)(a0:Int):ab aE.encS xs++[[.lit (.int .i64 a0),.sl []]]=ab aE.encS (xs++[(aE.mk a0 [])]):=aB (e:=aE.encS) xs (aE.mk a0 [])
theorem wO (a0:Int):[[.lit (.int .i64 a0),.sl []]]=ab aE.encS [(aE.mk a0 [])]:=rfl
theorem vy (xs:List aE)(a0:Int):[.lit (.int .i64 a0),.sl []]::ab aE.encS xs=ab aE.encS ((aE.mk a0 [])::xs):=rfl
attribute [go_sem] aE.encS yE Au Av Aw yF vx wO vy
def aE.encO (x:aE):List AV:=[.lit (.int .i64 x.events),.own (ab aN.enc x.links)]
theorem yG (xs:List aE)(a0:Int)(a1:List aN):ab aE.encO xs++[[.lit (.int .i64 a0),.own (ab aN.enc a1)]]=ab aE.encO (xs++[(aE.mk a0 a1)]):=aB (e:=aE.encO) xs (aE.mk a0 a1)
theorem Ay (xs:List aE)(i:Nat)(a0:Int)(a1:List aN):(ab aE.encO xs).set i [.lit (.int .i64 a0),.own (ab aN.enc a1)]=ab aE.encO (xs.set i (aE.mk a0 a1)):=aV (e:=aE.encO) xs i (aE.mk a0 a1)
theorem Az (xs:List aE):(ab aE.encO xs).all (fun r=>r.length == 2)=true:=aY (e:=aE.encO) (fun _=>rfl) xs
theorem AA (a0:Int)(a1:List aN):[[.lit (.int .i64 a0),.own (ab aN.enc a1)]]=ab aE.encO [(aE.mk a0 a1)]:=rfl
theorem yH (xs:List aE)(a0:Int)(a1:List aN):[.lit (.int .i64 a0),.own (ab aN.enc a1)]::ab aE.encO xs=ab aE.encO ((aE.mk a0 a1)::xs):=rfl
theorem AB (xs:List aE):frsR (ab aE.encO xs)=true:=bO (e:=aE.encO) (fun x=>by simp only [go_sem,aE.encO]) xs
theorem yI (xs:List aE):bG (ab aE.encO xs)=ab aE.encS xs:=br (e:=aE.encO) (fun x=>by simp only [go_sem,dO,toSl,aE.encO,aE.encS]) xs
theorem AC (n:Nat):List.replicate n [.lit (.int .i64 0),.own []]=ab aE.encO (List.replicate n (aE.mk 0 ([]))):=aU (e:=aE.encO) n (aE.mk 0 ([]))
theorem vz (xs:List aE)(a0:Int):ab aE.encO xs++[[.lit (.int .i64 a0),.own []]]=ab aE.encO (xs++[(aE.mk a0 [])]):=aB (e:=aE.encO) xs (aE.mk a0 [])
theorem wP (a0:Int):[[.lit (.int .i64 a0),.own []]]=ab aE.encO [(aE.mk a0 [])]:=rfl
theorem vA (xs:List aE)(a0:Int):[.lit (.int .i64 a0),.own []]::ab aE.encO xs=ab aE.encO ((aE.mk a0 [])::xs):=rfl
attribute [go_sem] aE.encO yG Ay Az AA yH AB yI AC vz wP vA
structure GState where
 now:Int
 times:List Int
 values:List Int
 deriving DecidableEq
def GState.encS (x:GState):List AV:=[.lit (.int .i64 x.now),.sl (ab eI x.times),.sl (ab eI x.values)]
theorem AD (xs:List GState)(a0:Int)(a1 a2:List Int):ab GState.encS xs++[[.lit (.int .i64 a0),.sl (ab eI a1),.sl (ab eI a2)]]=ab GState.encS (xs++[(GState.mk a0 a1 a2)]):=aB (e:=GState.encS) xs (GState.mk a0 a1 a2)
theorem CG (xs:List GState)(i:Nat)(a0:Int)(a1 a2:List Int):(ab GState.encS xs).set i [.lit (.int .i64 a0),.sl (ab eI a1),.sl (ab eI a2)]=ab GState.encS (xs.set i (GState.mk a0 a1 a2)):=aV (e:=GState.encS) xs i (GState.mk a0 a1 a2)
theorem CH (xs:List GState):(ab GState.encS xs).all (fun r=>r.length == 3)=true:=aY (e:=GState.encS) (fun _=>rfl) xs
theorem CI (a0:Int)(a1 a2:List Int):[[.lit (.int .i64 a0),.sl (ab eI a1),.sl (ab eI a2)]]=ab GState.encS [(GState.mk a0 a1 a2)]:=rfl
theorem AE (xs:List GState)(a0:Int)(a1 a2:List Int):[.lit (.int .i64 a0),.sl (ab eI a1),.sl (ab eI a2)]::ab GState.encS xs=ab GState.encS ((GState.mk a0 a1 a2)::xs):=rfl
theorem wQ (xs:List GState)(a0:Int)(a2:List Int):ab GState.encS xs++[[.lit (.int .i64 a0),.sl [],.sl (ab eI a2)]]=ab GState.encS (xs++[(GState.mk a0 [] a2)]):=aB (e:=GState.encS) xs (GState.mk a0 [] a2)
theorem yJ (a0:Int)(a2:List Int):[[.lit (.int .i64 a0),.sl [],.sl (ab eI a2)]]=ab GState.encS [(GState.mk a0 [] a2)]:=rfl
theorem wR (xs:List GState)(a0:Int)(a2:List Int):[.lit (.int .i64 a0),.sl [],.sl (ab eI a2)]::ab GState.encS xs=ab GState.encS ((GState.mk a0 [] a2)::xs):=rfl
theorem wS (xs:List GState)(a0:Int)(a1:List Int):ab GState.encS xs++[[.lit (.int .i64 a0),.sl (ab eI a1),.sl []]]=ab GState.encS (xs++[(GState.mk a0 a1 [])]):=aB (e:=GState.encS) xs (GState.mk a0 a1 [])
theorem yK (a0:Int)(a1:List Int):[[.lit (.int .i64 a0),.sl (ab eI a1),.sl []]]=ab GState.encS [(GState.mk a0 a1 [])]:=rfl
theorem wT (xs:List GState)(a0:Int)(a1:List Int):[.lit (.int .i64 a0),.sl (ab eI a1),.sl []]::ab GState.encS xs=ab GState.encS ((GState.mk a0 a1 [])::xs):=rfl
theorem wU (xs:List GState)(a0:Int):ab GState.encS xs++[[.lit (.int .i64 a0),.sl [],.sl []]]=ab GState.encS (xs++[(GState.mk a0 [] [])]):=aB (e:=GState.encS) xs (GState.mk a0 [] [])
theorem yL (a0:Int):[[.lit (.int .i64 a0),.sl [],.sl []]]=ab GState.encS [(GState.mk a0 [] [])]:=rfl
theorem wV (xs:List GState)(a0:Int):[.lit (.int .i64 a0),.sl [],.sl []]::ab GState.encS xs=ab GState.encS ((GState.mk a0 [] [])::xs):=rfl
attribute [go_sem] GState.encS AD CG CH CI AE wQ yJ wR wS yK wT wU yL wV
def GState.encO (x:GState):List AV:=[.lit (.int .i64 x.now),.own (ab eI x.times),.own (ab eI x.values)]
theorem AF (xs:List GState)(a0:Int)(a1 a2:List Int):ab GState.encO xs++[[.lit (.int .i64 a0),.own (ab eI a1),.own (ab eI a2)]]=ab GState.encO (xs++[(GState.mk a0 a1 a2)]):=aB (e:=GState.encO) xs (GState.mk a0 a1 a2)
theorem CJ (xs:List GState)(i:Nat)(a0:Int)(a1 a2:List Int):(ab GState.encO xs).set i [.lit (.int .i64 a0),.own (ab eI a1),.own (ab eI a2)]=ab GState.encO (xs.set i (GState.mk a0 a1 a2)):=aV (e:=GState.encO) xs i (GState.mk a0 a1 a2)
theorem CK (xs:List GState):(ab GState.encO xs).all (fun r=>r.length == 3)=true:=aY (e:=GState.encO) (fun _=>rfl) xs
theorem CL (a0:Int)(a1 a2:List Int):[[.lit (.int .i64 a0),.own (ab eI a1),.own (ab eI a2)]]=ab GState.encO [(GState.mk a0 a1 a2)]:=rfl
theorem AG (xs:List GState)(a0:Int)(a1 a2:List Int):[.lit (.int .i64 a0),.own (ab eI a1),.own (ab eI a2)]::ab GState.encO xs=ab GState.encO ((GState.mk a0 a1 a2)::xs):=rfl
theorem CM (xs:List GState):frsR (ab GState.encO xs)=true:=bO (e:=GState.encO) (fun x=>by simp only [go_sem,GState.encO]) xs
theorem AH (xs:List GState):bG (ab GState.encO xs)=ab GState.encS xs:=br (e:=GState.encO) (fun x=>by simp only [go_sem,dO,toSl,GState.encO,GState.encS]) xs
theorem CN (n:Nat):List.replicate n [.lit (.int .i64 0),.own [],.own []]=ab GState.encO (List.replicate n (GState.mk 0 ([]) ([]))):=aU (e:=GState.encO) n (GState.mk 0 ([]) ([]))
theorem wW (xs:List GState)(a0:Int)(a2:List Int):ab GState.encO xs++[[.lit (.int .i64 a0),.own [],.own (ab eI a2)]]=ab GState.encO (xs++[(GState.mk a0 [] a2)]):=aB (e:=GState.encO) xs (GState.mk a0 [] a2)
theorem yM (a0:Int)(a2:List Int):[[.lit (.int .i64 a0),.own [],.own (ab eI a2)]]=ab GState.encO [(GState.mk a0 [] a2)]:=rfl
theorem wX (xs:List GState)(a0:Int)(a2:List Int):[.lit (.int .i64 a0),.own [],.own (ab eI a2)]::ab GState.encO xs=ab GState.encO ((GState.mk a0 [] a2)::xs):=rfl
theorem wY (xs:List GState)(a0:Int)(a1:List Int):ab GState.encO xs++[[.lit (.int .i64 a0),.own (ab eI a1),.own []]]=ab GState.encO (xs++[(GState.mk a0 a1 [])]):=aB (e:=GState.encO) xs (GState.mk a0 a1 [])
theorem yN (a0:Int)(a1:List Int):[[.lit (.int .i64 a0),.own (ab eI a1),.own []]]=ab GState.encO [(GState.mk a0 a1 [])]:=rfl
theorem wZ (xs:List GState)(a0:Int)(a1:List Int):[.lit (.int .i64 a0),.own (ab eI a1),.own []]::ab GState.encO xs=ab GState.encO ((GState.mk a0 a1 [])::xs):=rfl
theorem xa (xs:List GState)(a0:Int):ab GState.encO xs++[[.lit (.int .i64 a0),.own [],.own []]]=ab GState.encO (xs++[(GState.mk a0 [] [])]):=aB (e:=GState.encO) xs (GState.mk a0 [] [])
theorem yO (a0:Int):[[.lit (.int .i64 a0),.own [],.own []]]=ab GState.encO [(GState.mk a0 [] [])]:=rfl
theorem xb (xs:List GState)(a0:Int):[.lit (.int .i64 a0),.own [],.own []]::ab GState.encO xs=ab GState.encO ((GState.mk a0 [] [])::xs):=rfl
attribute [go_sem] GState.encO AF CJ CK CL AG CM AH CN wW yM wX wY yN wZ xa yO xb
structure aw where
 now:Int
 ties:List Int
 nodes:List Int
 values:List Int
 deriving DecidableEq
def aw.encS (x:aw):List AV:=[.lit (.int .i64 x.now),.sl (ab eI x.ties),.sl (ab eI x.nodes),.sl (ab eI x.values)]
theorem AI (xs:List aw)(a0:Int)(a1 a2 a3:List Int):ab aw.encS xs++[[.lit (.int .i64 a0),.sl (ab eI a1),.sl (ab eI a2),.sl (ab eI a3)]]=ab aw.encS (xs++[(aw.mk a0 a1 a2 a3)]):=aB (e:=aw.encS) xs (aw.mk a0 a1 a2 a3)
theorem CO (xs:List aw)(i:Nat)(a0:Int)(a1 a2 a3:List Int):(ab aw.encS xs).set i [.lit (.int .i64 a0),.sl (ab eI a1),.sl (ab eI a2),.sl (ab eI a3)]=ab aw.encS (xs.set i (aw.mk a0 a1 a2 a3)):=aV (e:=aw.encS) xs i (aw.mk a0 a1 a2 a3)
theorem CP (xs:List aw):(ab aw.encS xs).all (fun r=>r.length == 4)=true:=aY (e:=aw.encS) (fun _=>rfl) xs
theorem CQ (a0:Int)(a1 a2 a3:List Int):[[.lit (.int .i64 a0),.sl (ab eI a1),.sl (ab eI a2),.sl (ab eI a3)]]=ab aw.encS [(aw.mk a0 a1 a2 a3)]:=rfl
theorem AJ (xs:List aw)(a0:Int)(a1 a2 a3:List Int):[.lit (.int .i64 a0),.sl (ab eI a1),.sl (ab eI a2),.sl (ab eI a3)]::ab aw.encS xs=ab aw.encS ((aw.mk a0 a1 a2 a3)::xs):=rfl
attribute [go_sem] aw.encS AI CO CP CQ AJ
def aw.encO (x:aw):List AV:=[.lit (.int .i64 x.now),.own (ab eI x.ties),.own (ab eI x.nodes),.own (ab eI x.values)]
theorem AK (xs:List aw)(a0:Int)(a1 a2 a3:List Int):ab aw.encO xs++[[.lit (.int .i64 a0),.own (ab eI a1),.own (ab eI a2),.own (ab eI a3)]]=ab aw.encO (xs++[(aw.mk a0 a1 a2 a3)]):=aB (e:=aw.encO) xs (aw.mk a0 a1 a2 a3)
theorem CR (xs:List aw)(i:Nat)(a0:Int)(a1 a2 a3:List Int):(ab aw.encO xs).set i [.lit (.int .i64 a0),.own (ab eI a1),.own (ab eI a2),.own (ab eI a3)]=ab aw.encO (xs.set i (aw.mk a0 a1 a2 a3)):=aV (e:=aw.encO) xs i (aw.mk a0 a1 a2 a3)
theorem CS (xs:List aw):(ab aw.encO xs).all (fun r=>r.length == 4)=true:=aY (e:=aw.encO) (fun _=>rfl) xs
theorem CT (a0:Int)(a1 a2 a3:List Int):[[.lit (.int .i64 a0),.own (ab eI a1),.own (ab eI a2),.own (ab eI a3)]]=ab aw.encO [(aw.mk a0 a1 a2 a3)]:=rfl
theorem AL (xs:List aw)(a0:Int)(a1 a2 a3:List Int):[.lit (.int .i64 a0),.own (ab eI a1),.own (ab eI a2),.own (ab eI a3)]::ab aw.encO xs=ab aw.encO ((aw.mk a0 a1 a2 a3)::xs):=rfl
theorem CU (xs:List aw):frsR (ab aw.encO xs)=true:=bO (e:=aw.encO) (fun x=>by simp only [go_sem,aw.encO]) xs
theorem AM (xs:List aw):bG (ab aw.encO xs)=ab aw.encS xs:=br (e:=aw.encO) (fun x=>by simp only [go_sem,dO,toSl,aw.encO,aw.encS]) xs
theorem CV (n:Nat):List.replicate n [.lit (.int .i64 0),.own [],.own [],.own []]=ab aw.encO (List.replicate n (aw.mk 0 ([]) ([]) ([]))):=aU (e:=aw.encO) n (aw.mk 0 ([]) ([]) ([]))
attribute [go_sem] aw.encO AK CR CS CT AL CU AM CV
structure GDesk where
 show_:GShow
 state:GState
 lazy:Bool
 log:List aw
 deriving DecidableEq
def GDesk.encS (x:GDesk):List AV:=[.sl (ab GNode.encS x.show_.nodes),.sl (ab GTie.enc x.show_.ties),.lit (.int .i64 x.show_.horizon),.lit (.int .i64 x.state.now),.sl (ab eI x.state.times),.sl (ab eI x.state.values),.lit (.bool x.lazy),.sl (ab aw.encS x.log)]
theorem CW (xs:List GDesk)(a0:List GNode)(a1:List GTie)(a2 a3:Int)(a4 a5:List Int)(a6:Bool)(a7:List aw):ab GDesk.encS xs++[[.sl (ab GNode.encS a0),.sl (ab GTie.enc a1),.lit (.int .i64 a2),.lit (.int .i64 a3),.sl (ab eI a4),.sl (ab eI a5),.lit (.bool a6),.sl (ab aw.encS a7)]]=ab GDesk.encS (xs++[(GDesk.mk (GShow.mk a0 a1 a2) (GState.mk a3 a4 a5) a6 a7)]):=aB (e:=GDesk.encS) xs (GDesk.mk (GShow.mk a0 a1 a2) (GState.mk a3 a4 a5) a6 a7)
theorem En (xs:List GDesk)(i:Nat)(a0:List GNode)(a1:List GTie)(a2 a3:Int)(a4 a5:List Int)(a6:Bool)(a7:List aw):(ab GDesk.encS xs).set i [.sl (ab GNode.encS a0),.sl (ab GTie.enc a1),.lit (.int .i64 a2),.lit (.int .i64 a3),.sl (ab eI a4),.sl (ab eI a5),.lit (.bool a6),.sl (ab aw.encS a7)]=ab GDesk.encS (xs.set i (GDesk.mk (GShow.mk a0 a1 a2) (GState.mk a3 a4 a5) a6 a7)):=aV (e:=GDesk.encS) xs i (GDesk.mk (GShow.mk a0 a1 a2) (GState.mk a3 a4 a5) a6 a7)
theorem Eo (xs:List GDesk):(ab GDesk.encS xs).all (fun r=>r.length == 8)=true:=aY (e:=GDesk.encS) (fun _=>rfl) xs
theorem Ep (a0:List GNode)(a1:List GTie)(a2 a3:Int)(a4 a5:List Int)(a6:Bool)(a7:List aw):[[.sl (ab GNode.encS a0),.sl (ab GTie.enc a1),.lit (.int .i64 a2),.lit (.int .i64 a3),.sl (ab eI a4),.sl (ab eI a5),.lit (.bool a6),.sl (ab aw.encS a7)]]=ab GDesk.encS [(GDesk.mk (GShow.mk a0 a1 a2) (GState.mk a3 a4 a5) a6 a7)]:=rfl
theorem CX (xs:List GDesk)(a0:List GNode)(a1:List GTie)(a2 a3:Int)(a4 a5:List Int)(a6:Bool)(a7:List aw):[.sl (ab GNode.encS a0),.sl (ab GTie.enc a1),.lit (.int .i64 a2),.lit (.int .i64 a3),.sl (ab eI a4),.sl (ab eI a5),.lit (.bool a6),.sl (ab aw.encS a7)]::ab GDesk.encS xs=ab GDesk.encS ((GDesk.mk (GShow.mk a0 a1 a2) (GState.mk a3 a4 a5) a6 a7)::xs):=rfl
attribute [go_sem] GDesk.encS CW En Eo Ep CX
def GDesk.encO (x:GDesk):List AV:=[.own (ab GNode.encO x.show_.nodes),.own (ab GTie.enc x.show_.ties),.lit (.int .i64 x.show_.horizon),.lit (.int .i64 x.state.now),.own (ab eI x.state.times),.own (ab eI x.state.values),.lit (.bool x.lazy),.own (ab aw.encO x.log)]
theorem CY (xs:List GDesk)(a0:List GNode)(a1:List GTie)(a2 a3:Int)(a4 a5:List Int)(a6:Bool)(a7:List aw):ab GDesk.encO xs++[[.own (ab GNode.encO a0),.own (ab GTie.enc a1),.lit (.int .i64 a2),.lit (.int .i64 a3),.own (ab eI a4),.own (ab eI a5),.lit (.bool a6),.own (ab aw.encO a7)]]=ab GDesk.encO (xs++[(GDesk.mk (GShow.mk a0 a1 a2) (GState.mk a3 a4 a5) a6 a7)]):=aB (e:=GDesk.encO) xs (GDesk.mk (GShow.mk a0 a1 a2) (GState.mk a3 a4 a5) a6 a7)
theorem Er (xs:List GDesk)(i:Nat)(a0:List GNode)(a1:List GTie)(a2 a3:Int)(a4 a5:List Int)(a6:Bool)(a7:List aw):(ab GDesk.encO xs).set i [.own (ab GNode.encO a0),.own (ab GTie.enc a1),.lit (.int .i64 a2),.lit (.int .i64 a3),.own (ab eI a4),.own (ab eI a5),.lit (.bool a6),.own (ab aw.encO a7)]=ab GDesk.encO (xs.set i (GDesk.mk (GShow.mk a0 a1 a2) (GState.mk a3 a4 a5) a6 a7)):=aV (e:=GDesk.encO) xs i (GDesk.mk (GShow.mk a0 a1 a2) (GState.mk a3 a4 a5) a6 a7)
theorem Es (xs:List GDesk):(ab GDesk.encO xs).all (fun r=>r.length == 8)=true:=aY (e:=GDesk.encO) (fun _=>rfl) xs
theorem Et (a0:List GNode)(a1:List GTie)(a2 a3:Int)(a4 a5:List Int)(a6:Bool)(a7:List aw):[[.own (ab GNode.encO a0),.own (ab GTie.enc a1),.lit (.int .i64 a2),.lit (.int .i64 a3),.own (ab eI a4),.own (ab eI a5),.lit (.bool a6),.own (ab aw.encO a7)]]=ab GDesk.encO [(GDesk.mk (GShow.mk a0 a1 a2) (GState.mk a3 a4 a5) a6 a7)]:=rfl
theorem CZ (xs:List GDesk)(a0:List GNode)(a1:List GTie)(a2 a3:Int)(a4 a5:List Int)(a6:Bool)(a7:List aw):[.own (ab GNode.encO a0),.own (ab GTie.enc a1),.lit (.int .i64 a2),.lit (.int .i64 a3),.own (ab eI a4),.own (ab eI a5),.lit (.bool a6),.own (ab aw.encO a7)]::ab GDesk.encO xs=ab GDesk.encO ((GDesk.mk (GShow.mk a0 a1 a2) (GState.mk a3 a4 a5) a6 a7)::xs):=rfl
theorem Eu (xs:List GDesk):frsR (ab GDesk.encO xs)=true:=bO (e:=GDesk.encO) (fun x=>by simp only [go_sem,GDesk.encO]) xs
theorem Da (xs:List GDesk):bG (ab GDesk.encO xs)=ab GDesk.encS xs:=br (e:=GDesk.encO) (fun x=>by simp only [go_sem,dO,toSl,GDesk.encO,GDesk.encS]) xs
theorem Ev (n:Nat):List.replicate n [.own [],.own [],.lit (.int .i64 0),.lit (.int .i64 0),.own [],.own [],.lit (.bool false),.own []]=ab GDesk.encO (List.replicate n (GDesk.mk (GShow.mk ([]) ([]) 0) (GState.mk 0 ([]) ([])) false ([]))):=aU (e:=GDesk.encO) n (GDesk.mk (GShow.mk ([]) ([]) 0) (GState.mk 0 ([]) ([])) false ([]))
attribute [go_sem] GDesk.encO CY Er Es Et CZ Eu Da Ev
structure GL01Cur where
 b:List Int
 i:Int
 h:Int
 deriving DecidableEq
def GL01Cur.encS (x:GL01Cur):List AV:=[.sl (ab (eK .u8) x.b),.lit (.int .i64 x.i),.lit (.int .i64 x.h)]
theorem yP (xs:List GL01Cur)(a0:List Int)(a1 a2:Int):ab GL01Cur.encS xs++[[.sl (ab (eK .u8) a0),.lit (.int .i64 a1),.lit (.int .i64 a2)]]=ab GL01Cur.encS (xs++[(GL01Cur.mk a0 a1 a2)]):=aB (e:=GL01Cur.encS) xs (GL01Cur.mk a0 a1 a2)
theorem AN (xs:List GL01Cur)(i:Nat)(a0:List Int)(a1 a2:Int):(ab GL01Cur.encS xs).set i [.sl (ab (eK .u8) a0),.lit (.int .i64 a1),.lit (.int .i64 a2)]=ab GL01Cur.encS (xs.set i (GL01Cur.mk a0 a1 a2)):=aV (e:=GL01Cur.encS) xs i (GL01Cur.mk a0 a1 a2)
theorem AO (xs:List GL01Cur):(ab GL01Cur.encS xs).all (fun r=>r.length == 3)=true:=aY (e:=GL01Cur.encS) (fun _=>rfl) xs
theorem AP (a0:List Int)(a1 a2:Int):[[.sl (ab (eK .u8) a0),.lit (.int .i64 a1),.lit (.int .i64 a2)]]=ab GL01Cur.encS [(GL01Cur.mk a0 a1 a2)]:=rfl
theorem yQ (xs:List GL01Cur)(a0:List Int)(a1 a2:Int):[.sl (ab (eK .u8) a0),.lit (.int .i64 a1),.lit (.int .i64 a2)]::ab GL01Cur.encS xs=ab GL01Cur.encS ((GL01Cur.mk a0 a1 a2)::xs):=rfl
theorem vB (xs:List GL01Cur)(a1 a2:Int):ab GL01Cur.encS xs++[[.sl [],.lit (.int .i64 a1),.lit (.int .i64 a2)]]=ab GL01Cur.encS (xs++[(GL01Cur.mk [] a1 a2)]):=aB (e:=GL01Cur.encS) xs (GL01Cur.mk [] a1 a2)
theorem xc (a1 a2:Int):[[.sl [],.lit (.int .i64 a1),.lit (.int .i64 a2)]]=ab GL01Cur.encS [(GL01Cur.mk [] a1 a2)]:=rfl
theorem vC (xs:List GL01Cur)(a1 a2:Int):[.sl [],.lit (.int .i64 a1),.lit (.int .i64 a2)]::ab GL01Cur.encS xs=ab GL01Cur.encS ((GL01Cur.mk [] a1 a2)::xs):=rfl
attribute [go_sem] GL01Cur.encS yP AN AO AP yQ vB xc vC
def GL01Cur.encO (x:GL01Cur):List AV:=[.own (ab (eK .u8) x.b),.lit (.int .i64 x.i),.lit (.int .i64 x.h)]
theorem yR (xs:List GL01Cur)(a0:List Int)(a1 a2:Int):ab GL01Cur.encO xs++[[.own (ab (eK .u8) a0),.lit (.int .i64 a1),.lit (.int .i64 a2)]]=ab GL01Cur.encO (xs++[(GL01Cur.mk a0 a1 a2)]):=aB (e:=GL01Cur.encO) xs (GL01Cur.mk a0 a1 a2)
theorem AQ (xs:List GL01Cur)(i:Nat)(a0:List Int)(a1 a2:Int):(ab GL01Cur.encO xs).set i [.own (ab (eK .u8) a0),.lit (.int .i64 a1),.lit (.int .i64 a2)]=ab GL01Cur.encO (xs.set i (GL01Cur.mk a0 a1 a2)):=aV (e:=GL01Cur.encO) xs i (GL01Cur.mk a0 a1 a2)
theorem AR (xs:List GL01Cur):(ab GL01Cur.encO xs).all (fun r=>r.length == 3)=true:=aY (e:=GL01Cur.encO) (fun _=>rfl) xs
theorem AS (a0:List Int)(a1 a2:Int):[[.own (ab (eK .u8) a0),.lit (.int .i64 a1),.lit (.int .i64 a2)]]=ab GL01Cur.encO [(GL01Cur.mk a0 a1 a2)]:=rfl
theorem yS (xs:List GL01Cur)(a0:List Int)(a1 a2:Int):[.own (ab (eK .u8) a0),.lit (.int .i64 a1),.lit (.int .i64 a2)]::ab GL01Cur.encO xs=ab GL01Cur.encO ((GL01Cur.mk a0 a1 a2)::xs):=rfl
theorem AU (xs:List GL01Cur):frsR (ab GL01Cur.encO xs)=true:=bO (e:=GL01Cur.encO) (fun x=>by simp only [go_sem,GL01Cur.encO]) xs
theorem yT (xs:List GL01Cur):bG (ab GL01Cur.encO xs)=ab GL01Cur.encS xs:=br (e:=GL01Cur.encO) (fun x=>by simp only [go_sem,dO,toSl,GL01Cur.encO,GL01Cur.encS]) xs
theorem AW (n:Nat):List.replicate n [.own [],.lit (.int .i64 0),.lit (.int .i64 0)]=ab GL01Cur.encO (List.replicate n (GL01Cur.mk ([]) 0 0)):=aU (e:=GL01Cur.encO) n (GL01Cur.mk ([]) 0 0)
theorem vD (xs:List GL01Cur)(a1 a2:Int):ab GL01Cur.encO xs++[[.own [],.lit (.int .i64 a1),.lit (.int .i64 a2)]]=ab GL01Cur.encO (xs++[(GL01Cur.mk [] a1 a2)]):=aB (e:=GL01Cur.encO) xs (GL01Cur.mk [] a1 a2)
theorem xd (a1 a2:Int):[[.own [],.lit (.int .i64 a1),.lit (.int .i64 a2)]]=ab GL01Cur.encO [(GL01Cur.mk [] a1 a2)]:=rfl
theorem vE (xs:List GL01Cur)(a1 a2:Int):[.own [],.lit (.int .i64 a1),.lit (.int .i64 a2)]::ab GL01Cur.encO xs=ab GL01Cur.encO ((GL01Cur.mk [] a1 a2)::xs):=rfl
attribute [go_sem] GL01Cur.encO yR AQ AR AS yS AU yT AW vD xd vE
structure GTake where
 tie:Int
 length:Int
 deriving DecidableEq
def GTake.enc (x:GTake):List AV:=[.lit (.int .i64 x.tie),.lit (.int .i64 x.length)]
theorem Ew (xs:List GTake)(a0 a1:Int):ab GTake.enc xs++[[.lit (.int .i64 a0),.lit (.int .i64 a1)]]=ab GTake.enc (xs++[(GTake.mk a0 a1)]):=aB (e:=GTake.enc) xs (GTake.mk a0 a1)
theorem FQ (xs:List GTake)(i:Nat)(a0 a1:Int):(ab GTake.enc xs).set i [.lit (.int .i64 a0),.lit (.int .i64 a1)]=ab GTake.enc (xs.set i (GTake.mk a0 a1)):=aV (e:=GTake.enc) xs i (GTake.mk a0 a1)
theorem FR (xs:List GTake):(ab GTake.enc xs).all (fun r=>r.length == 2)=true:=aY (e:=GTake.enc) (fun _=>rfl) xs
theorem FS (a0 a1:Int):[[.lit (.int .i64 a0),.lit (.int .i64 a1)]]=ab GTake.enc [(GTake.mk a0 a1)]:=rfl
theorem Ex (xs:List GTake)(a0 a1:Int):[.lit (.int .i64 a0),.lit (.int .i64 a1)]::ab GTake.enc xs=ab GTake.enc ((GTake.mk a0 a1)::xs):=rfl
theorem FT (xs:List GTake):frsR (ab GTake.enc xs)=true:=bO (e:=GTake.enc) (fun x=>by simp only [go_sem,GTake.enc]) xs
theorem Ey (xs:List GTake):bG (ab GTake.enc xs)=ab GTake.enc xs:=br (e:=GTake.enc) (fun x=>by simp only [go_sem,dO,toSl,GTake.enc]) xs
theorem FU (n:Nat):List.replicate n [.lit (.int .i64 0),.lit (.int .i64 0)]=ab GTake.enc (List.replicate n (GTake.mk 0 0)):=aU (e:=GTake.enc) n (GTake.mk 0 0)
attribute [go_sem] GTake.enc Ew FQ FR FS Ex FT Ey FU
structure GCue where
 name:ByteArray
 after:Int
 atEnd:Bool
 low:Int
 high:Int
 min_:Int
 max_:Int
 free:Bool
 if_:Int
 watch:Int
 device:Int
 deriving DecidableEq
def GCue.enc (x:GCue):List AV:=[.lit (.string x.name),.lit (.int .i64 x.after),.lit (.bool x.atEnd),.lit (.int .i64 x.low),.lit (.int .i64 x.high),.lit (.int .i64 x.min_),.lit (.int .i64 x.max_),.lit (.bool x.free),.lit (.int .i64 x.if_),.lit (.int .i64 x.watch),.lit (.int .i64 x.device)]
theorem FV (xs:List GCue)(a0:ByteArray)(a1:Int)(a2:Bool)(a3 a4 a5 a6:Int)(a7:Bool)(a8 a9 a10:Int):ab GCue.enc xs++[[.lit (.string a0),.lit (.int .i64 a1),.lit (.bool a2),.lit (.int .i64 a3),.lit (.int .i64 a4),.lit (.int .i64 a5),.lit (.int .i64 a6),.lit (.bool a7),.lit (.int .i64 a8),.lit (.int .i64 a9),.lit (.int .i64 a10)]]=ab GCue.enc (xs++[(GCue.mk a0 a1 a2 a3 a4 a5 a6 a7 a8 a9 a10)]):=aB (e:=GCue.enc) xs (GCue.mk a0 a1 a2 a3 a4 a5 a6 a7 a8 a9 a10)
theorem It (xs:List GCue)(i:Nat)(a0:ByteArray)(a1:Int)(a2:Bool)(a3 a4 a5 a6:Int)(a7:Bool)(a8 a9 a10:Int):(ab GCue.enc xs).set i [.lit (.string a0),.lit (.int .i64 a1),.lit (.bool a2),.lit (.int .i64 a3),.lit (.int .i64 a4),.lit (.int .i64 a5),.lit (.int .i64 a6),.lit (.bool a7),.lit (.int .i64 a8),.lit (.int .i64 a9),.lit (.int .i64 a10)]=ab GCue.enc (xs.set i (GCue.mk a0 a1 a2 a3 a4 a5 a6 a7 a8 a9 a10)):=aV (e:=GCue.enc) xs i (GCue.mk a0 a1 a2 a3 a4 a5 a6 a7 a8 a9 a10)
theorem Iu (xs:List GCue):(ab GCue.enc xs).all (fun r=>r.length == 11)=true:=aY (e:=GCue.enc) (fun _=>rfl) xs
theorem Iv (a0:ByteArray)(a1:Int)(a2:Bool)(a3 a4 a5 a6:Int)(a7:Bool)(a8 a9 a10:Int):[[.lit (.string a0),.lit (.int .i64 a1),.lit (.bool a2),.lit (.int .i64 a3),.lit (.int .i64 a4),.lit (.int .i64 a5),.lit (.int .i64 a6),.lit (.bool a7),.lit (.int .i64 a8),.lit (.int .i64 a9),.lit (.int .i64 a10)]]=ab GCue.enc [(GCue.mk a0 a1 a2 a3 a4 a5 a6 a7 a8 a9 a10)]:=rfl
theorem FW (xs:List GCue)(a0:ByteArray)(a1:Int)(a2:Bool)(a3 a4 a5 a6:Int)(a7:Bool)(a8 a9 a10:Int):[.lit (.string a0),.lit (.int .i64 a1),.lit (.bool a2),.lit (.int .i64 a3),.lit (.int .i64 a4),.lit (.int .i64 a5),.lit (.int .i64 a6),.lit (.bool a7),.lit (.int .i64 a8),.lit (.int .i64 a9),.lit (.int .i64 a10)]::ab GCue.enc xs=ab GCue.enc ((GCue.mk a0 a1 a2 a3 a4 a5 a6 a7 a8 a9 a10)::xs):=rfl
theorem Iw (xs:List GCue):frsR (ab GCue.enc xs)=true:=bO (e:=GCue.enc) (fun x=>by simp only [go_sem,GCue.enc]) xs
theorem FX (xs:List GCue):bG (ab GCue.enc xs)=ab GCue.enc xs:=br (e:=GCue.enc) (fun x=>by simp only [go_sem,dO,toSl,GCue.enc]) xs
theorem Ix (n:Nat):List.replicate n [.lit (.string (ByteArray.mk #[])),.lit (.int .i64 0),.lit (.bool false),.lit (.int .i64 0),.lit (.int .i64 0),.lit (.int .i64 0),.lit (.int .i64 0),.lit (.bool false),.lit (.int .i64 0),.lit (.int .i64 0),.lit (.int .i64 0)]=ab GCue.enc (List.replicate n (GCue.mk (ByteArray.mk #[]) 0 false 0 0 0 0 false 0 0 0)):=aU (e:=GCue.enc) n (GCue.mk (ByteArray.mk #[]) 0 false 0 0 0 0 false 0 0 0)
attribute [go_sem] GCue.enc FV It Iu Iv FW Iw FX Ix
structure aA where
 cues:List GCue
 prep:List Int
 horizon:Int
 deriving DecidableEq
def aA.encS (x:aA):List AV:=[.sl (ab GCue.enc x.cues),.sl (ab eI x.prep),.lit (.int .i64 x.horizon)]
theorem AX (xs:List aA)(a0:List GCue)(a1:List Int)(a2:Int):ab aA.encS xs++[[.sl (ab GCue.enc a0),.sl (ab eI a1),.lit (.int .i64 a2)]]=ab aA.encS (xs++[(aA.mk a0 a1 a2)]):=aB (e:=aA.encS) xs (aA.mk a0 a1 a2)
theorem Db (xs:List aA)(i:Nat)(a0:List GCue)(a1:List Int)(a2:Int):(ab aA.encS xs).set i [.sl (ab GCue.enc a0),.sl (ab eI a1),.lit (.int .i64 a2)]=ab aA.encS (xs.set i (aA.mk a0 a1 a2)):=aV (e:=aA.encS) xs i (aA.mk a0 a1 a2)
theorem Dc (xs:List aA):(ab aA.encS xs).all (fun r=>r.length == 3)=true:=aY (e:=aA.encS) (fun _=>rfl) xs
theorem Dd (a0:List GCue)(a1:List Int)(a2:Int):[[.sl (ab GCue.enc a0),.sl (ab eI a1),.lit (.int .i64 a2)]]=ab aA.encS [(aA.mk a0 a1 a2)]:=rfl
theorem AY (xs:List aA)(a0:List GCue)(a1:List Int)(a2:Int):[.sl (ab GCue.enc a0),.sl (ab eI a1),.lit (.int .i64 a2)]::ab aA.encS xs=ab aA.encS ((aA.mk a0 a1 a2)::xs):=rfl
theorem xe (xs:List aA)(a1:List Int)(a2:Int):ab aA.encS xs++[[.sl [],.sl (ab eI a1),.lit (.int .i64 a2)]]=ab aA.encS (xs++[(aA.mk [] a1 a2)]):=aB (e:=aA.encS) xs (aA.mk [] a1 a2)
theorem yU (a1:List Int)(a2:Int):[[.sl [],.sl (ab eI a1),.lit (.int .i64 a2)]]=ab aA.encS [(aA.mk [] a1 a2)]:=rfl
theorem xf (xs:List aA)(a1:List Int)(a2:Int):[.sl [],.sl (ab eI a1),.lit (.int .i64 a2)]::ab aA.encS xs=ab aA.encS ((aA.mk [] a1 a2)::xs):=rfl
theorem xg (xs:List aA)(a0:List GCue)(a2:Int):ab aA.encS xs++[[.sl (ab GCue.enc a0),.sl [],.lit (.int .i64 a2)]]=ab aA.encS (xs++[(aA.mk a0 [] a2)]):=aB (e:=aA.encS) xs (aA.mk a0 [] a2)
theorem yV (a0:List GCue)(a2:Int):[[.sl (ab GCue.enc a0),.sl [],.lit (.int .i64 a2)]]=ab aA.encS [(aA.mk a0 [] a2)]:=rfl
theorem xh (xs:List aA)(a0:List GCue)(a2:Int):[.sl (ab GCue.enc a0),.sl [],.lit (.int .i64 a2)]::ab aA.encS xs=ab aA.encS ((aA.mk a0 [] a2)::xs):=rfl
theorem xi (xs:List aA)(a2:Int):ab aA.encS xs++[[.sl [],.sl [],.lit (.int .i64 a2)]]=ab aA.encS (xs++[(aA.mk [] [] a2)]):=aB (e:=aA.encS) xs (aA.mk [] [] a2)
theorem yW (a2:Int):[[.sl [],.sl [],.lit (.int .i64 a2)]]=ab aA.encS [(aA.mk [] [] a2)]:=rfl
theorem xj (xs:List aA)(a2:Int):[.sl [],.sl [],.lit (.int .i64 a2)]::ab aA.encS xs=ab aA.encS ((aA.mk [] [] a2)::xs):=rfl
attribute [go_sem] aA.encS AX Db Dc Dd AY xe yU xf xg yV xh xi yW xj
def aA.encO (x:aA):List AV:=[.own (ab GCue.enc x.cues),.own (ab eI x.prep),.lit (.int .i64 x.horizon)]
theorem AZ (xs:List aA)(a0:List GCue)(a1:List Int)(a2:Int):ab aA.encO xs++[[.own (ab GCue.enc a0),.own (ab eI a1),.lit (.int .i64 a2)]]=ab aA.encO (xs++[(aA.mk a0 a1 a2)]):=aB (e:=aA.encO) xs (aA.mk a0 a1 a2)
theorem De (xs:List aA)(i:Nat)(a0:List GCue)(a1:List Int)(a2:Int):(ab aA.encO xs).set i [.own (ab GCue.enc a0),.own (ab eI a1),.lit (.int .i64 a2)]=ab aA.encO (xs.set i (aA.mk a0 a1 a2)):=aV (e:=aA.encO) xs i (aA.mk a0 a1 a2)
theorem Df (xs:List aA):(ab aA.encO xs).all (fun r=>r.length == 3)=true:=aY (e:=aA.encO) (fun _=>rfl) xs
theorem Dg (a0:List GCue)(a1:List Int)(a2:Int):[[.own (ab GCue.enc a0),.own (ab eI a1),.lit (.int .i64 a2)]]=ab aA.encO [(aA.mk a0 a1 a2)]:=rfl
theorem Ba (xs:List aA)(a0:List GCue)(a1:List Int)(a2:Int):[.own (ab GCue.enc a0),.own (ab eI a1),.lit (.int .i64 a2)]::ab aA.encO xs=ab aA.encO ((aA.mk a0 a1 a2)::xs):=rfl
theorem Dh (xs:List aA):frsR (ab aA.encO xs)=true:=bO (e:=aA.encO) (fun x=>by simp only [go_sem,aA.encO]) xs
theorem Bb (xs:List aA):bG (ab aA.encO xs)=ab aA.encS xs:=br (e:=aA.encO) (fun x=>by simp only [go_sem,dO,toSl,aA.encO,aA.encS]) xs
theorem Di (n:Nat):List.replicate n [.own [],.own [],.lit (.int .i64 0)]=ab aA.encO (List.replicate n (aA.mk ([]) ([]) 0)):=aU (e:=aA.encO) n (aA.mk ([]) ([]) 0)
theorem xk (xs:List aA)(a1:List Int)(a2:Int):ab aA.encO xs++[[.own [],.own (ab eI a1),.lit (.int .i64 a2)]]=ab aA.encO (xs++[(aA.mk [] a1 a2)]):=aB (e:=aA.encO) xs (aA.mk [] a1 a2)
theorem yX (a1:List Int)(a2:Int):[[.own [],.own (ab eI a1),.lit (.int .i64 a2)]]=ab aA.encO [(aA.mk [] a1 a2)]:=rfl
theorem xl (xs:List aA)(a1:List Int)(a2:Int):[.own [],.own (ab eI a1),.lit (.int .i64 a2)]::ab aA.encO xs=ab aA.encO ((aA.mk [] a1 a2)::xs):=rfl
theorem xm (xs:List aA)(a0:List GCue)(a2:Int):ab aA.encO xs++[[.own (ab GCue.enc a0),.own [],.lit (.int .i64 a2)]]=ab aA.encO (xs++[(aA.mk a0 [] a2)]):=aB (e:=aA.encO) xs (aA.mk a0 [] a2)
theorem yY (a0:List GCue)(a2:Int):[[.own (ab GCue.enc a0),.own [],.lit (.int .i64 a2)]]=ab aA.encO [(aA.mk a0 [] a2)]:=rfl
theorem xn (xs:List aA)(a0:List GCue)(a2:Int):[.own (ab GCue.enc a0),.own [],.lit (.int .i64 a2)]::ab aA.encO xs=ab aA.encO ((aA.mk a0 [] a2)::xs):=rfl
theorem xo (xs:List aA)(a2:Int):ab aA.encO xs++[[.own [],.own [],.lit (.int .i64 a2)]]=ab aA.encO (xs++[(aA.mk [] [] a2)]):=aB (e:=aA.encO) xs (aA.mk [] [] a2)
theorem yZ (a2:Int):[[.own [],.own [],.lit (.int .i64 a2)]]=ab aA.encO [(aA.mk [] [] a2)]:=rfl
theorem xp (xs:List aA)(a2:Int):[.own [],.own [],.lit (.int .i64 a2)]::ab aA.encO xs=ab aA.encO ((aA.mk [] [] a2)::xs):=rfl
attribute [go_sem] aA.encO AZ De Df Dg Ba Dh Bb Di xk yX xl xm yY xn xo yZ xp
def spf (f:Nat):Bool:=[162,244].contains f
@[go_sem] theorem YV:spf 102=false:=rfl
@[go_sem] theorem YW:spf 145=false:=rfl
@[go_sem] theorem YX:spf 162=true:=rfl
@[go_sem] theorem YY:spf 168=false:=rfl
@[go_sem] theorem YZ:spf 203=false:=rfl
@[go_sem] theorem Za:spf 206=false:=rfl
@[go_sem] theorem Zb:spf 210=false:=rfl
@[go_sem] theorem Zc:spf 226=false:=rfl
@[go_sem] theorem Zd:spf 231=false:=rfl
@[go_sem] theorem Ze:spf 244=true:=rfl
@[go_sem] theorem Zf:spf 246=false:=rfl
@[go_sem] theorem Zg:spf 259=false:=rfl
@[go_sem] theorem Zh:spf 268=false:=rfl
@[go_sem] theorem Zi:spf 277=false:=rfl
@[go_sem] theorem Zj:spf 294=false:=rfl
@[go_sem] theorem Zk:spf 335=false:=rfl
@[go_sem] theorem Zt:spf 83=false:=rfl
@[go_sem] theorem Zl:spf 105=false:=rfl
@[go_sem] theorem Zm:spf 198=false:=rfl
@[go_sem] theorem Zn:spf 208=false:=rfl
@[go_sem] theorem Zo:spf 240=false:=rfl
@[go_sem] theorem Zp:spf 269=false:=rfl
def mdT:Nat→List AV→Md:=fun n a=>match n with
 | 73=>⟨[0],true⟩
 | 74=>⟨[],true⟩
 | 89=>⟨[],true⟩
 | 90=>⟨[0],true⟩
 | 92=>⟨[0],true⟩
 | 96=>⟨[],true⟩
 | 97=>⟨[0],true⟩
 | 111=>⟨[0],true⟩
 | 112=>⟨[0],true⟩
 | 151=>⟨[0],true⟩
 | 162=>⟨[0],true⟩
 | 163=>⟨[0],true⟩
 | 164=>⟨[],true⟩
 | 165=>⟨[0],true⟩
 | 166=>⟨[0],false⟩
 | 178=>⟨[0],true⟩
 | 179=>⟨[0],true⟩
 | 203=>⟨[5,6],false⟩
 | 242=>⟨[0],true⟩
 | 243=>⟨[0,1],true⟩
 | 244=>⟨[1,2],true⟩
 | 249=>⟨[0],false⟩
 | 252=>⟨[0,1],true⟩
 | 289=>bif spf (fnId a) then ⟨[0,1],true⟩ else ⟨[],false⟩
 | 290=>⟨[1000],false⟩
 | 291=>⟨[0],false⟩
 | 308=>⟨[0],false⟩
 | _=>⟨[],false⟩
@[go_sem] theorem md3 (a:List AV):mdT 3 a=⟨[],false⟩:=rfl
@[go_sem] theorem md4 (a:List AV):mdT 4 a=⟨[],false⟩:=rfl
@[go_sem] theorem md5 (a:List AV):mdT 5 a=⟨[],false⟩:=rfl
@[go_sem] theorem md6 (a:List AV):mdT 6 a=⟨[],false⟩:=rfl
@[go_sem] theorem md7 (a:List AV):mdT 7 a=⟨[],false⟩:=rfl
@[go_sem] theorem md8 (a:List AV):mdT 8 a=⟨[],false⟩:=rfl
@[go_sem] theorem md9 (a:List AV):mdT 9 a=⟨[],false⟩:=rfl
@[go_sem] theorem md10 (a:List AV):mdT 10 a=⟨[],false⟩:=rfl
@[go_sem] theorem md11 (a:List AV):mdT 11 a=⟨[],false⟩:=rfl
@[go_sem] theorem md12 (a:List AV):mdT 12 a=⟨[],false⟩:=rfl
@[go_sem] theorem md13 (a:List AV):mdT 13 a=⟨[],false⟩:=rfl
@[go_sem] theorem md14 (a:List AV):mdT 14 a=⟨[],false⟩:=rfl
@[go_sem] theorem md15 (a:List AV):mdT 15 a=⟨[],false⟩:=rfl
@[go_sem] theorem md16 (a:List AV):mdT 16 a=⟨[],false⟩:=rfl
@[go_sem] theorem md17 (a:List AV):mdT 17 a=⟨[],false⟩:=rfl
@[go_sem] theorem md18 (a:List AV):mdT 18 a=⟨[],false⟩:=rfl
@[go_sem] theorem md19 (a:List AV):mdT 19 a=⟨[],false⟩:=rfl
@[go_sem] theorem md20 (a:List AV):mdT 20 a=⟨[],false⟩:=rfl
@[go_sem] theorem md21 (a:List AV):mdT 21 a=⟨[],false⟩:=rfl
@[go_sem] theorem md22 (a:List AV):mdT 22 a=⟨[],false⟩:=rfl
@[go_sem] theorem md23 (a:List AV):mdT 23 a=⟨[],false⟩:=rfl
@[go_sem] theorem md24 (a:List AV):mdT 24 a=⟨[],false⟩:=rfl
@[go_sem] theorem md25 (a:List AV):mdT 25 a=⟨[],false⟩:=rfl
@[go_sem] theorem md26 (a:List AV):mdT 26 a=⟨[],false⟩:=rfl
@[go_sem] theorem md27 (a:List AV):mdT 27 a=⟨[],false⟩:=rfl
@[go_sem] theorem md28 (a:List AV):mdT 28 a=⟨[],false⟩:=rfl
@[go_sem] theorem md29 (a:List AV):mdT 29 a=⟨[],false⟩:=rfl
@[go_sem] theorem md30 (a:List AV):mdT 30 a=⟨[],false⟩:=rfl
@[go_sem] theorem md31 (a:List AV):mdT 31 a=⟨[],false⟩:=rfl
@[go_sem] theorem md32 (a:List AV):mdT 32 a=⟨[],false⟩:=rfl
@[go_sem] theorem md33 (a:List AV):mdT 33 a=⟨[],false⟩:=rfl
@[go_sem] theorem md34 (a:List AV):mdT 34 a=⟨[],false⟩:=rfl
@[go_sem] theorem md35 (a:List AV):mdT 35 a=⟨[],false⟩:=rfl
@[go_sem] theorem md36 (a:List AV):mdT 36 a=⟨[],false⟩:=rfl
@[go_sem] theorem md37 (a:List AV):mdT 37 a=⟨[],false⟩:=rfl
@[go_sem] theorem md38 (a:List AV):mdT 38 a=⟨[],false⟩:=rfl
@[go_sem] theorem md39 (a:List AV):mdT 39 a=⟨[],false⟩:=rfl
@[go_sem] theorem md40 (a:List AV):mdT 40 a=⟨[],false⟩:=rfl
@[go_sem] theorem md41 (a:List AV):mdT 41 a=⟨[],false⟩:=rfl
@[go_sem] theorem md42 (a:List AV):mdT 42 a=⟨[],false⟩:=rfl
@[go_sem] theorem md43 (a:List AV):mdT 43 a=⟨[],false⟩:=rfl
@[go_sem] theorem md44 (a:List AV):mdT 44 a=⟨[],false⟩:=rfl
@[go_sem] theorem md45 (a:List AV):mdT 45 a=⟨[],false⟩:=rfl
@[go_sem] theorem md46 (a:List AV):mdT 46 a=⟨[],false⟩:=rfl
@[go_sem] theorem md47 (a:List AV):mdT 47 a=⟨[],false⟩:=rfl
@[go_sem] theorem md48 (a:List AV):mdT 48 a=⟨[],false⟩:=rfl
@[go_sem] theorem md49 (a:List AV):mdT 49 a=⟨[],false⟩:=rfl
@[go_sem] theorem md50 (a:List AV):mdT 50 a=⟨[],false⟩:=rfl
@[go_sem] theorem md51 (a:List AV):mdT 51 a=⟨[],false⟩:=rfl
@[go_sem] theorem md52 (a:List AV):mdT 52 a=⟨[],false⟩:=rfl
@[go_sem] theorem md53 (a:List AV):mdT 53 a=⟨[],false⟩:=rfl
@[go_sem] theorem md54 (a:List AV):mdT 54 a=⟨[],false⟩:=rfl
@[go_sem] theorem md55 (a:List AV):mdT 55 a=⟨[],false⟩:=rfl
@[go_sem] theorem md56 (a:List AV):mdT 56 a=⟨[],false⟩:=rfl
@[go_sem] theorem md57 (a:List AV):mdT 57 a=⟨[],false⟩:=rfl
@[go_sem] theorem md58 (a:List AV):mdT 58 a=⟨[],false⟩:=rfl
@[go_sem] theorem md59 (a:List AV):mdT 59 a=⟨[],false⟩:=rfl
@[go_sem] theorem md60 (a:List AV):mdT 60 a=⟨[],false⟩:=rfl
@[go_sem] theorem md61 (a:List AV):mdT 61 a=⟨[],false⟩:=rfl
@[go_sem] theorem md62 (a:List AV):mdT 62 a=⟨[],false⟩:=rfl
@[go_sem] theorem md63 (a:List AV):mdT 63 a=⟨[],false⟩:=rfl
@[go_sem] theorem md64 (a:List AV):mdT 64 a=⟨[],false⟩:=rfl
@[go_sem] theorem md65 (a:List AV):mdT 65 a=⟨[],false⟩:=rfl
@[go_sem] theorem md66 (a:List AV):mdT 66 a=⟨[],false⟩:=rfl
@[go_sem] theorem md67 (a:List AV):mdT 67 a=⟨[],false⟩:=rfl
@[go_sem] theorem md68 (a:List AV):mdT 68 a=⟨[],false⟩:=rfl
@[go_sem] theorem md69 (a:List AV):mdT 69 a=⟨[],false⟩:=rfl
@[go_sem] theorem md70 (a:List AV):mdT 70 a=⟨[],false⟩:=rfl
@[go_sem] theorem md71 (a:List AV):mdT 71 a=⟨[],false⟩:=rfl
@[go_sem] theorem md72 (a:List AV):mdT 72 a=⟨[],false⟩:=rfl
@[go_sem] theorem md73 (a:List AV):mdT 73 a=⟨[0],true⟩:=rfl
@[go_sem] theorem md74 (a:List AV):mdT 74 a=⟨[],true⟩:=rfl
@[go_sem] theorem md75 (a:List AV):mdT 75 a=⟨[],false⟩:=rfl
@[go_sem] theorem md77 (a:List AV):mdT 77 a=⟨[],false⟩:=rfl
@[go_sem] theorem md79 (a:List AV):mdT 79 a=⟨[],false⟩:=rfl
@[go_sem] theorem md80 (a:List AV):mdT 80 a=⟨[],false⟩:=rfl
@[go_sem] theorem md81 (a:List AV):mdT 81 a=⟨[],false⟩:=rfl
@[go_sem] theorem md82 (a:List AV):mdT 82 a=⟨[],false⟩:=rfl
@[go_sem] theorem md83 (a:List AV):mdT 83 a=⟨[],false⟩:=rfl
@[go_sem] theorem md84 (a:List AV):mdT 84 a=⟨[],false⟩:=rfl
@[go_sem] theorem md85 (a:List AV):mdT 85 a=⟨[],false⟩:=rfl
@[go_sem] theorem md86 (a:List AV):mdT 86 a=⟨[],false⟩:=rfl
@[go_sem] theorem md87 (a:List AV):mdT 87 a=⟨[],false⟩:=rfl
@[go_sem] theorem md88 (a:List AV):mdT 88 a=⟨[],false⟩:=rfl
@[go_sem] theorem md89 (a:List AV):mdT 89 a=⟨[],true⟩:=rfl
@[go_sem] theorem md90 (a:List AV):mdT 90 a=⟨[0],true⟩:=rfl
@[go_sem] theorem md91 (a:List AV):mdT 91 a=⟨[],false⟩:=rfl
@[go_sem] theorem md92 (a:List AV):mdT 92 a=⟨[0],true⟩:=rfl
@[go_sem] theorem md93 (a:List AV):mdT 93 a=⟨[],false⟩:=rfl
@[go_sem] theorem md94 (a:List AV):mdT 94 a=⟨[],false⟩:=rfl
@[go_sem] theorem md95 (a:List AV):mdT 95 a=⟨[],false⟩:=rfl
@[go_sem] theorem md96 (a:List AV):mdT 96 a=⟨[],true⟩:=rfl
@[go_sem] theorem md97 (a:List AV):mdT 97 a=⟨[0],true⟩:=rfl
@[go_sem] theorem md98 (a:List AV):mdT 98 a=⟨[],false⟩:=rfl
@[go_sem] theorem md99 (a:List AV):mdT 99 a=⟨[],false⟩:=rfl
@[go_sem] theorem Zu (a:List AV):mdT 100 a=⟨[],false⟩:=rfl
@[go_sem] theorem Zv (a:List AV):mdT 101 a=⟨[],false⟩:=rfl
@[go_sem] theorem Zw (a:List AV):mdT 102 a=⟨[],false⟩:=rfl
@[go_sem] theorem Zx (a:List AV):mdT 103 a=⟨[],false⟩:=rfl
@[go_sem] theorem Zy (a:List AV):mdT 104 a=⟨[],false⟩:=rfl
@[go_sem] theorem Zz (a:List AV):mdT 105 a=⟨[],false⟩:=rfl
@[go_sem] theorem ZA (a:List AV):mdT 106 a=⟨[],false⟩:=rfl
@[go_sem] theorem ZB (a:List AV):mdT 107 a=⟨[],false⟩:=rfl
@[go_sem] theorem ZC (a:List AV):mdT 108 a=⟨[],false⟩:=rfl
@[go_sem] theorem ZD (a:List AV):mdT 109 a=⟨[],false⟩:=rfl
@[go_sem] theorem ZE (a:List AV):mdT 110 a=⟨[],false⟩:=rfl
@[go_sem] theorem ZF (a:List AV):mdT 111 a=⟨[0],true⟩:=rfl
@[go_sem] theorem ZG (a:List AV):mdT 112 a=⟨[0],true⟩:=rfl
@[go_sem] theorem ZH (a:List AV):mdT 113 a=⟨[],false⟩:=rfl
@[go_sem] theorem ZI (a:List AV):mdT 114 a=⟨[],false⟩:=rfl
@[go_sem] theorem ZJ (a:List AV):mdT 115 a=⟨[],false⟩:=rfl
@[go_sem] theorem ZK (a:List AV):mdT 116 a=⟨[],false⟩:=rfl
@[go_sem] theorem ZL (a:List AV):mdT 117 a=⟨[],false⟩:=rfl
@[go_sem] theorem ZM (a:List AV):mdT 118 a=⟨[],false⟩:=rfl
@[go_sem] theorem ZN (a:List AV):mdT 119 a=⟨[],false⟩:=rfl
@[go_sem] theorem ZO (a:List AV):mdT 120 a=⟨[],false⟩:=rfl
@[go_sem] theorem ZP (a:List AV):mdT 121 a=⟨[],false⟩:=rfl
@[go_sem] theorem ZQ (a:List AV):mdT 122 a=⟨[],false⟩:=rfl
@[go_sem] theorem ZR (a:List AV):mdT 123 a=⟨[],false⟩:=rfl
@[go_sem] theorem ZS (a:List AV):mdT 124 a=⟨[],false⟩:=rfl
@[go_sem] theorem ZT (a:List AV):mdT 125 a=⟨[],false⟩:=rfl
@[go_sem] theorem ZU (a:List AV):mdT 126 a=⟨[],false⟩:=rfl
@[go_sem] theorem ZV (a:List AV):mdT 127 a=⟨[],false⟩:=rfl
@[go_sem] theorem ZW (a:List AV):mdT 128 a=⟨[],false⟩:=rfl
@[go_sem] theorem ZX (a:List AV):mdT 129 a=⟨[],false⟩:=rfl
@[go_sem] theorem ZY (a:List AV):mdT 130 a=⟨[],false⟩:=rfl
@[go_sem] theorem ZZ (a:List AV):mdT 131 a=⟨[],false⟩:=rfl
@[go_sem] theorem aaa (a:List AV):mdT 132 a=⟨[],false⟩:=rfl
@[go_sem] theorem aab (a:List AV):mdT 133 a=⟨[],false⟩:=rfl
@[go_sem] theorem aac (a:List AV):mdT 134 a=⟨[],false⟩:=rfl
@[go_sem] theorem aad (a:List AV):mdT 135 a=⟨[],false⟩:=rfl
@[go_sem] theorem aae (a:List AV):mdT 136 a=⟨[],false⟩:=rfl
@[go_sem] theorem aaf (a:List AV):mdT 137 a=⟨[],false⟩:=rfl
@[go_sem] theorem aag (a:List AV):mdT 138 a=⟨[],false⟩:=rfl
@[go_sem] theorem aah (a:List AV):mdT 139 a=⟨[],false⟩:=rfl
@[go_sem] theorem aai (a:List AV):mdT 140 a=⟨[],false⟩:=rfl
@[go_sem] theorem aaj (a:List AV):mdT 141 a=⟨[],false⟩:=rfl
@[go_sem] theorem aak (a:List AV):mdT 142 a=⟨[],false⟩:=rfl
@[go_sem] theorem aal (a:List AV):mdT 143 a=⟨[],false⟩:=rfl
@[go_sem] theorem aam (a:List AV):mdT 144 a=⟨[],false⟩:=rfl
@[go_sem] theorem aan (a:List AV):mdT 145 a=⟨[],false⟩:=rfl
@[go_sem] theorem aao (a:List AV):mdT 146 a=⟨[],false⟩:=rfl
@[go_sem] theorem aap (a:List AV):mdT 147 a=⟨[],false⟩:=rfl
@[go_sem] theorem aaq (a:List AV):mdT 148 a=⟨[],false⟩:=rfl
@[go_sem] theorem aar (a:List AV):mdT 149 a=⟨[],false⟩:=rfl
@[go_sem] theorem aas (a:List AV):mdT 150 a=⟨[],false⟩:=rfl
@[go_sem] theorem aat (a:List AV):mdT 151 a=⟨[0],true⟩:=rfl
@[go_sem] theorem aau (a:List AV):mdT 153 a=⟨[],false⟩:=rfl
@[go_sem] theorem aav (a:List AV):mdT 155 a=⟨[],false⟩:=rfl
@[go_sem] theorem aaw (a:List AV):mdT 156 a=⟨[],false⟩:=rfl
@[go_sem] theorem aax (a:List AV):mdT 157 a=⟨[],false⟩:=rfl
@[go_sem] theorem aay (a:List AV):mdT 158 a=⟨[],false⟩:=rfl
@[go_sem] theorem aaz (a:List AV):mdT 159 a=⟨[],false⟩:=rfl
@[go_sem] theorem aaA (a:List AV):mdT 160 a=⟨[],false⟩:=rfl
@[go_sem] theorem aaB (a:List AV):mdT 161 a=⟨[],false⟩:=rfl
@[go_sem] theorem aaC (a:List AV):mdT 162 a=⟨[0],true⟩:=rfl
@[go_sem] theorem aaD (a:List AV):mdT 163 a=⟨[0],true⟩:=rfl
@[go_sem] theorem aaE (a:List AV):mdT 164 a=⟨[],true⟩:=rfl
@[go_sem] theorem aaF (a:List AV):mdT 165 a=⟨[0],true⟩:=rfl
@[go_sem] theorem aaG (a:List AV):mdT 166 a=⟨[0],false⟩:=rfl
@[go_sem] theorem aaH (a:List AV):mdT 167 a=⟨[],false⟩:=rfl
@[go_sem] theorem aaI (a:List AV):mdT 168 a=⟨[],false⟩:=rfl
@[go_sem] theorem aaJ (a:List AV):mdT 169 a=⟨[],false⟩:=rfl
@[go_sem] theorem aaK (a:List AV):mdT 170 a=⟨[],false⟩:=rfl
@[go_sem] theorem aaL (a:List AV):mdT 171 a=⟨[],false⟩:=rfl
@[go_sem] theorem aaM (a:List AV):mdT 172 a=⟨[],false⟩:=rfl
@[go_sem] theorem aaN (a:List AV):mdT 173 a=⟨[],false⟩:=rfl
@[go_sem] theorem aaO (a:List AV):mdT 174 a=⟨[],false⟩:=rfl
@[go_sem] theorem aaP (a:List AV):mdT 175 a=⟨[],false⟩:=rfl
@[go_sem] theorem aaQ (a:List AV):mdT 176 a=⟨[],false⟩:=rfl
@[go_sem] theorem aaR (a:List AV):mdT 177 a=⟨[],false⟩:=rfl
@[go_sem] theorem aaS (a:List AV):mdT 178 a=⟨[0],true⟩:=rfl
@[go_sem] theorem aaT (a:List AV):mdT 179 a=⟨[0],true⟩:=rfl
@[go_sem] theorem aaU (a:List AV):mdT 180 a=⟨[],false⟩:=rfl
@[go_sem] theorem aaV (a:List AV):mdT 181 a=⟨[],false⟩:=rfl
@[go_sem] theorem aaW (a:List AV):mdT 182 a=⟨[],false⟩:=rfl
@[go_sem] theorem aaX (a:List AV):mdT 183 a=⟨[],false⟩:=rfl
@[go_sem] theorem aaY (a:List AV):mdT 184 a=⟨[],false⟩:=rfl
@[go_sem] theorem aaZ (a:List AV):mdT 185 a=⟨[],false⟩:=rfl
@[go_sem] theorem aba (a:List AV):mdT 186 a=⟨[],false⟩:=rfl
@[go_sem] theorem abb (a:List AV):mdT 187 a=⟨[],false⟩:=rfl
@[go_sem] theorem abc (a:List AV):mdT 188 a=⟨[],false⟩:=rfl
@[go_sem] theorem abd (a:List AV):mdT 189 a=⟨[],false⟩:=rfl
@[go_sem] theorem abe (a:List AV):mdT 190 a=⟨[],false⟩:=rfl
@[go_sem] theorem abf (a:List AV):mdT 191 a=⟨[],false⟩:=rfl
@[go_sem] theorem abg (a:List AV):mdT 192 a=⟨[],false⟩:=rfl
@[go_sem] theorem abh (a:List AV):mdT 193 a=⟨[],false⟩:=rfl
@[go_sem] theorem abi (a:List AV):mdT 194 a=⟨[],false⟩:=rfl
@[go_sem] theorem abj (a:List AV):mdT 195 a=⟨[],false⟩:=rfl
@[go_sem] theorem abk (a:List AV):mdT 196 a=⟨[],false⟩:=rfl
@[go_sem] theorem abl (a:List AV):mdT 197 a=⟨[],false⟩:=rfl
@[go_sem] theorem abm (a:List AV):mdT 198 a=⟨[],false⟩:=rfl
@[go_sem] theorem abn (a:List AV):mdT 199 a=⟨[],false⟩:=rfl
@[go_sem] theorem abo (a:List AV):mdT 200 a=⟨[],false⟩:=rfl
@[go_sem] theorem abp (a:List AV):mdT 201 a=⟨[],false⟩:=rfl
@[go_sem] theorem abq (a:List AV):mdT 202 a=⟨[],false⟩:=rfl
@[go_sem] theorem abr (a:List AV):mdT 203 a=⟨[5,6],false⟩:=rfl
@[go_sem] theorem abt (a:List AV):mdT 204 a=⟨[],false⟩:=rfl
@[go_sem] theorem abu (a:List AV):mdT 205 a=⟨[],false⟩:=rfl
@[go_sem] theorem abv (a:List AV):mdT 206 a=⟨[],false⟩:=rfl
@[go_sem] theorem abw (a:List AV):mdT 207 a=⟨[],false⟩:=rfl
@[go_sem] theorem abx (a:List AV):mdT 208 a=⟨[],false⟩:=rfl
@[go_sem] theorem aby (a:List AV):mdT 209 a=⟨[],false⟩:=rfl
@[go_sem] theorem abz (a:List AV):mdT 210 a=⟨[],false⟩:=rfl
@[go_sem] theorem abA (a:List AV):mdT 211 a=⟨[],false⟩:=rfl
@[go_sem] theorem abB (a:List AV):mdT 212 a=⟨[],false⟩:=rfl
@[go_sem] theorem abC (a:List AV):mdT 213 a=⟨[],false⟩:=rfl
@[go_sem] theorem abD (a:List AV):mdT 214 a=⟨[],false⟩:=rfl
@[go_sem] theorem abE (a:List AV):mdT 215 a=⟨[],false⟩:=rfl
@[go_sem] theorem abF (a:List AV):mdT 216 a=⟨[],false⟩:=rfl
@[go_sem] theorem abG (a:List AV):mdT 217 a=⟨[],false⟩:=rfl
@[go_sem] theorem abH (a:List AV):mdT 218 a=⟨[],false⟩:=rfl
@[go_sem] theorem abI (a:List AV):mdT 219 a=⟨[],false⟩:=rfl
@[go_sem] theorem abJ (a:List AV):mdT 220 a=⟨[],false⟩:=rfl
@[go_sem] theorem abK (a:List AV):mdT 221 a=⟨[],false⟩:=rfl
@[go_sem] theorem abL (a:List AV):mdT 222 a=⟨[],false⟩:=rfl
@[go_sem] theorem abM (a:List AV):mdT 223 a=⟨[],false⟩:=rfl
@[go_sem] theorem abN (a:List AV):mdT 224 a=⟨[],false⟩:=rfl
@[go_sem] theorem abO (a:List AV):mdT 225 a=⟨[],false⟩:=rfl
@[go_sem] theorem abP (a:List AV):mdT 226 a=⟨[],false⟩:=rfl
@[go_sem] theorem abQ (a:List AV):mdT 227 a=⟨[],false⟩:=rfl
@[go_sem] theorem abR (a:List AV):mdT 228 a=⟨[],false⟩:=rfl
@[go_sem] theorem abS (a:List AV):mdT 229 a=⟨[],false⟩:=rfl
@[go_sem] theorem abT (a:List AV):mdT 230 a=⟨[],false⟩:=rfl
@[go_sem] theorem abU (a:List AV):mdT 231 a=⟨[],false⟩:=rfl
@[go_sem] theorem abV (a:List AV):mdT 232 a=⟨[],false⟩:=rfl
@[go_sem] theorem abW (a:List AV):mdT 233 a=⟨[],false⟩:=rfl
@[go_sem] theorem abX (a:List AV):mdT 234 a=⟨[],false⟩:=rfl
@[go_sem] theorem abY (a:List AV):mdT 236 a=⟨[],false⟩:=rfl
@[go_sem] theorem abZ (a:List AV):mdT 238 a=⟨[],false⟩:=rfl
@[go_sem] theorem aca (a:List AV):mdT 240 a=⟨[],false⟩:=rfl
@[go_sem] theorem acb (a:List AV):mdT 241 a=⟨[],false⟩:=rfl
@[go_sem] theorem acd (a:List AV):mdT 242 a=⟨[0],true⟩:=rfl
@[go_sem] theorem ace (a:List AV):mdT 243 a=⟨[0,1],true⟩:=rfl
@[go_sem] theorem acf (a:List AV):mdT 244 a=⟨[1,2],true⟩:=rfl
@[go_sem] theorem acg (a:List AV):mdT 245 a=⟨[],false⟩:=rfl
@[go_sem] theorem ach (a:List AV):mdT 246 a=⟨[],false⟩:=rfl
@[go_sem] theorem aci (a:List AV):mdT 247 a=⟨[],false⟩:=rfl
@[go_sem] theorem acj (a:List AV):mdT 248 a=⟨[],false⟩:=rfl
@[go_sem] theorem ack (a:List AV):mdT 249 a=⟨[0],false⟩:=rfl
@[go_sem] theorem acl (a:List AV):mdT 250 a=⟨[],false⟩:=rfl
@[go_sem] theorem acm (a:List AV):mdT 251 a=⟨[],false⟩:=rfl
@[go_sem] theorem acn (a:List AV):mdT 252 a=⟨[0,1],true⟩:=rfl
@[go_sem] theorem aco (a:List AV):mdT 253 a=⟨[],false⟩:=rfl
@[go_sem] theorem acp (a:List AV):mdT 254 a=⟨[],false⟩:=rfl
@[go_sem] theorem acq (a:List AV):mdT 255 a=⟨[],false⟩:=rfl
@[go_sem] theorem acr (a:List AV):mdT 256 a=⟨[],false⟩:=rfl
@[go_sem] theorem acs (a:List AV):mdT 257 a=⟨[],false⟩:=rfl
@[go_sem] theorem acu (a:List AV):mdT 258 a=⟨[],false⟩:=rfl
@[go_sem] theorem acv (a:List AV):mdT 259 a=⟨[],false⟩:=rfl
@[go_sem] theorem acw (a:List AV):mdT 260 a=⟨[],false⟩:=rfl
@[go_sem] theorem acx (a:List AV):mdT 261 a=⟨[],false⟩:=rfl
@[go_sem] theorem acy (a:List AV):mdT 263 a=⟨[],false⟩:=rfl
@[go_sem] theorem acz (a:List AV):mdT 266 a=⟨[],false⟩:=rfl
@[go_sem] theorem acA (a:List AV):mdT 267 a=⟨[],false⟩:=rfl
@[go_sem] theorem acB (a:List AV):mdT 268 a=⟨[],false⟩:=rfl
@[go_sem] theorem acC (a:List AV):mdT 269 a=⟨[],false⟩:=rfl
@[go_sem] theorem acD (a:List AV):mdT 270 a=⟨[],false⟩:=rfl
@[go_sem] theorem acE (a:List AV):mdT 271 a=⟨[],false⟩:=rfl
@[go_sem] theorem acF (a:List AV):mdT 272 a=⟨[],false⟩:=rfl
@[go_sem] theorem acG (a:List AV):mdT 273 a=⟨[],false⟩:=rfl
@[go_sem] theorem acH (a:List AV):mdT 274 a=⟨[],false⟩:=rfl
@[go_sem] theorem acI (a:List AV):mdT 275 a=⟨[],false⟩:=rfl
@[go_sem] theorem acJ (a:List AV):mdT 276 a=⟨[],false⟩:=rfl
@[go_sem] theorem acK (a:List AV):mdT 277 a=⟨[],false⟩:=rfl
@[go_sem] theorem acL (a:List AV):mdT 278 a=⟨[],false⟩:=rfl
@[go_sem] theorem acM (a:List AV):mdT 279 a=⟨[],false⟩:=rfl
@[go_sem] theorem acN (a:List AV):mdT 280 a=⟨[],false⟩:=rfl
@[go_sem] theorem acO (a:List AV):mdT 281 a=⟨[],false⟩:=rfl
@[go_sem] theorem acP (a:List AV):mdT 288 a=⟨[],false⟩:=rfl
@[go_sem] theorem acQ (a:List AV):mdT 289 a=bif spf (fnId a) then ⟨[0,1],true⟩ else ⟨[],false⟩:=rfl
@[go_sem] theorem acR (a:List AV):mdT 290 a=⟨[1000],false⟩:=rfl
@[go_sem] theorem acS (a:List AV):mdT 291 a=⟨[0],false⟩:=rfl
@[go_sem] theorem acT (a:List AV):mdT 292 a=⟨[],false⟩:=rfl
@[go_sem] theorem acU (a:List AV):mdT 293 a=⟨[],false⟩:=rfl
@[go_sem] theorem acV (a:List AV):mdT 294 a=⟨[],false⟩:=rfl
@[go_sem] theorem acW (a:List AV):mdT 295 a=⟨[],false⟩:=rfl
@[go_sem] theorem acX (a:List AV):mdT 298 a=⟨[],false⟩:=rfl
@[go_sem] theorem acY (a:List AV):mdT 299 a=⟨[],false⟩:=rfl
@[go_sem] theorem acZ (a:List AV):mdT 300 a=⟨[],false⟩:=rfl
@[go_sem] theorem ada (a:List AV):mdT 308 a=⟨[0],false⟩:=rfl
@[go_sem] theorem adb (a:List AV):mdT 314 a=⟨[],false⟩:=rfl
@[go_sem] theorem adc (a:List AV):mdT 318 a=⟨[],false⟩:=rfl
@[go_sem] theorem ade (a:List AV):mdT 319 a=⟨[],false⟩:=rfl
@[go_sem] theorem adf (a:List AV):mdT 325 a=⟨[],false⟩:=rfl
@[go_sem] theorem adg (a:List AV):mdT 334 a=⟨[],false⟩:=rfl
@[go_sem] theorem adh (a:List AV):mdT 335 a=⟨[],false⟩:=rfl
end Go.Proofs.Qd
