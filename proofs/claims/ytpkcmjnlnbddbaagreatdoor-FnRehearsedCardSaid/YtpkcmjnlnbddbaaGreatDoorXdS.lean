/- The things of the program. -/
import Derived.Test.YtpkcmjnlnbddbaaGreatDoorXdT
import Derived.Test.YtpkcmjnlnbddbaaGreatDoorXd33
set_option linter.all false
set_option maxRecDepth 100000
set_option maxHeartbeats 400000
namespace Go.Proofs.Qd
open Go
structure GNode where
 name:ByteArray
 label:List Int
 watch:Int
 deriving DecidableEq
def GNode.encS (x:GNode):List AV:=[.lit (.string x.name),.sl (ab eI x.label),.lit (.int .i64 x.watch)]
theorem AF (xs:List GNode)(a0:ByteArray)(a1:List Int)(a2:Int):ab GNode.encS xs++[[.lit (.string a0),.sl (ab eI a1),.lit (.int .i64 a2)]]=ab GNode.encS (xs++[(GNode.mk a0 a1 a2)]):=ar (e:=GNode.encS) xs (GNode.mk a0 a1 a2)
theorem BQ (xs:List GNode)(i:Nat)(a0:ByteArray)(a1:List Int)(a2:Int):(ab GNode.encS xs).set i [.lit (.string a0),.sl (ab eI a1),.lit (.int .i64 a2)]=ab GNode.encS (xs.set i (GNode.mk a0 a1 a2)):=aP (e:=GNode.encS) xs i (GNode.mk a0 a1 a2)
theorem BR (xs:List GNode):(ab GNode.encS xs).all (fun r=>r.length == 3)=true:=aS (e:=GNode.encS) (fun _=>rfl) xs
theorem BS (a0:ByteArray)(a1:List Int)(a2:Int):[[.lit (.string a0),.sl (ab eI a1),.lit (.int .i64 a2)]]=ab GNode.encS [(GNode.mk a0 a1 a2)]:=rfl
theorem AG (xs:List GNode)(a0:ByteArray)(a1:List Int)(a2:Int):[.lit (.string a0),.sl (ab eI a1),.lit (.int .i64 a2)]::ab GNode.encS xs=ab GNode.encS ((GNode.mk a0 a1 a2)::xs):=rfl
theorem wB (xs:List GNode)(a0:ByteArray)(a2:Int):ab GNode.encS xs++[[.lit (.string a0),.sl [],.lit (.int .i64 a2)]]=ab GNode.encS (xs++[(GNode.mk a0 [] a2)]):=ar (e:=GNode.encS) xs (GNode.mk a0 [] a2)
theorem yl (a0:ByteArray)(a2:Int):[[.lit (.string a0),.sl [],.lit (.int .i64 a2)]]=ab GNode.encS [(GNode.mk a0 [] a2)]:=rfl
theorem wC (xs:List GNode)(a0:ByteArray)(a2:Int):[.lit (.string a0),.sl [],.lit (.int .i64 a2)]::ab GNode.encS xs=ab GNode.encS ((GNode.mk a0 [] a2)::xs):=rfl
attribute [go_sem] GNode.encS AF BQ BR BS AG wB yl wC
def GNode.encO (x:GNode):List AV:=[.lit (.string x.name),.own (ab eI x.label),.lit (.int .i64 x.watch)]
theorem AH (xs:List GNode)(a0:ByteArray)(a1:List Int)(a2:Int):ab GNode.encO xs++[[.lit (.string a0),.own (ab eI a1),.lit (.int .i64 a2)]]=ab GNode.encO (xs++[(GNode.mk a0 a1 a2)]):=ar (e:=GNode.encO) xs (GNode.mk a0 a1 a2)
theorem BT (xs:List GNode)(i:Nat)(a0:ByteArray)(a1:List Int)(a2:Int):(ab GNode.encO xs).set i [.lit (.string a0),.own (ab eI a1),.lit (.int .i64 a2)]=ab GNode.encO (xs.set i (GNode.mk a0 a1 a2)):=aP (e:=GNode.encO) xs i (GNode.mk a0 a1 a2)
theorem BU (xs:List GNode):(ab GNode.encO xs).all (fun r=>r.length == 3)=true:=aS (e:=GNode.encO) (fun _=>rfl) xs
theorem BV (a0:ByteArray)(a1:List Int)(a2:Int):[[.lit (.string a0),.own (ab eI a1),.lit (.int .i64 a2)]]=ab GNode.encO [(GNode.mk a0 a1 a2)]:=rfl
theorem AI (xs:List GNode)(a0:ByteArray)(a1:List Int)(a2:Int):[.lit (.string a0),.own (ab eI a1),.lit (.int .i64 a2)]::ab GNode.encO xs=ab GNode.encO ((GNode.mk a0 a1 a2)::xs):=rfl
theorem BW (xs:List GNode):frsR (ab GNode.encO xs)=true:=bI (e:=GNode.encO) (fun x=>by simp only [go_sem,GNode.encO]) xs
theorem AJ (xs:List GNode):bA (ab GNode.encO xs)=ab GNode.encS xs:=bl (e:=GNode.encO) (fun x=>by simp only [go_sem,dK,toSl,GNode.encO,GNode.encS]) xs
theorem BX (n:Nat):List.replicate n [.lit (.string (ByteArray.mk #[])),.own [],.lit (.int .i64 0)]=ab GNode.encO (List.replicate n (GNode.mk (ByteArray.mk #[]) ([]) 0)):=aO (e:=GNode.encO) n (GNode.mk (ByteArray.mk #[]) ([]) 0)
theorem wD (xs:List GNode)(a0:ByteArray)(a2:Int):ab GNode.encO xs++[[.lit (.string a0),.own [],.lit (.int .i64 a2)]]=ab GNode.encO (xs++[(GNode.mk a0 [] a2)]):=ar (e:=GNode.encO) xs (GNode.mk a0 [] a2)
theorem ym (a0:ByteArray)(a2:Int):[[.lit (.string a0),.own [],.lit (.int .i64 a2)]]=ab GNode.encO [(GNode.mk a0 [] a2)]:=rfl
theorem wE (xs:List GNode)(a0:ByteArray)(a2:Int):[.lit (.string a0),.own [],.lit (.int .i64 a2)]::ab GNode.encO xs=ab GNode.encO ((GNode.mk a0 [] a2)::xs):=rfl
attribute [go_sem] GNode.encO AH BT BU BV AI BW AJ BX wD ym wE
structure GTie where
 from_:Int
 to:Int
 low:Int
 high:Int
 free:Bool
 deriving DecidableEq
def GTie.enc (x:GTie):List AV:=[.lit (.int .i64 x.from_),.lit (.int .i64 x.to),.lit (.int .i64 x.low),.lit (.int .i64 x.high),.lit (.bool x.free)]
theorem Do (xs:List GTie)(a0 a1 a2 a3:Int)(a4:Bool):ab GTie.enc xs++[[.lit (.int .i64 a0),.lit (.int .i64 a1),.lit (.int .i64 a2),.lit (.int .i64 a3),.lit (.bool a4)]]=ab GTie.enc (xs++[(GTie.mk a0 a1 a2 a3 a4)]):=ar (e:=GTie.enc) xs (GTie.mk a0 a1 a2 a3 a4)
theorem FS (xs:List GTie)(i:Nat)(a0 a1 a2 a3:Int)(a4:Bool):(ab GTie.enc xs).set i [.lit (.int .i64 a0),.lit (.int .i64 a1),.lit (.int .i64 a2),.lit (.int .i64 a3),.lit (.bool a4)]=ab GTie.enc (xs.set i (GTie.mk a0 a1 a2 a3 a4)):=aP (e:=GTie.enc) xs i (GTie.mk a0 a1 a2 a3 a4)
theorem FT (xs:List GTie):(ab GTie.enc xs).all (fun r=>r.length == 5)=true:=aS (e:=GTie.enc) (fun _=>rfl) xs
theorem FU (a0 a1 a2 a3:Int)(a4:Bool):[[.lit (.int .i64 a0),.lit (.int .i64 a1),.lit (.int .i64 a2),.lit (.int .i64 a3),.lit (.bool a4)]]=ab GTie.enc [(GTie.mk a0 a1 a2 a3 a4)]:=rfl
theorem Dp (xs:List GTie)(a0 a1 a2 a3:Int)(a4:Bool):[.lit (.int .i64 a0),.lit (.int .i64 a1),.lit (.int .i64 a2),.lit (.int .i64 a3),.lit (.bool a4)]::ab GTie.enc xs=ab GTie.enc ((GTie.mk a0 a1 a2 a3 a4)::xs):=rfl
theorem FV (xs:List GTie):frsR (ab GTie.enc xs)=true:=bI (e:=GTie.enc) (fun x=>by simp only [go_sem,GTie.enc]) xs
theorem Dq (xs:List GTie):bA (ab GTie.enc xs)=ab GTie.enc xs:=bl (e:=GTie.enc) (fun x=>by simp only [go_sem,dK,toSl,GTie.enc]) xs
theorem FW (n:Nat):List.replicate n [.lit (.int .i64 0),.lit (.int .i64 0),.lit (.int .i64 0),.lit (.int .i64 0),.lit (.bool false)]=ab GTie.enc (List.replicate n (GTie.mk 0 0 0 0 false)):=aO (e:=GTie.enc) n (GTie.mk 0 0 0 0 false)
attribute [go_sem] GTie.enc Do FS FT FU Dp FV Dq FW
structure GShow where
 nodes:List GNode
 ties:List GTie
 horizon:Int
 deriving DecidableEq
def GShow.encS (x:GShow):List AV:=[.sl (ab GNode.encS x.nodes),.sl (ab GTie.enc x.ties),.lit (.int .i64 x.horizon)]
theorem AK (xs:List GShow)(a0:List GNode)(a1:List GTie)(a2:Int):ab GShow.encS xs++[[.sl (ab GNode.encS a0),.sl (ab GTie.enc a1),.lit (.int .i64 a2)]]=ab GShow.encS (xs++[(GShow.mk a0 a1 a2)]):=ar (e:=GShow.encS) xs (GShow.mk a0 a1 a2)
theorem BY (xs:List GShow)(i:Nat)(a0:List GNode)(a1:List GTie)(a2:Int):(ab GShow.encS xs).set i [.sl (ab GNode.encS a0),.sl (ab GTie.enc a1),.lit (.int .i64 a2)]=ab GShow.encS (xs.set i (GShow.mk a0 a1 a2)):=aP (e:=GShow.encS) xs i (GShow.mk a0 a1 a2)
theorem BZ (xs:List GShow):(ab GShow.encS xs).all (fun r=>r.length == 3)=true:=aS (e:=GShow.encS) (fun _=>rfl) xs
theorem Ca (a0:List GNode)(a1:List GTie)(a2:Int):[[.sl (ab GNode.encS a0),.sl (ab GTie.enc a1),.lit (.int .i64 a2)]]=ab GShow.encS [(GShow.mk a0 a1 a2)]:=rfl
theorem AL (xs:List GShow)(a0:List GNode)(a1:List GTie)(a2:Int):[.sl (ab GNode.encS a0),.sl (ab GTie.enc a1),.lit (.int .i64 a2)]::ab GShow.encS xs=ab GShow.encS ((GShow.mk a0 a1 a2)::xs):=rfl
theorem wF (xs:List GShow)(a1:List GTie)(a2:Int):ab GShow.encS xs++[[.sl [],.sl (ab GTie.enc a1),.lit (.int .i64 a2)]]=ab GShow.encS (xs++[(GShow.mk [] a1 a2)]):=ar (e:=GShow.encS) xs (GShow.mk [] a1 a2)
theorem yn (a1:List GTie)(a2:Int):[[.sl [],.sl (ab GTie.enc a1),.lit (.int .i64 a2)]]=ab GShow.encS [(GShow.mk [] a1 a2)]:=rfl
theorem wG (xs:List GShow)(a1:List GTie)(a2:Int):[.sl [],.sl (ab GTie.enc a1),.lit (.int .i64 a2)]::ab GShow.encS xs=ab GShow.encS ((GShow.mk [] a1 a2)::xs):=rfl
theorem wH (xs:List GShow)(a0:List GNode)(a2:Int):ab GShow.encS xs++[[.sl (ab GNode.encS a0),.sl [],.lit (.int .i64 a2)]]=ab GShow.encS (xs++[(GShow.mk a0 [] a2)]):=ar (e:=GShow.encS) xs (GShow.mk a0 [] a2)
theorem yo (a0:List GNode)(a2:Int):[[.sl (ab GNode.encS a0),.sl [],.lit (.int .i64 a2)]]=ab GShow.encS [(GShow.mk a0 [] a2)]:=rfl
theorem wI (xs:List GShow)(a0:List GNode)(a2:Int):[.sl (ab GNode.encS a0),.sl [],.lit (.int .i64 a2)]::ab GShow.encS xs=ab GShow.encS ((GShow.mk a0 [] a2)::xs):=rfl
theorem wJ (xs:List GShow)(a2:Int):ab GShow.encS xs++[[.sl [],.sl [],.lit (.int .i64 a2)]]=ab GShow.encS (xs++[(GShow.mk [] [] a2)]):=ar (e:=GShow.encS) xs (GShow.mk [] [] a2)
theorem yp (a2:Int):[[.sl [],.sl [],.lit (.int .i64 a2)]]=ab GShow.encS [(GShow.mk [] [] a2)]:=rfl
theorem wK (xs:List GShow)(a2:Int):[.sl [],.sl [],.lit (.int .i64 a2)]::ab GShow.encS xs=ab GShow.encS ((GShow.mk [] [] a2)::xs):=rfl
attribute [go_sem] GShow.encS AK BY BZ Ca AL wF yn wG wH yo wI wJ yp wK
def GShow.encO (x:GShow):List AV:=[.own (ab GNode.encO x.nodes),.own (ab GTie.enc x.ties),.lit (.int .i64 x.horizon)]
theorem AM (xs:List GShow)(a0:List GNode)(a1:List GTie)(a2:Int):ab GShow.encO xs++[[.own (ab GNode.encO a0),.own (ab GTie.enc a1),.lit (.int .i64 a2)]]=ab GShow.encO (xs++[(GShow.mk a0 a1 a2)]):=ar (e:=GShow.encO) xs (GShow.mk a0 a1 a2)
theorem Cc (xs:List GShow)(i:Nat)(a0:List GNode)(a1:List GTie)(a2:Int):(ab GShow.encO xs).set i [.own (ab GNode.encO a0),.own (ab GTie.enc a1),.lit (.int .i64 a2)]=ab GShow.encO (xs.set i (GShow.mk a0 a1 a2)):=aP (e:=GShow.encO) xs i (GShow.mk a0 a1 a2)
theorem Cd (xs:List GShow):(ab GShow.encO xs).all (fun r=>r.length == 3)=true:=aS (e:=GShow.encO) (fun _=>rfl) xs
theorem Ce (a0:List GNode)(a1:List GTie)(a2:Int):[[.own (ab GNode.encO a0),.own (ab GTie.enc a1),.lit (.int .i64 a2)]]=ab GShow.encO [(GShow.mk a0 a1 a2)]:=rfl
theorem AN (xs:List GShow)(a0:List GNode)(a1:List GTie)(a2:Int):[.own (ab GNode.encO a0),.own (ab GTie.enc a1),.lit (.int .i64 a2)]::ab GShow.encO xs=ab GShow.encO ((GShow.mk a0 a1 a2)::xs):=rfl
theorem Cf (xs:List GShow):frsR (ab GShow.encO xs)=true:=bI (e:=GShow.encO) (fun x=>by simp only [go_sem,GShow.encO]) xs
theorem AO (xs:List GShow):bA (ab GShow.encO xs)=ab GShow.encS xs:=bl (e:=GShow.encO) (fun x=>by simp only [go_sem,dK,toSl,GShow.encO,GShow.encS]) xs
theorem Cg (n:Nat):List.replicate n [.own [],.own [],.lit (.int .i64 0)]=ab GShow.encO (List.replicate n (GShow.mk ([]) ([]) 0)):=aO (e:=GShow.encO) n (GShow.mk ([]) ([]) 0)
theorem wL (xs:List GShow)(a1:List GTie)(a2:Int):ab GShow.encO xs++[[.own [],.own (ab GTie.enc a1),.lit (.int .i64 a2)]]=ab GShow.encO (xs++[(GShow.mk [] a1 a2)]):=ar (e:=GShow.encO) xs (GShow.mk [] a1 a2)
theorem yq (a1:List GTie)(a2:Int):[[.own [],.own (ab GTie.enc a1),.lit (.int .i64 a2)]]=ab GShow.encO [(GShow.mk [] a1 a2)]:=rfl
theorem wM (xs:List GShow)(a1:List GTie)(a2:Int):[.own [],.own (ab GTie.enc a1),.lit (.int .i64 a2)]::ab GShow.encO xs=ab GShow.encO ((GShow.mk [] a1 a2)::xs):=rfl
theorem wN (xs:List GShow)(a0:List GNode)(a2:Int):ab GShow.encO xs++[[.own (ab GNode.encO a0),.own [],.lit (.int .i64 a2)]]=ab GShow.encO (xs++[(GShow.mk a0 [] a2)]):=ar (e:=GShow.encO) xs (GShow.mk a0 [] a2)
theorem yr (a0:List GNode)(a2:Int):[[.own (ab GNode.encO a0),.own [],.lit (.int .i64 a2)]]=ab GShow.encO [(GShow.mk a0 [] a2)]:=rfl
theorem wO (xs:List GShow)(a0:List GNode)(a2:Int):[.own (ab GNode.encO a0),.own [],.lit (.int .i64 a2)]::ab GShow.encO xs=ab GShow.encO ((GShow.mk a0 [] a2)::xs):=rfl
theorem wP (xs:List GShow)(a2:Int):ab GShow.encO xs++[[.own [],.own [],.lit (.int .i64 a2)]]=ab GShow.encO (xs++[(GShow.mk [] [] a2)]):=ar (e:=GShow.encO) xs (GShow.mk [] [] a2)
theorem yu (a2:Int):[[.own [],.own [],.lit (.int .i64 a2)]]=ab GShow.encO [(GShow.mk [] [] a2)]:=rfl
theorem wQ (xs:List GShow)(a2:Int):[.own [],.own [],.lit (.int .i64 a2)]::ab GShow.encO xs=ab GShow.encO ((GShow.mk [] [] a2)::xs):=rfl
attribute [go_sem] GShow.encO AM Cc Cd Ce AN Cf AO Cg wL yq wM wN yr wO wP yu wQ
structure GChoice where
 lengths:List Int
 values:List Int
 deriving DecidableEq
def GChoice.encS (x:GChoice):List AV:=[.sl (ab eI x.lengths),.sl (ab eI x.values)]
theorem wR (xs:List GChoice)(a0 a1:List Int):ab GChoice.encS xs++[[.sl (ab eI a0),.sl (ab eI a1)]]=ab GChoice.encS (xs++[(GChoice.mk a0 a1)]):=ar (e:=GChoice.encS) xs (GChoice.mk a0 a1)
theorem yw (xs:List GChoice)(i:Nat)(a0 a1:List Int):(ab GChoice.encS xs).set i [.sl (ab eI a0),.sl (ab eI a1)]=ab GChoice.encS (xs.set i (GChoice.mk a0 a1)):=aP (e:=GChoice.encS) xs i (GChoice.mk a0 a1)
theorem yx (xs:List GChoice):(ab GChoice.encS xs).all (fun r=>r.length == 2)=true:=aS (e:=GChoice.encS) (fun _=>rfl) xs
theorem yy (a0 a1:List Int):[[.sl (ab eI a0),.sl (ab eI a1)]]=ab GChoice.encS [(GChoice.mk a0 a1)]:=rfl
theorem wS (xs:List GChoice)(a0 a1:List Int):[.sl (ab eI a0),.sl (ab eI a1)]::ab GChoice.encS xs=ab GChoice.encS ((GChoice.mk a0 a1)::xs):=rfl
theorem tT (xs:List GChoice)(a1:List Int):ab GChoice.encS xs++[[.sl [],.sl (ab eI a1)]]=ab GChoice.encS (xs++[(GChoice.mk [] a1)]):=ar (e:=GChoice.encS) xs (GChoice.mk [] a1)
theorem vg (a1:List Int):[[.sl [],.sl (ab eI a1)]]=ab GChoice.encS [(GChoice.mk [] a1)]:=rfl
theorem tU (xs:List GChoice)(a1:List Int):[.sl [],.sl (ab eI a1)]::ab GChoice.encS xs=ab GChoice.encS ((GChoice.mk [] a1)::xs):=rfl
theorem tV (xs:List GChoice)(a0:List Int):ab GChoice.encS xs++[[.sl (ab eI a0),.sl []]]=ab GChoice.encS (xs++[(GChoice.mk a0 [])]):=ar (e:=GChoice.encS) xs (GChoice.mk a0 [])
theorem vh (a0:List Int):[[.sl (ab eI a0),.sl []]]=ab GChoice.encS [(GChoice.mk a0 [])]:=rfl
theorem tW (xs:List GChoice)(a0:List Int):[.sl (ab eI a0),.sl []]::ab GChoice.encS xs=ab GChoice.encS ((GChoice.mk a0 [])::xs):=rfl
theorem tX (xs:List GChoice)  : ab GChoice.encS xs++[[.sl [],.sl []]]=ab GChoice.encS (xs++[(GChoice.mk [] [])]):=ar (e:=GChoice.encS) xs (GChoice.mk [] [])
theorem vi  : [[.sl [],.sl []]]=ab GChoice.encS [(GChoice.mk [] [])]:=rfl
theorem tY (xs:List GChoice)  : [.sl [],.sl []]::ab GChoice.encS xs=ab GChoice.encS ((GChoice.mk [] [])::xs):=rfl
attribute [go_sem] GChoice.encS wR yw yx yy wS tT vg tU tV vh tW tX vi tY
def GChoice.encO (x:GChoice):List AV:=[.own (ab eI x.lengths),.own (ab eI x.values)]
theorem wT (xs:List GChoice)(a0 a1:List Int):ab GChoice.encO xs++[[.own (ab eI a0),.own (ab eI a1)]]=ab GChoice.encO (xs++[(GChoice.mk a0 a1)]):=ar (e:=GChoice.encO) xs (GChoice.mk a0 a1)
theorem yz (xs:List GChoice)(i:Nat)(a0 a1:List Int):(ab GChoice.encO xs).set i [.own (ab eI a0),.own (ab eI a1)]=ab GChoice.encO (xs.set i (GChoice.mk a0 a1)):=aP (e:=GChoice.encO) xs i (GChoice.mk a0 a1)
theorem yA (xs:List GChoice):(ab GChoice.encO xs).all (fun r=>r.length == 2)=true:=aS (e:=GChoice.encO) (fun _=>rfl) xs
theorem yB (a0 a1:List Int):[[.own (ab eI a0),.own (ab eI a1)]]=ab GChoice.encO [(GChoice.mk a0 a1)]:=rfl
theorem wU (xs:List GChoice)(a0 a1:List Int):[.own (ab eI a0),.own (ab eI a1)]::ab GChoice.encO xs=ab GChoice.encO ((GChoice.mk a0 a1)::xs):=rfl
theorem yC (xs:List GChoice):frsR (ab GChoice.encO xs)=true:=bI (e:=GChoice.encO) (fun x=>by simp only [go_sem,GChoice.encO]) xs
theorem wV (xs:List GChoice):bA (ab GChoice.encO xs)=ab GChoice.encS xs:=bl (e:=GChoice.encO) (fun x=>by simp only [go_sem,dK,toSl,GChoice.encO,GChoice.encS]) xs
theorem yD (n:Nat):List.replicate n [.own [],.own []]=ab GChoice.encO (List.replicate n (GChoice.mk ([]) ([]))):=aO (e:=GChoice.encO) n (GChoice.mk ([]) ([]))
theorem tZ (xs:List GChoice)(a1:List Int):ab GChoice.encO xs++[[.own [],.own (ab eI a1)]]=ab GChoice.encO (xs++[(GChoice.mk [] a1)]):=ar (e:=GChoice.encO) xs (GChoice.mk [] a1)
theorem vj (a1:List Int):[[.own [],.own (ab eI a1)]]=ab GChoice.encO [(GChoice.mk [] a1)]:=rfl
theorem ua (xs:List GChoice)(a1:List Int):[.own [],.own (ab eI a1)]::ab GChoice.encO xs=ab GChoice.encO ((GChoice.mk [] a1)::xs):=rfl
theorem ub (xs:List GChoice)(a0:List Int):ab GChoice.encO xs++[[.own (ab eI a0),.own []]]=ab GChoice.encO (xs++[(GChoice.mk a0 [])]):=ar (e:=GChoice.encO) xs (GChoice.mk a0 [])
theorem vk (a0:List Int):[[.own (ab eI a0),.own []]]=ab GChoice.encO [(GChoice.mk a0 [])]:=rfl
theorem uc (xs:List GChoice)(a0:List Int):[.own (ab eI a0),.own []]::ab GChoice.encO xs=ab GChoice.encO ((GChoice.mk a0 [])::xs):=rfl
theorem ud (xs:List GChoice)  : ab GChoice.encO xs++[[.own [],.own []]]=ab GChoice.encO (xs++[(GChoice.mk [] [])]):=ar (e:=GChoice.encO) xs (GChoice.mk [] [])
theorem vl  : [[.own [],.own []]]=ab GChoice.encO [(GChoice.mk [] [])]:=rfl
theorem ue (xs:List GChoice)  : [.own [],.own []]::ab GChoice.encO xs=ab GChoice.encO ((GChoice.mk [] [])::xs):=rfl
attribute [go_sem] GChoice.encO wT yz yA yB wU yC wV yD tZ vj ua ub vk uc ud vl ue
structure aA where
 low:Int
 high:Int
 deriving DecidableEq
def aA.enc (x:aA):List AV:=[.lit (.int .i64 x.low),.lit (.int .i64 x.high)]
theorem pA (xs:List aA)(a0 a1:Int):ab aA.enc xs++[[.lit (.int .i64 a0),.lit (.int .i64 a1)]]=ab aA.enc (xs++[(aA.mk a0 a1)]):=ar (e:=aA.enc) xs (aA.mk a0 a1)
theorem wW (xs:List aA)(i:Nat)(a0 a1:Int):(ab aA.enc xs).set i [.lit (.int .i64 a0),.lit (.int .i64 a1)]=ab aA.enc (xs.set i (aA.mk a0 a1)):=aP (e:=aA.enc) xs i (aA.mk a0 a1)
theorem wX (xs:List aA):(ab aA.enc xs).all (fun r=>r.length == 2)=true:=aS (e:=aA.enc) (fun _=>rfl) xs
theorem wY (a0 a1:Int):[[.lit (.int .i64 a0),.lit (.int .i64 a1)]]=ab aA.enc [(aA.mk a0 a1)]:=rfl
theorem vm (xs:List aA)(a0 a1:Int):[.lit (.int .i64 a0),.lit (.int .i64 a1)]::ab aA.enc xs=ab aA.enc ((aA.mk a0 a1)::xs):=rfl
theorem wZ (xs:List aA):frsR (ab aA.enc xs)=true:=bI (e:=aA.enc) (fun x=>by simp only [go_sem,aA.enc]) xs
theorem vn (xs:List aA):bA (ab aA.enc xs)=ab aA.enc xs:=bl (e:=aA.enc) (fun x=>by simp only [go_sem,dK,toSl,aA.enc]) xs
theorem xa (n:Nat):List.replicate n [.lit (.int .i64 0),.lit (.int .i64 0)]=ab aA.enc (List.replicate n (aA.mk 0 0)):=aO (e:=aA.enc) n (aA.mk 0 0)
attribute [go_sem] aA.enc pA wW wX wY vm wZ vn xa
structure aI where
 from_:Int
 to:Int
 span:aA
 deriving DecidableEq
def aI.enc (x:aI):List AV:=[.lit (.int .i64 x.from_),.lit (.int .i64 x.to),.lit (.int .i64 x.span.low),.lit (.int .i64 x.span.high)]
theorem Ch (xs:List aI)(a0 a1 a2 a3:Int):ab aI.enc xs++[[.lit (.int .i64 a0),.lit (.int .i64 a1),.lit (.int .i64 a2),.lit (.int .i64 a3)]]=ab aI.enc (xs++[(aI.mk a0 a1 (aA.mk a2 a3))]):=ar (e:=aI.enc) xs (aI.mk a0 a1 (aA.mk a2 a3))
theorem Dr (xs:List aI)(i:Nat)(a0 a1 a2 a3:Int):(ab aI.enc xs).set i [.lit (.int .i64 a0),.lit (.int .i64 a1),.lit (.int .i64 a2),.lit (.int .i64 a3)]=ab aI.enc (xs.set i (aI.mk a0 a1 (aA.mk a2 a3))):=aP (e:=aI.enc) xs i (aI.mk a0 a1 (aA.mk a2 a3))
theorem Ds (xs:List aI):(ab aI.enc xs).all (fun r=>r.length == 4)=true:=aS (e:=aI.enc) (fun _=>rfl) xs
theorem Dt (a0 a1 a2 a3:Int):[[.lit (.int .i64 a0),.lit (.int .i64 a1),.lit (.int .i64 a2),.lit (.int .i64 a3)]]=ab aI.enc [(aI.mk a0 a1 (aA.mk a2 a3))]:=rfl
theorem Ci (xs:List aI)(a0 a1 a2 a3:Int):[.lit (.int .i64 a0),.lit (.int .i64 a1),.lit (.int .i64 a2),.lit (.int .i64 a3)]::ab aI.enc xs=ab aI.enc ((aI.mk a0 a1 (aA.mk a2 a3))::xs):=rfl
theorem Du (xs:List aI):frsR (ab aI.enc xs)=true:=bI (e:=aI.enc) (fun x=>by simp only [go_sem,aI.enc]) xs
theorem Cj (xs:List aI):bA (ab aI.enc xs)=ab aI.enc xs:=bl (e:=aI.enc) (fun x=>by simp only [go_sem,dK,toSl,aI.enc]) xs
theorem Dv (n:Nat):List.replicate n [.lit (.int .i64 0),.lit (.int .i64 0),.lit (.int .i64 0),.lit (.int .i64 0)]=ab aI.enc (List.replicate n (aI.mk 0 0 (aA.mk 0 0))):=aO (e:=aI.enc) n (aI.mk 0 0 (aA.mk 0 0))
attribute [go_sem] aI.enc Ch Dr Ds Dt Ci Du Cj Dv
structure ay where
 events:Int
 links:List aI
 deriving DecidableEq
def ay.encS (x:ay):List AV:=[.lit (.int .i64 x.events),.sl (ab aI.enc x.links)]
theorem xb (xs:List ay)(a0:Int)(a1:List aI):ab ay.encS xs++[[.lit (.int .i64 a0),.sl (ab aI.enc a1)]]=ab ay.encS (xs++[(ay.mk a0 a1)]):=ar (e:=ay.encS) xs (ay.mk a0 a1)
theorem yE (xs:List ay)(i:Nat)(a0:Int)(a1:List aI):(ab ay.encS xs).set i [.lit (.int .i64 a0),.sl (ab aI.enc a1)]=ab ay.encS (xs.set i (ay.mk a0 a1)):=aP (e:=ay.encS) xs i (ay.mk a0 a1)
theorem yF (xs:List ay):(ab ay.encS xs).all (fun r=>r.length == 2)=true:=aS (e:=ay.encS) (fun _=>rfl) xs
theorem yG (a0:Int)(a1:List aI):[[.lit (.int .i64 a0),.sl (ab aI.enc a1)]]=ab ay.encS [(ay.mk a0 a1)]:=rfl
theorem xc (xs:List ay)(a0:Int)(a1:List aI):[.lit (.int .i64 a0),.sl (ab aI.enc a1)]::ab ay.encS xs=ab ay.encS ((ay.mk a0 a1)::xs):=rfl
theorem uf (xs:List ay)(a0:Int):ab ay.encS xs++[[.lit (.int .i64 a0),.sl []]]=ab ay.encS (xs++[(ay.mk a0 [])]):=ar (e:=ay.encS) xs (ay.mk a0 [])
theorem vp (a0:Int):[[.lit (.int .i64 a0),.sl []]]=ab ay.encS [(ay.mk a0 [])]:=rfl
theorem ug (xs:List ay)(a0:Int):[.lit (.int .i64 a0),.sl []]::ab ay.encS xs=ab ay.encS ((ay.mk a0 [])::xs):=rfl
attribute [go_sem] ay.encS xb yE yF yG xc uf vp ug
def ay.encO (x:ay):List AV:=[.lit (.int .i64 x.events),.own (ab aI.enc x.links)]
theorem xd (xs:List ay)(a0:Int)(a1:List aI):ab ay.encO xs++[[.lit (.int .i64 a0),.own (ab aI.enc a1)]]=ab ay.encO (xs++[(ay.mk a0 a1)]):=ar (e:=ay.encO) xs (ay.mk a0 a1)
theorem yH (xs:List ay)(i:Nat)(a0:Int)(a1:List aI):(ab ay.encO xs).set i [.lit (.int .i64 a0),.own (ab aI.enc a1)]=ab ay.encO (xs.set i (ay.mk a0 a1)):=aP (e:=ay.encO) xs i (ay.mk a0 a1)
theorem yI (xs:List ay):(ab ay.encO xs).all (fun r=>r.length == 2)=true:=aS (e:=ay.encO) (fun _=>rfl) xs
theorem yJ (a0:Int)(a1:List aI):[[.lit (.int .i64 a0),.own (ab aI.enc a1)]]=ab ay.encO [(ay.mk a0 a1)]:=rfl
theorem xe (xs:List ay)(a0:Int)(a1:List aI):[.lit (.int .i64 a0),.own (ab aI.enc a1)]::ab ay.encO xs=ab ay.encO ((ay.mk a0 a1)::xs):=rfl
theorem yK (xs:List ay):frsR (ab ay.encO xs)=true:=bI (e:=ay.encO) (fun x=>by simp only [go_sem,ay.encO]) xs
theorem xf (xs:List ay):bA (ab ay.encO xs)=ab ay.encS xs:=bl (e:=ay.encO) (fun x=>by simp only [go_sem,dK,toSl,ay.encO,ay.encS]) xs
theorem yL (n:Nat):List.replicate n [.lit (.int .i64 0),.own []]=ab ay.encO (List.replicate n (ay.mk 0 ([]))):=aO (e:=ay.encO) n (ay.mk 0 ([]))
theorem uh (xs:List ay)(a0:Int):ab ay.encO xs++[[.lit (.int .i64 a0),.own []]]=ab ay.encO (xs++[(ay.mk a0 [])]):=ar (e:=ay.encO) xs (ay.mk a0 [])
theorem vq (a0:Int):[[.lit (.int .i64 a0),.own []]]=ab ay.encO [(ay.mk a0 [])]:=rfl
theorem ui (xs:List ay)(a0:Int):[.lit (.int .i64 a0),.own []]::ab ay.encO xs=ab ay.encO ((ay.mk a0 [])::xs):=rfl
attribute [go_sem] ay.encO xd yH yI yJ xe yK xf yL uh vq ui
structure GState where
 now:Int
 times:List Int
 values:List Int
 deriving DecidableEq
def GState.encS (x:GState):List AV:=[.lit (.int .i64 x.now),.sl (ab eI x.times),.sl (ab eI x.values)]
theorem yM (xs:List GState)(a0:Int)(a1 a2:List Int):ab GState.encS xs++[[.lit (.int .i64 a0),.sl (ab eI a1),.sl (ab eI a2)]]=ab GState.encS (xs++[(GState.mk a0 a1 a2)]):=ar (e:=GState.encS) xs (GState.mk a0 a1 a2)
theorem AP (xs:List GState)(i:Nat)(a0:Int)(a1 a2:List Int):(ab GState.encS xs).set i [.lit (.int .i64 a0),.sl (ab eI a1),.sl (ab eI a2)]=ab GState.encS (xs.set i (GState.mk a0 a1 a2)):=aP (e:=GState.encS) xs i (GState.mk a0 a1 a2)
theorem AQ (xs:List GState):(ab GState.encS xs).all (fun r=>r.length == 3)=true:=aS (e:=GState.encS) (fun _=>rfl) xs
theorem AR (a0:Int)(a1 a2:List Int):[[.lit (.int .i64 a0),.sl (ab eI a1),.sl (ab eI a2)]]=ab GState.encS [(GState.mk a0 a1 a2)]:=rfl
theorem yN (xs:List GState)(a0:Int)(a1 a2:List Int):[.lit (.int .i64 a0),.sl (ab eI a1),.sl (ab eI a2)]::ab GState.encS xs=ab GState.encS ((GState.mk a0 a1 a2)::xs):=rfl
theorem vt (xs:List GState)(a0:Int)(a2:List Int):ab GState.encS xs++[[.lit (.int .i64 a0),.sl [],.sl (ab eI a2)]]=ab GState.encS (xs++[(GState.mk a0 [] a2)]):=ar (e:=GState.encS) xs (GState.mk a0 [] a2)
theorem xg (a0:Int)(a2:List Int):[[.lit (.int .i64 a0),.sl [],.sl (ab eI a2)]]=ab GState.encS [(GState.mk a0 [] a2)]:=rfl
theorem vu (xs:List GState)(a0:Int)(a2:List Int):[.lit (.int .i64 a0),.sl [],.sl (ab eI a2)]::ab GState.encS xs=ab GState.encS ((GState.mk a0 [] a2)::xs):=rfl
theorem vw (xs:List GState)(a0:Int)(a1:List Int):ab GState.encS xs++[[.lit (.int .i64 a0),.sl (ab eI a1),.sl []]]=ab GState.encS (xs++[(GState.mk a0 a1 [])]):=ar (e:=GState.encS) xs (GState.mk a0 a1 [])
theorem xh (a0:Int)(a1:List Int):[[.lit (.int .i64 a0),.sl (ab eI a1),.sl []]]=ab GState.encS [(GState.mk a0 a1 [])]:=rfl
theorem vx (xs:List GState)(a0:Int)(a1:List Int):[.lit (.int .i64 a0),.sl (ab eI a1),.sl []]::ab GState.encS xs=ab GState.encS ((GState.mk a0 a1 [])::xs):=rfl
theorem vy (xs:List GState)(a0:Int):ab GState.encS xs++[[.lit (.int .i64 a0),.sl [],.sl []]]=ab GState.encS (xs++[(GState.mk a0 [] [])]):=ar (e:=GState.encS) xs (GState.mk a0 [] [])
theorem xi (a0:Int):[[.lit (.int .i64 a0),.sl [],.sl []]]=ab GState.encS [(GState.mk a0 [] [])]:=rfl
theorem vz (xs:List GState)(a0:Int):[.lit (.int .i64 a0),.sl [],.sl []]::ab GState.encS xs=ab GState.encS ((GState.mk a0 [] [])::xs):=rfl
attribute [go_sem] GState.encS yM AP AQ AR yN vt xg vu vw xh vx vy xi vz
def GState.encO (x:GState):List AV:=[.lit (.int .i64 x.now),.own (ab eI x.times),.own (ab eI x.values)]
theorem yO (xs:List GState)(a0:Int)(a1 a2:List Int):ab GState.encO xs++[[.lit (.int .i64 a0),.own (ab eI a1),.own (ab eI a2)]]=ab GState.encO (xs++[(GState.mk a0 a1 a2)]):=ar (e:=GState.encO) xs (GState.mk a0 a1 a2)
theorem AS (xs:List GState)(i:Nat)(a0:Int)(a1 a2:List Int):(ab GState.encO xs).set i [.lit (.int .i64 a0),.own (ab eI a1),.own (ab eI a2)]=ab GState.encO (xs.set i (GState.mk a0 a1 a2)):=aP (e:=GState.encO) xs i (GState.mk a0 a1 a2)
theorem AU (xs:List GState):(ab GState.encO xs).all (fun r=>r.length == 3)=true:=aS (e:=GState.encO) (fun _=>rfl) xs
theorem AW (a0:Int)(a1 a2:List Int):[[.lit (.int .i64 a0),.own (ab eI a1),.own (ab eI a2)]]=ab GState.encO [(GState.mk a0 a1 a2)]:=rfl
theorem yP (xs:List GState)(a0:Int)(a1 a2:List Int):[.lit (.int .i64 a0),.own (ab eI a1),.own (ab eI a2)]::ab GState.encO xs=ab GState.encO ((GState.mk a0 a1 a2)::xs):=rfl
theorem AX (xs:List GState):frsR (ab GState.encO xs)=true:=bI (e:=GState.encO) (fun x=>by simp only [go_sem,GState.encO]) xs
theorem yQ (xs:List GState):bA (ab GState.encO xs)=ab GState.encS xs:=bl (e:=GState.encO) (fun x=>by simp only [go_sem,dK,toSl,GState.encO,GState.encS]) xs
theorem AY (n:Nat):List.replicate n [.lit (.int .i64 0),.own [],.own []]=ab GState.encO (List.replicate n (GState.mk 0 ([]) ([]))):=aO (e:=GState.encO) n (GState.mk 0 ([]) ([]))
theorem vA (xs:List GState)(a0:Int)(a2:List Int):ab GState.encO xs++[[.lit (.int .i64 a0),.own [],.own (ab eI a2)]]=ab GState.encO (xs++[(GState.mk a0 [] a2)]):=ar (e:=GState.encO) xs (GState.mk a0 [] a2)
theorem xj (a0:Int)(a2:List Int):[[.lit (.int .i64 a0),.own [],.own (ab eI a2)]]=ab GState.encO [(GState.mk a0 [] a2)]:=rfl
theorem vB (xs:List GState)(a0:Int)(a2:List Int):[.lit (.int .i64 a0),.own [],.own (ab eI a2)]::ab GState.encO xs=ab GState.encO ((GState.mk a0 [] a2)::xs):=rfl
theorem vC (xs:List GState)(a0:Int)(a1:List Int):ab GState.encO xs++[[.lit (.int .i64 a0),.own (ab eI a1),.own []]]=ab GState.encO (xs++[(GState.mk a0 a1 [])]):=ar (e:=GState.encO) xs (GState.mk a0 a1 [])
theorem xk (a0:Int)(a1:List Int):[[.lit (.int .i64 a0),.own (ab eI a1),.own []]]=ab GState.encO [(GState.mk a0 a1 [])]:=rfl
theorem vD (xs:List GState)(a0:Int)(a1:List Int):[.lit (.int .i64 a0),.own (ab eI a1),.own []]::ab GState.encO xs=ab GState.encO ((GState.mk a0 a1 [])::xs):=rfl
theorem vE (xs:List GState)(a0:Int):ab GState.encO xs++[[.lit (.int .i64 a0),.own [],.own []]]=ab GState.encO (xs++[(GState.mk a0 [] [])]):=ar (e:=GState.encO) xs (GState.mk a0 [] [])
theorem xl (a0:Int):[[.lit (.int .i64 a0),.own [],.own []]]=ab GState.encO [(GState.mk a0 [] [])]:=rfl
theorem vF (xs:List GState)(a0:Int):[.lit (.int .i64 a0),.own [],.own []]::ab GState.encO xs=ab GState.encO ((GState.mk a0 [] [])::xs):=rfl
attribute [go_sem] GState.encO yO AS AU AW yP AX yQ AY vA xj vB vC xk vD vE xl vF
structure am where
 now:Int
 ties:List Int
 nodes:List Int
 values:List Int
 deriving DecidableEq
def am.encS (x:am):List AV:=[.lit (.int .i64 x.now),.sl (ab eI x.ties),.sl (ab eI x.nodes),.sl (ab eI x.values)]
theorem yR (xs:List am)(a0:Int)(a1 a2 a3:List Int):ab am.encS xs++[[.lit (.int .i64 a0),.sl (ab eI a1),.sl (ab eI a2),.sl (ab eI a3)]]=ab am.encS (xs++[(am.mk a0 a1 a2 a3)]):=ar (e:=am.encS) xs (am.mk a0 a1 a2 a3)
theorem AZ (xs:List am)(i:Nat)(a0:Int)(a1 a2 a3:List Int):(ab am.encS xs).set i [.lit (.int .i64 a0),.sl (ab eI a1),.sl (ab eI a2),.sl (ab eI a3)]=ab am.encS (xs.set i (am.mk a0 a1 a2 a3)):=aP (e:=am.encS) xs i (am.mk a0 a1 a2 a3)
theorem Ba (xs:List am):(ab am.encS xs).all (fun r=>r.length == 4)=true:=aS (e:=am.encS) (fun _=>rfl) xs
theorem Bb (a0:Int)(a1 a2 a3:List Int):[[.lit (.int .i64 a0),.sl (ab eI a1),.sl (ab eI a2),.sl (ab eI a3)]]=ab am.encS [(am.mk a0 a1 a2 a3)]:=rfl
theorem yS (xs:List am)(a0:Int)(a1 a2 a3:List Int):[.lit (.int .i64 a0),.sl (ab eI a1),.sl (ab eI a2),.sl (ab eI a3)]::ab am.encS xs=ab am.encS ((am.mk a0 a1 a2 a3)::xs):=rfl
attribute [go_sem] am.encS yR AZ Ba Bb yS
def am.encO (x:am):List AV:=[.lit (.int .i64 x.now),.own (ab eI x.ties),.own (ab eI x.nodes),.own (ab eI x.values)]
theorem yT (xs:List am)(a0:Int)(a1 a2 a3:List Int):ab am.encO xs++[[.lit (.int .i64 a0),.own (ab eI a1),.own (ab eI a2),.own (ab eI a3)]]=ab am.encO (xs++[(am.mk a0 a1 a2 a3)]):=ar (e:=am.encO) xs (am.mk a0 a1 a2 a3)
theorem Bc (xs:List am)(i:Nat)(a0:Int)(a1 a2 a3:List Int):(ab am.encO xs).set i [.lit (.int .i64 a0),.own (ab eI a1),.own (ab eI a2),.own (ab eI a3)]=ab am.encO (xs.set i (am.mk a0 a1 a2 a3)):=aP (e:=am.encO) xs i (am.mk a0 a1 a2 a3)
theorem Bd (xs:List am):(ab am.encO xs).all (fun r=>r.length == 4)=true:=aS (e:=am.encO) (fun _=>rfl) xs
theorem Be (a0:Int)(a1 a2 a3:List Int):[[.lit (.int .i64 a0),.own (ab eI a1),.own (ab eI a2),.own (ab eI a3)]]=ab am.encO [(am.mk a0 a1 a2 a3)]:=rfl
theorem yU (xs:List am)(a0:Int)(a1 a2 a3:List Int):[.lit (.int .i64 a0),.own (ab eI a1),.own (ab eI a2),.own (ab eI a3)]::ab am.encO xs=ab am.encO ((am.mk a0 a1 a2 a3)::xs):=rfl
theorem Bf (xs:List am):frsR (ab am.encO xs)=true:=bI (e:=am.encO) (fun x=>by simp only [go_sem,am.encO]) xs
theorem yV (xs:List am):bA (ab am.encO xs)=ab am.encS xs:=bl (e:=am.encO) (fun x=>by simp only [go_sem,dK,toSl,am.encO,am.encS]) xs
theorem Bg (n:Nat):List.replicate n [.lit (.int .i64 0),.own [],.own [],.own []]=ab am.encO (List.replicate n (am.mk 0 ([]) ([]) ([]))):=aO (e:=am.encO) n (am.mk 0 ([]) ([]) ([]))
attribute [go_sem] am.encO yT Bc Bd Be yU Bf yV Bg
structure GDesk where
 show_:GShow
 state:GState
 lazy:Bool
 log:List am
 deriving DecidableEq
def GDesk.encS (x:GDesk):List AV:=[.sl (ab GNode.encS x.show_.nodes),.sl (ab GTie.enc x.show_.ties),.lit (.int .i64 x.show_.horizon),.lit (.int .i64 x.state.now),.sl (ab eI x.state.times),.sl (ab eI x.state.values),.lit (.bool x.lazy),.sl (ab am.encS x.log)]
theorem Bh (xs:List GDesk)(a0:List GNode)(a1:List GTie)(a2 a3:Int)(a4 a5:List Int)(a6:Bool)(a7:List am):ab GDesk.encS xs++[[.sl (ab GNode.encS a0),.sl (ab GTie.enc a1),.lit (.int .i64 a2),.lit (.int .i64 a3),.sl (ab eI a4),.sl (ab eI a5),.lit (.bool a6),.sl (ab am.encS a7)]]=ab GDesk.encS (xs++[(GDesk.mk (GShow.mk a0 a1 a2) (GState.mk a3 a4 a5) a6 a7)]):=ar (e:=GDesk.encS) xs (GDesk.mk (GShow.mk a0 a1 a2) (GState.mk a3 a4 a5) a6 a7)
theorem Ck (xs:List GDesk)(i:Nat)(a0:List GNode)(a1:List GTie)(a2 a3:Int)(a4 a5:List Int)(a6:Bool)(a7:List am):(ab GDesk.encS xs).set i [.sl (ab GNode.encS a0),.sl (ab GTie.enc a1),.lit (.int .i64 a2),.lit (.int .i64 a3),.sl (ab eI a4),.sl (ab eI a5),.lit (.bool a6),.sl (ab am.encS a7)]=ab GDesk.encS (xs.set i (GDesk.mk (GShow.mk a0 a1 a2) (GState.mk a3 a4 a5) a6 a7)):=aP (e:=GDesk.encS) xs i (GDesk.mk (GShow.mk a0 a1 a2) (GState.mk a3 a4 a5) a6 a7)
theorem Cl (xs:List GDesk):(ab GDesk.encS xs).all (fun r=>r.length == 8)=true:=aS (e:=GDesk.encS) (fun _=>rfl) xs
theorem Cm (a0:List GNode)(a1:List GTie)(a2 a3:Int)(a4 a5:List Int)(a6:Bool)(a7:List am):[[.sl (ab GNode.encS a0),.sl (ab GTie.enc a1),.lit (.int .i64 a2),.lit (.int .i64 a3),.sl (ab eI a4),.sl (ab eI a5),.lit (.bool a6),.sl (ab am.encS a7)]]=ab GDesk.encS [(GDesk.mk (GShow.mk a0 a1 a2) (GState.mk a3 a4 a5) a6 a7)]:=rfl
theorem Bi (xs:List GDesk)(a0:List GNode)(a1:List GTie)(a2 a3:Int)(a4 a5:List Int)(a6:Bool)(a7:List am):[.sl (ab GNode.encS a0),.sl (ab GTie.enc a1),.lit (.int .i64 a2),.lit (.int .i64 a3),.sl (ab eI a4),.sl (ab eI a5),.lit (.bool a6),.sl (ab am.encS a7)]::ab GDesk.encS xs=ab GDesk.encS ((GDesk.mk (GShow.mk a0 a1 a2) (GState.mk a3 a4 a5) a6 a7)::xs):=rfl
attribute [go_sem] GDesk.encS Bh Ck Cl Cm Bi
def GDesk.encO (x:GDesk):List AV:=[.own (ab GNode.encO x.show_.nodes),.own (ab GTie.enc x.show_.ties),.lit (.int .i64 x.show_.horizon),.lit (.int .i64 x.state.now),.own (ab eI x.state.times),.own (ab eI x.state.values),.lit (.bool x.lazy),.own (ab am.encO x.log)]
theorem Bj (xs:List GDesk)(a0:List GNode)(a1:List GTie)(a2 a3:Int)(a4 a5:List Int)(a6:Bool)(a7:List am):ab GDesk.encO xs++[[.own (ab GNode.encO a0),.own (ab GTie.enc a1),.lit (.int .i64 a2),.lit (.int .i64 a3),.own (ab eI a4),.own (ab eI a5),.lit (.bool a6),.own (ab am.encO a7)]]=ab GDesk.encO (xs++[(GDesk.mk (GShow.mk a0 a1 a2) (GState.mk a3 a4 a5) a6 a7)]):=ar (e:=GDesk.encO) xs (GDesk.mk (GShow.mk a0 a1 a2) (GState.mk a3 a4 a5) a6 a7)
theorem Cn (xs:List GDesk)(i:Nat)(a0:List GNode)(a1:List GTie)(a2 a3:Int)(a4 a5:List Int)(a6:Bool)(a7:List am):(ab GDesk.encO xs).set i [.own (ab GNode.encO a0),.own (ab GTie.enc a1),.lit (.int .i64 a2),.lit (.int .i64 a3),.own (ab eI a4),.own (ab eI a5),.lit (.bool a6),.own (ab am.encO a7)]=ab GDesk.encO (xs.set i (GDesk.mk (GShow.mk a0 a1 a2) (GState.mk a3 a4 a5) a6 a7)):=aP (e:=GDesk.encO) xs i (GDesk.mk (GShow.mk a0 a1 a2) (GState.mk a3 a4 a5) a6 a7)
theorem Co (xs:List GDesk):(ab GDesk.encO xs).all (fun r=>r.length == 8)=true:=aS (e:=GDesk.encO) (fun _=>rfl) xs
theorem Cp (a0:List GNode)(a1:List GTie)(a2 a3:Int)(a4 a5:List Int)(a6:Bool)(a7:List am):[[.own (ab GNode.encO a0),.own (ab GTie.enc a1),.lit (.int .i64 a2),.lit (.int .i64 a3),.own (ab eI a4),.own (ab eI a5),.lit (.bool a6),.own (ab am.encO a7)]]=ab GDesk.encO [(GDesk.mk (GShow.mk a0 a1 a2) (GState.mk a3 a4 a5) a6 a7)]:=rfl
theorem Bk (xs:List GDesk)(a0:List GNode)(a1:List GTie)(a2 a3:Int)(a4 a5:List Int)(a6:Bool)(a7:List am):[.own (ab GNode.encO a0),.own (ab GTie.enc a1),.lit (.int .i64 a2),.lit (.int .i64 a3),.own (ab eI a4),.own (ab eI a5),.lit (.bool a6),.own (ab am.encO a7)]::ab GDesk.encO xs=ab GDesk.encO ((GDesk.mk (GShow.mk a0 a1 a2) (GState.mk a3 a4 a5) a6 a7)::xs):=rfl
theorem Cq (xs:List GDesk):frsR (ab GDesk.encO xs)=true:=bI (e:=GDesk.encO) (fun x=>by simp only [go_sem,GDesk.encO]) xs
theorem Bl (xs:List GDesk):bA (ab GDesk.encO xs)=ab GDesk.encS xs:=bl (e:=GDesk.encO) (fun x=>by simp only [go_sem,dK,toSl,GDesk.encO,GDesk.encS]) xs
theorem Cr (n:Nat):List.replicate n [.own [],.own [],.lit (.int .i64 0),.lit (.int .i64 0),.own [],.own [],.lit (.bool false),.own []]=ab GDesk.encO (List.replicate n (GDesk.mk (GShow.mk ([]) ([]) 0) (GState.mk 0 ([]) ([])) false ([]))):=aO (e:=GDesk.encO) n (GDesk.mk (GShow.mk ([]) ([]) 0) (GState.mk 0 ([]) ([])) false ([]))
attribute [go_sem] GDesk.encO Bj Cn Co Cp Bk Cq Bl Cr
structure GL01Cur where
 b:List Int
 i:Int
 h:Int
 deriving DecidableEq
def GL01Cur.encS (x:GL01Cur):List AV:=[.sl (ab (eK .u8) x.b),.lit (.int .i64 x.i),.lit (.int .i64 x.h)]
theorem xm (xs:List GL01Cur)(a0:List Int)(a1 a2:Int):ab GL01Cur.encS xs++[[.sl (ab (eK .u8) a0),.lit (.int .i64 a1),.lit (.int .i64 a2)]]=ab GL01Cur.encS (xs++[(GL01Cur.mk a0 a1 a2)]):=ar (e:=GL01Cur.encS) xs (GL01Cur.mk a0 a1 a2)
theorem yW (xs:List GL01Cur)(i:Nat)(a0:List Int)(a1 a2:Int):(ab GL01Cur.encS xs).set i [.sl (ab (eK .u8) a0),.lit (.int .i64 a1),.lit (.int .i64 a2)]=ab GL01Cur.encS (xs.set i (GL01Cur.mk a0 a1 a2)):=aP (e:=GL01Cur.encS) xs i (GL01Cur.mk a0 a1 a2)
theorem yX (xs:List GL01Cur):(ab GL01Cur.encS xs).all (fun r=>r.length == 3)=true:=aS (e:=GL01Cur.encS) (fun _=>rfl) xs
theorem yY (a0:List Int)(a1 a2:Int):[[.sl (ab (eK .u8) a0),.lit (.int .i64 a1),.lit (.int .i64 a2)]]=ab GL01Cur.encS [(GL01Cur.mk a0 a1 a2)]:=rfl
theorem xn (xs:List GL01Cur)(a0:List Int)(a1 a2:Int):[.sl (ab (eK .u8) a0),.lit (.int .i64 a1),.lit (.int .i64 a2)]::ab GL01Cur.encS xs=ab GL01Cur.encS ((GL01Cur.mk a0 a1 a2)::xs):=rfl
theorem uj (xs:List GL01Cur)(a1 a2:Int):ab GL01Cur.encS xs++[[.sl [],.lit (.int .i64 a1),.lit (.int .i64 a2)]]=ab GL01Cur.encS (xs++[(GL01Cur.mk [] a1 a2)]):=ar (e:=GL01Cur.encS) xs (GL01Cur.mk [] a1 a2)
theorem vG (a1 a2:Int):[[.sl [],.lit (.int .i64 a1),.lit (.int .i64 a2)]]=ab GL01Cur.encS [(GL01Cur.mk [] a1 a2)]:=rfl
theorem uk (xs:List GL01Cur)(a1 a2:Int):[.sl [],.lit (.int .i64 a1),.lit (.int .i64 a2)]::ab GL01Cur.encS xs=ab GL01Cur.encS ((GL01Cur.mk [] a1 a2)::xs):=rfl
attribute [go_sem] GL01Cur.encS xm yW yX yY xn uj vG uk
def GL01Cur.encO (x:GL01Cur):List AV:=[.own (ab (eK .u8) x.b),.lit (.int .i64 x.i),.lit (.int .i64 x.h)]
theorem xo (xs:List GL01Cur)(a0:List Int)(a1 a2:Int):ab GL01Cur.encO xs++[[.own (ab (eK .u8) a0),.lit (.int .i64 a1),.lit (.int .i64 a2)]]=ab GL01Cur.encO (xs++[(GL01Cur.mk a0 a1 a2)]):=ar (e:=GL01Cur.encO) xs (GL01Cur.mk a0 a1 a2)
theorem yZ (xs:List GL01Cur)(i:Nat)(a0:List Int)(a1 a2:Int):(ab GL01Cur.encO xs).set i [.own (ab (eK .u8) a0),.lit (.int .i64 a1),.lit (.int .i64 a2)]=ab GL01Cur.encO (xs.set i (GL01Cur.mk a0 a1 a2)):=aP (e:=GL01Cur.encO) xs i (GL01Cur.mk a0 a1 a2)
theorem za (xs:List GL01Cur):(ab GL01Cur.encO xs).all (fun r=>r.length == 3)=true:=aS (e:=GL01Cur.encO) (fun _=>rfl) xs
theorem zb (a0:List Int)(a1 a2:Int):[[.own (ab (eK .u8) a0),.lit (.int .i64 a1),.lit (.int .i64 a2)]]=ab GL01Cur.encO [(GL01Cur.mk a0 a1 a2)]:=rfl
theorem xp (xs:List GL01Cur)(a0:List Int)(a1 a2:Int):[.own (ab (eK .u8) a0),.lit (.int .i64 a1),.lit (.int .i64 a2)]::ab GL01Cur.encO xs=ab GL01Cur.encO ((GL01Cur.mk a0 a1 a2)::xs):=rfl
theorem zd (xs:List GL01Cur):frsR (ab GL01Cur.encO xs)=true:=bI (e:=GL01Cur.encO) (fun x=>by simp only [go_sem,GL01Cur.encO]) xs
theorem xq (xs:List GL01Cur):bA (ab GL01Cur.encO xs)=ab GL01Cur.encS xs:=bl (e:=GL01Cur.encO) (fun x=>by simp only [go_sem,dK,toSl,GL01Cur.encO,GL01Cur.encS]) xs
theorem ze (n:Nat):List.replicate n [.own [],.lit (.int .i64 0),.lit (.int .i64 0)]=ab GL01Cur.encO (List.replicate n (GL01Cur.mk ([]) 0 0)):=aO (e:=GL01Cur.encO) n (GL01Cur.mk ([]) 0 0)
theorem ul (xs:List GL01Cur)(a1 a2:Int):ab GL01Cur.encO xs++[[.own [],.lit (.int .i64 a1),.lit (.int .i64 a2)]]=ab GL01Cur.encO (xs++[(GL01Cur.mk [] a1 a2)]):=ar (e:=GL01Cur.encO) xs (GL01Cur.mk [] a1 a2)
theorem vH (a1 a2:Int):[[.own [],.lit (.int .i64 a1),.lit (.int .i64 a2)]]=ab GL01Cur.encO [(GL01Cur.mk [] a1 a2)]:=rfl
theorem um (xs:List GL01Cur)(a1 a2:Int):[.own [],.lit (.int .i64 a1),.lit (.int .i64 a2)]::ab GL01Cur.encO xs=ab GL01Cur.encO ((GL01Cur.mk [] a1 a2)::xs):=rfl
attribute [go_sem] GL01Cur.encO xo yZ za zb xp zd xq ze ul vH um
structure GTake where
 tie:Int
 length:Int
 deriving DecidableEq
def GTake.enc (x:GTake):List AV:=[.lit (.int .i64 x.tie),.lit (.int .i64 x.length)]
theorem sB (xs:List GTake)(a0 a1:Int):ab GTake.enc xs++[[.lit (.int .i64 a0),.lit (.int .i64 a1)]]=ab GTake.enc (xs++[(GTake.mk a0 a1)]):=ar (e:=GTake.enc) xs (GTake.mk a0 a1)
theorem Dw (xs:List GTake)(i:Nat)(a0 a1:Int):(ab GTake.enc xs).set i [.lit (.int .i64 a0),.lit (.int .i64 a1)]=ab GTake.enc (xs.set i (GTake.mk a0 a1)):=aP (e:=GTake.enc) xs i (GTake.mk a0 a1)
theorem Dx (xs:List GTake):(ab GTake.enc xs).all (fun r=>r.length == 2)=true:=aS (e:=GTake.enc) (fun _=>rfl) xs
theorem Dy (a0 a1:Int):[[.lit (.int .i64 a0),.lit (.int .i64 a1)]]=ab GTake.enc [(GTake.mk a0 a1)]:=rfl
theorem Cs (xs:List GTake)(a0 a1:Int):[.lit (.int .i64 a0),.lit (.int .i64 a1)]::ab GTake.enc xs=ab GTake.enc ((GTake.mk a0 a1)::xs):=rfl
theorem Dz (xs:List GTake):frsR (ab GTake.enc xs)=true:=bI (e:=GTake.enc) (fun x=>by simp only [go_sem,GTake.enc]) xs
theorem Ct (xs:List GTake):bA (ab GTake.enc xs)=ab GTake.enc xs:=bl (e:=GTake.enc) (fun x=>by simp only [go_sem,dK,toSl,GTake.enc]) xs
theorem DA (n:Nat):List.replicate n [.lit (.int .i64 0),.lit (.int .i64 0)]=ab GTake.enc (List.replicate n (GTake.mk 0 0)):=aO (e:=GTake.enc) n (GTake.mk 0 0)
attribute [go_sem] GTake.enc sB Dw Dx Dy Cs Dz Ct DA
structure GCue where
 name:ByteArray
 after:Int
 atEnd:Bool
 low:Int
 high:Int
 min_:Int
 max_:Int
 free:Bool
 if_:Int
 watch:Int
 device:Int
 deriving DecidableEq
def GCue.enc (x:GCue):List AV:=[.lit (.string x.name),.lit (.int .i64 x.after),.lit (.bool x.atEnd),.lit (.int .i64 x.low),.lit (.int .i64 x.high),.lit (.int .i64 x.min_),.lit (.int .i64 x.max_),.lit (.bool x.free),.lit (.int .i64 x.if_),.lit (.int .i64 x.watch),.lit (.int .i64 x.device)]
theorem DB (xs:List GCue)(a0:ByteArray)(a1:Int)(a2:Bool)(a3 a4 a5 a6:Int)(a7:Bool)(a8 a9 a10:Int):ab GCue.enc xs++[[.lit (.string a0),.lit (.int .i64 a1),.lit (.bool a2),.lit (.int .i64 a3),.lit (.int .i64 a4),.lit (.int .i64 a5),.lit (.int .i64 a6),.lit (.bool a7),.lit (.int .i64 a8),.lit (.int .i64 a9),.lit (.int .i64 a10)]]=ab GCue.enc (xs++[(GCue.mk a0 a1 a2 a3 a4 a5 a6 a7 a8 a9 a10)]):=ar (e:=GCue.enc) xs (GCue.mk a0 a1 a2 a3 a4 a5 a6 a7 a8 a9 a10)
theorem FX (xs:List GCue)(i:Nat)(a0:ByteArray)(a1:Int)(a2:Bool)(a3 a4 a5 a6:Int)(a7:Bool)(a8 a9 a10:Int):(ab GCue.enc xs).set i [.lit (.string a0),.lit (.int .i64 a1),.lit (.bool a2),.lit (.int .i64 a3),.lit (.int .i64 a4),.lit (.int .i64 a5),.lit (.int .i64 a6),.lit (.bool a7),.lit (.int .i64 a8),.lit (.int .i64 a9),.lit (.int .i64 a10)]=ab GCue.enc (xs.set i (GCue.mk a0 a1 a2 a3 a4 a5 a6 a7 a8 a9 a10)):=aP (e:=GCue.enc) xs i (GCue.mk a0 a1 a2 a3 a4 a5 a6 a7 a8 a9 a10)
theorem FY (xs:List GCue):(ab GCue.enc xs).all (fun r=>r.length == 11)=true:=aS (e:=GCue.enc) (fun _=>rfl) xs
theorem FZ (a0:ByteArray)(a1:Int)(a2:Bool)(a3 a4 a5 a6:Int)(a7:Bool)(a8 a9 a10:Int):[[.lit (.string a0),.lit (.int .i64 a1),.lit (.bool a2),.lit (.int .i64 a3),.lit (.int .i64 a4),.lit (.int .i64 a5),.lit (.int .i64 a6),.lit (.bool a7),.lit (.int .i64 a8),.lit (.int .i64 a9),.lit (.int .i64 a10)]]=ab GCue.enc [(GCue.mk a0 a1 a2 a3 a4 a5 a6 a7 a8 a9 a10)]:=rfl
theorem DC (xs:List GCue)(a0:ByteArray)(a1:Int)(a2:Bool)(a3 a4 a5 a6:Int)(a7:Bool)(a8 a9 a10:Int):[.lit (.string a0),.lit (.int .i64 a1),.lit (.bool a2),.lit (.int .i64 a3),.lit (.int .i64 a4),.lit (.int .i64 a5),.lit (.int .i64 a6),.lit (.bool a7),.lit (.int .i64 a8),.lit (.int .i64 a9),.lit (.int .i64 a10)]::ab GCue.enc xs=ab GCue.enc ((GCue.mk a0 a1 a2 a3 a4 a5 a6 a7 a8 a9 a10)::xs):=rfl
theorem Ga (xs:List GCue):frsR (ab GCue.enc xs)=true:=bI (e:=GCue.enc) (fun x=>by simp only [go_sem,GCue.enc]) xs
theorem DD (xs:List GCue):bA (ab GCue.enc xs)=ab GCue.enc xs:=bl (e:=GCue.enc) (fun x=>by simp only [go_sem,dK,toSl,GCue.enc]) xs
theorem Gb (n:Nat):List.replicate n [.lit (.string (ByteArray.mk #[])),.lit (.int .i64 0),.lit (.bool false),.lit (.int .i64 0),.lit (.int .i64 0),.lit (.int .i64 0),.lit (.int .i64 0),.lit (.bool false),.lit (.int .i64 0),.lit (.int .i64 0),.lit (.int .i64 0)]=ab GCue.enc (List.replicate n (GCue.mk (ByteArray.mk #[]) 0 false 0 0 0 0 false 0 0 0)):=aO (e:=GCue.enc) n (GCue.mk (ByteArray.mk #[]) 0 false 0 0 0 0 false 0 0 0)
attribute [go_sem] GCue.enc DB FX FY FZ DC Ga DD Gb
structure aq where
 cues:List GCue
 prep:List Int
 horizon:Int
 deriving DecidableEq
def aq.encS (x:aq):List AV:=[.sl (ab GCue.enc x.cues),.sl (ab eI x.prep),.lit (.int .i64 x.horizon)]
theorem zf (xs:List aq)(a0:List GCue)(a1:List Int)(a2:Int):ab aq.encS xs++[[.sl (ab GCue.enc a0),.sl (ab eI a1),.lit (.int .i64 a2)]]=ab aq.encS (xs++[(aq.mk a0 a1 a2)]):=ar (e:=aq.encS) xs (aq.mk a0 a1 a2)
theorem Bm (xs:List aq)(i:Nat)(a0:List GCue)(a1:List Int)(a2:Int):(ab aq.encS xs).set i [.sl (ab GCue.enc a0),.sl (ab eI a1),.lit (.int .i64 a2)]=ab aq.encS (xs.set i (aq.mk a0 a1 a2)):=aP (e:=aq.encS) xs i (aq.mk a0 a1 a2)
theorem Bn (xs:List aq):(ab aq.encS xs).all (fun r=>r.length == 3)=true:=aS (e:=aq.encS) (fun _=>rfl) xs
theorem Bo (a0:List GCue)(a1:List Int)(a2:Int):[[.sl (ab GCue.enc a0),.sl (ab eI a1),.lit (.int .i64 a2)]]=ab aq.encS [(aq.mk a0 a1 a2)]:=rfl
theorem zg (xs:List aq)(a0:List GCue)(a1:List Int)(a2:Int):[.sl (ab GCue.enc a0),.sl (ab eI a1),.lit (.int .i64 a2)]::ab aq.encS xs=ab aq.encS ((aq.mk a0 a1 a2)::xs):=rfl
theorem vI (xs:List aq)(a1:List Int)(a2:Int):ab aq.encS xs++[[.sl [],.sl (ab eI a1),.lit (.int .i64 a2)]]=ab aq.encS (xs++[(aq.mk [] a1 a2)]):=ar (e:=aq.encS) xs (aq.mk [] a1 a2)
theorem xr (a1:List Int)(a2:Int):[[.sl [],.sl (ab eI a1),.lit (.int .i64 a2)]]=ab aq.encS [(aq.mk [] a1 a2)]:=rfl
theorem vJ (xs:List aq)(a1:List Int)(a2:Int):[.sl [],.sl (ab eI a1),.lit (.int .i64 a2)]::ab aq.encS xs=ab aq.encS ((aq.mk [] a1 a2)::xs):=rfl
theorem vK (xs:List aq)(a0:List GCue)(a2:Int):ab aq.encS xs++[[.sl (ab GCue.enc a0),.sl [],.lit (.int .i64 a2)]]=ab aq.encS (xs++[(aq.mk a0 [] a2)]):=ar (e:=aq.encS) xs (aq.mk a0 [] a2)
theorem xt (a0:List GCue)(a2:Int):[[.sl (ab GCue.enc a0),.sl [],.lit (.int .i64 a2)]]=ab aq.encS [(aq.mk a0 [] a2)]:=rfl
theorem vL (xs:List aq)(a0:List GCue)(a2:Int):[.sl (ab GCue.enc a0),.sl [],.lit (.int .i64 a2)]::ab aq.encS xs=ab aq.encS ((aq.mk a0 [] a2)::xs):=rfl
theorem vM (xs:List aq)(a2:Int):ab aq.encS xs++[[.sl [],.sl [],.lit (.int .i64 a2)]]=ab aq.encS (xs++[(aq.mk [] [] a2)]):=ar (e:=aq.encS) xs (aq.mk [] [] a2)
theorem xu (a2:Int):[[.sl [],.sl [],.lit (.int .i64 a2)]]=ab aq.encS [(aq.mk [] [] a2)]:=rfl
theorem vN (xs:List aq)(a2:Int):[.sl [],.sl [],.lit (.int .i64 a2)]::ab aq.encS xs=ab aq.encS ((aq.mk [] [] a2)::xs):=rfl
attribute [go_sem] aq.encS zf Bm Bn Bo zg vI xr vJ vK xt vL vM xu vN
def aq.encO (x:aq):List AV:=[.own (ab GCue.enc x.cues),.own (ab eI x.prep),.lit (.int .i64 x.horizon)]
theorem zh (xs:List aq)(a0:List GCue)(a1:List Int)(a2:Int):ab aq.encO xs++[[.own (ab GCue.enc a0),.own (ab eI a1),.lit (.int .i64 a2)]]=ab aq.encO (xs++[(aq.mk a0 a1 a2)]):=ar (e:=aq.encO) xs (aq.mk a0 a1 a2)
theorem Bp (xs:List aq)(i:Nat)(a0:List GCue)(a1:List Int)(a2:Int):(ab aq.encO xs).set i [.own (ab GCue.enc a0),.own (ab eI a1),.lit (.int .i64 a2)]=ab aq.encO (xs.set i (aq.mk a0 a1 a2)):=aP (e:=aq.encO) xs i (aq.mk a0 a1 a2)
theorem Bq (xs:List aq):(ab aq.encO xs).all (fun r=>r.length == 3)=true:=aS (e:=aq.encO) (fun _=>rfl) xs
theorem Br (a0:List GCue)(a1:List Int)(a2:Int):[[.own (ab GCue.enc a0),.own (ab eI a1),.lit (.int .i64 a2)]]=ab aq.encO [(aq.mk a0 a1 a2)]:=rfl
theorem zi (xs:List aq)(a0:List GCue)(a1:List Int)(a2:Int):[.own (ab GCue.enc a0),.own (ab eI a1),.lit (.int .i64 a2)]::ab aq.encO xs=ab aq.encO ((aq.mk a0 a1 a2)::xs):=rfl
theorem Bs (xs:List aq):frsR (ab aq.encO xs)=true:=bI (e:=aq.encO) (fun x=>by simp only [go_sem,aq.encO]) xs
theorem zj (xs:List aq):bA (ab aq.encO xs)=ab aq.encS xs:=bl (e:=aq.encO) (fun x=>by simp only [go_sem,dK,toSl,aq.encO,aq.encS]) xs
theorem Bt (n:Nat):List.replicate n [.own [],.own [],.lit (.int .i64 0)]=ab aq.encO (List.replicate n (aq.mk ([]) ([]) 0)):=aO (e:=aq.encO) n (aq.mk ([]) ([]) 0)
theorem vO (xs:List aq)(a1:List Int)(a2:Int):ab aq.encO xs++[[.own [],.own (ab eI a1),.lit (.int .i64 a2)]]=ab aq.encO (xs++[(aq.mk [] a1 a2)]):=ar (e:=aq.encO) xs (aq.mk [] a1 a2)
theorem xv (a1:List Int)(a2:Int):[[.own [],.own (ab eI a1),.lit (.int .i64 a2)]]=ab aq.encO [(aq.mk [] a1 a2)]:=rfl
theorem vP (xs:List aq)(a1:List Int)(a2:Int):[.own [],.own (ab eI a1),.lit (.int .i64 a2)]::ab aq.encO xs=ab aq.encO ((aq.mk [] a1 a2)::xs):=rfl
theorem vQ (xs:List aq)(a0:List GCue)(a2:Int):ab aq.encO xs++[[.own (ab GCue.enc a0),.own [],.lit (.int .i64 a2)]]=ab aq.encO (xs++[(aq.mk a0 [] a2)]):=ar (e:=aq.encO) xs (aq.mk a0 [] a2)
theorem xw (a0:List GCue)(a2:Int):[[.own (ab GCue.enc a0),.own [],.lit (.int .i64 a2)]]=ab aq.encO [(aq.mk a0 [] a2)]:=rfl
theorem vR (xs:List aq)(a0:List GCue)(a2:Int):[.own (ab GCue.enc a0),.own [],.lit (.int .i64 a2)]::ab aq.encO xs=ab aq.encO ((aq.mk a0 [] a2)::xs):=rfl
theorem vS (xs:List aq)(a2:Int):ab aq.encO xs++[[.own [],.own [],.lit (.int .i64 a2)]]=ab aq.encO (xs++[(aq.mk [] [] a2)]):=ar (e:=aq.encO) xs (aq.mk [] [] a2)
theorem xx (a2:Int):[[.own [],.own [],.lit (.int .i64 a2)]]=ab aq.encO [(aq.mk [] [] a2)]:=rfl
theorem vT (xs:List aq)(a2:Int):[.own [],.own [],.lit (.int .i64 a2)]::ab aq.encO xs=ab aq.encO ((aq.mk [] [] a2)::xs):=rfl
attribute [go_sem] aq.encO zh Bp Bq Br zi Bs zj Bt vO xv vP vQ xw vR vS xx vT
theorem pB (xs:List aA)(a0 a1:Int):ab aA.enc xs++ab GTake.enc [(GTake.mk a0 a1)]=ab aA.enc (xs++[(aA.mk a0 a1)]):=pA xs a0 a1
attribute [go_sem] pB
theorem pC (xs:List GTake)(a0 a1:Int):ab GTake.enc xs++ab aA.enc [(aA.mk a0 a1)]=ab GTake.enc (xs++[(GTake.mk a0 a1)]):=sB xs a0 a1
attribute [go_sem] pC
def spf (f:Nat):Bool:=[162,244].contains f
@[go_sem] theorem WF:spf 102=false:=rfl
@[go_sem] theorem WG:spf 145=false:=rfl
@[go_sem] theorem WH:spf 162=true:=rfl
@[go_sem] theorem WI:spf 168=false:=rfl
@[go_sem] theorem WJ:spf 203=false:=rfl
@[go_sem] theorem WK:spf 206=false:=rfl
@[go_sem] theorem WL:spf 210=false:=rfl
@[go_sem] theorem WM:spf 226=false:=rfl
@[go_sem] theorem WN:spf 231=false:=rfl
@[go_sem] theorem WO:spf 244=true:=rfl
@[go_sem] theorem WP:spf 246=false:=rfl
@[go_sem] theorem WQ:spf 259=false:=rfl
@[go_sem] theorem WR:spf 268=false:=rfl
@[go_sem] theorem WS:spf 277=false:=rfl
@[go_sem] theorem WT:spf 294=false:=rfl
@[go_sem] theorem WU:spf 335=false:=rfl
@[go_sem] theorem Xd:spf 83=false:=rfl
@[go_sem] theorem WV:spf 105=false:=rfl
@[go_sem] theorem WW:spf 198=false:=rfl
@[go_sem] theorem WX:spf 208=false:=rfl
@[go_sem] theorem WY:spf 240=false:=rfl
@[go_sem] theorem WZ:spf 269=false:=rfl
def mdT:Nat→List AV→Md:=fun n a=>match n with
 | 73=>⟨[0],true⟩
 | 74=>⟨[],true⟩
 | 89=>⟨[],true⟩
 | 90=>⟨[0],true⟩
 | 92=>⟨[0],true⟩
 | 96=>⟨[],true⟩
 | 97=>⟨[0],true⟩
 | 111=>⟨[0],true⟩
 | 112=>⟨[0],true⟩
 | 151=>⟨[0],true⟩
 | 162=>⟨[0],true⟩
 | 163=>⟨[0],true⟩
 | 164=>⟨[],true⟩
 | 165=>⟨[0],true⟩
 | 166=>⟨[0],false⟩
 | 178=>⟨[0],true⟩
 | 179=>⟨[0],true⟩
 | 203=>⟨[5,6],false⟩
 | 242=>⟨[0],true⟩
 | 243=>⟨[0,1],true⟩
 | 244=>⟨[1,2],true⟩
 | 249=>⟨[0],false⟩
 | 252=>⟨[0,1],true⟩
 | 289=>bif spf (fnId a) then ⟨[0,1],true⟩ else ⟨[],false⟩
 | 290=>⟨[1000],false⟩
 | 291=>⟨[0],false⟩
 | 308=>⟨[0],false⟩
 | _=>⟨[],false⟩
@[go_sem] theorem md3 (a:List AV):mdT 3 a=⟨[],false⟩:=rfl
@[go_sem] theorem md4 (a:List AV):mdT 4 a=⟨[],false⟩:=rfl
@[go_sem] theorem md5 (a:List AV):mdT 5 a=⟨[],false⟩:=rfl
@[go_sem] theorem md6 (a:List AV):mdT 6 a=⟨[],false⟩:=rfl
@[go_sem] theorem md7 (a:List AV):mdT 7 a=⟨[],false⟩:=rfl
@[go_sem] theorem md8 (a:List AV):mdT 8 a=⟨[],false⟩:=rfl
@[go_sem] theorem md9 (a:List AV):mdT 9 a=⟨[],false⟩:=rfl
@[go_sem] theorem md10 (a:List AV):mdT 10 a=⟨[],false⟩:=rfl
@[go_sem] theorem md11 (a:List AV):mdT 11 a=⟨[],false⟩:=rfl
@[go_sem] theorem md12 (a:List AV):mdT 12 a=⟨[],false⟩:=rfl
@[go_sem] theorem md13 (a:List AV):mdT 13 a=⟨[],false⟩:=rfl
@[go_sem] theorem md14 (a:List AV):mdT 14 a=⟨[],false⟩:=rfl
@[go_sem] theorem md15 (a:List AV):mdT 15 a=⟨[],false⟩:=rfl
@[go_sem] theorem md16 (a:List AV):mdT 16 a=⟨[],false⟩:=rfl
@[go_sem] theorem md17 (a:List AV):mdT 17 a=⟨[],false⟩:=rfl
@[go_sem] theorem md18 (a:List AV):mdT 18 a=⟨[],false⟩:=rfl
@[go_sem] theorem md19 (a:List AV):mdT 19 a=⟨[],false⟩:=rfl
@[go_sem] theorem md20 (a:List AV):mdT 20 a=⟨[],false⟩:=rfl
@[go_sem] theorem md21 (a:List AV):mdT 21 a=⟨[],false⟩:=rfl
@[go_sem] theorem md22 (a:List AV):mdT 22 a=⟨[],false⟩:=rfl
@[go_sem] theorem md23 (a:List AV):mdT 23 a=⟨[],false⟩:=rfl
@[go_sem] theorem md24 (a:List AV):mdT 24 a=⟨[],false⟩:=rfl
@[go_sem] theorem md25 (a:List AV):mdT 25 a=⟨[],false⟩:=rfl
@[go_sem] theorem md26 (a:List AV):mdT 26 a=⟨[],false⟩:=rfl
@[go_sem] theorem md27 (a:List AV):mdT 27 a=⟨[],false⟩:=rfl
@[go_sem] theorem md28 (a:List AV):mdT 28 a=⟨[],false⟩:=rfl
@[go_sem] theorem md29 (a:List AV):mdT 29 a=⟨[],false⟩:=rfl
@[go_sem] theorem md30 (a:List AV):mdT 30 a=⟨[],false⟩:=rfl
@[go_sem] theorem md31 (a:List AV):mdT 31 a=⟨[],false⟩:=rfl
@[go_sem] theorem md32 (a:List AV):mdT 32 a=⟨[],false⟩:=rfl
@[go_sem] theorem md33 (a:List AV):mdT 33 a=⟨[],false⟩:=rfl
@[go_sem] theorem md34 (a:List AV):mdT 34 a=⟨[],false⟩:=rfl
@[go_sem] theorem md35 (a:List AV):mdT 35 a=⟨[],false⟩:=rfl
@[go_sem] theorem md36 (a:List AV):mdT 36 a=⟨[],false⟩:=rfl
@[go_sem] theorem md37 (a:List AV):mdT 37 a=⟨[],false⟩:=rfl
@[go_sem] theorem md38 (a:List AV):mdT 38 a=⟨[],false⟩:=rfl
@[go_sem] theorem md39 (a:List AV):mdT 39 a=⟨[],false⟩:=rfl
@[go_sem] theorem md40 (a:List AV):mdT 40 a=⟨[],false⟩:=rfl
@[go_sem] theorem md41 (a:List AV):mdT 41 a=⟨[],false⟩:=rfl
@[go_sem] theorem md42 (a:List AV):mdT 42 a=⟨[],false⟩:=rfl
@[go_sem] theorem md43 (a:List AV):mdT 43 a=⟨[],false⟩:=rfl
@[go_sem] theorem md44 (a:List AV):mdT 44 a=⟨[],false⟩:=rfl
@[go_sem] theorem md45 (a:List AV):mdT 45 a=⟨[],false⟩:=rfl
@[go_sem] theorem md46 (a:List AV):mdT 46 a=⟨[],false⟩:=rfl
@[go_sem] theorem md47 (a:List AV):mdT 47 a=⟨[],false⟩:=rfl
@[go_sem] theorem md48 (a:List AV):mdT 48 a=⟨[],false⟩:=rfl
@[go_sem] theorem md49 (a:List AV):mdT 49 a=⟨[],false⟩:=rfl
@[go_sem] theorem md50 (a:List AV):mdT 50 a=⟨[],false⟩:=rfl
@[go_sem] theorem md51 (a:List AV):mdT 51 a=⟨[],false⟩:=rfl
@[go_sem] theorem md52 (a:List AV):mdT 52 a=⟨[],false⟩:=rfl
@[go_sem] theorem md53 (a:List AV):mdT 53 a=⟨[],false⟩:=rfl
@[go_sem] theorem md54 (a:List AV):mdT 54 a=⟨[],false⟩:=rfl
@[go_sem] theorem md55 (a:List AV):mdT 55 a=⟨[],false⟩:=rfl
@[go_sem] theorem md56 (a:List AV):mdT 56 a=⟨[],false⟩:=rfl
@[go_sem] theorem md57 (a:List AV):mdT 57 a=⟨[],false⟩:=rfl
@[go_sem] theorem md58 (a:List AV):mdT 58 a=⟨[],false⟩:=rfl
@[go_sem] theorem md59 (a:List AV):mdT 59 a=⟨[],false⟩:=rfl
@[go_sem] theorem md60 (a:List AV):mdT 60 a=⟨[],false⟩:=rfl
@[go_sem] theorem md61 (a:List AV):mdT 61 a=⟨[],false⟩:=rfl
@[go_sem] theorem md62 (a:List AV):mdT 62 a=⟨[],false⟩:=rfl
@[go_sem] theorem md63 (a:List AV):mdT 63 a=⟨[],false⟩:=rfl
@[go_sem] theorem md64 (a:List AV):mdT 64 a=⟨[],false⟩:=rfl
@[go_sem] theorem md65 (a:List AV):mdT 65 a=⟨[],false⟩:=rfl
@[go_sem] theorem md66 (a:List AV):mdT 66 a=⟨[],false⟩:=rfl
@[go_sem] theorem md67 (a:List AV):mdT 67 a=⟨[],false⟩:=rfl
@[go_sem] theorem md68 (a:List AV):mdT 68 a=⟨[],false⟩:=rfl
@[go_sem] theorem md69 (a:List AV):mdT 69 a=⟨[],false⟩:=rfl
@[go_sem] theorem md70 (a:List AV):mdT 70 a=⟨[],false⟩:=rfl
@[go_sem] theorem md71 (a:List AV):mdT 71 a=⟨[],false⟩:=rfl
@[go_sem] theorem md72 (a:List AV):mdT 72 a=⟨[],false⟩:=rfl
@[go_sem] theorem md73 (a:List AV):mdT 73 a=⟨[0],true⟩:=rfl
@[go_sem] theorem md74 (a:List AV):mdT 74 a=⟨[],true⟩:=rfl
@[go_sem] theorem md75 (a:List AV):mdT 75 a=⟨[],false⟩:=rfl
@[go_sem] theorem md77 (a:List AV):mdT 77 a=⟨[],false⟩:=rfl
@[go_sem] theorem md79 (a:List AV):mdT 79 a=⟨[],false⟩:=rfl
@[go_sem] theorem md80 (a:List AV):mdT 80 a=⟨[],false⟩:=rfl
@[go_sem] theorem md81 (a:List AV):mdT 81 a=⟨[],false⟩:=rfl
@[go_sem] theorem md82 (a:List AV):mdT 82 a=⟨[],false⟩:=rfl
@[go_sem] theorem md83 (a:List AV):mdT 83 a=⟨[],false⟩:=rfl
@[go_sem] theorem md84 (a:List AV):mdT 84 a=⟨[],false⟩:=rfl
@[go_sem] theorem md85 (a:List AV):mdT 85 a=⟨[],false⟩:=rfl
@[go_sem] theorem md86 (a:List AV):mdT 86 a=⟨[],false⟩:=rfl
@[go_sem] theorem md87 (a:List AV):mdT 87 a=⟨[],false⟩:=rfl
@[go_sem] theorem md88 (a:List AV):mdT 88 a=⟨[],false⟩:=rfl
@[go_sem] theorem md89 (a:List AV):mdT 89 a=⟨[],true⟩:=rfl
@[go_sem] theorem md90 (a:List AV):mdT 90 a=⟨[0],true⟩:=rfl
@[go_sem] theorem md91 (a:List AV):mdT 91 a=⟨[],false⟩:=rfl
@[go_sem] theorem md92 (a:List AV):mdT 92 a=⟨[0],true⟩:=rfl
@[go_sem] theorem md93 (a:List AV):mdT 93 a=⟨[],false⟩:=rfl
@[go_sem] theorem md94 (a:List AV):mdT 94 a=⟨[],false⟩:=rfl
@[go_sem] theorem md95 (a:List AV):mdT 95 a=⟨[],false⟩:=rfl
@[go_sem] theorem md96 (a:List AV):mdT 96 a=⟨[],true⟩:=rfl
@[go_sem] theorem md97 (a:List AV):mdT 97 a=⟨[0],true⟩:=rfl
@[go_sem] theorem md98 (a:List AV):mdT 98 a=⟨[],false⟩:=rfl
@[go_sem] theorem md99 (a:List AV):mdT 99 a=⟨[],false⟩:=rfl
@[go_sem] theorem Xe (a:List AV):mdT 100 a=⟨[],false⟩:=rfl
@[go_sem] theorem Xf (a:List AV):mdT 101 a=⟨[],false⟩:=rfl
@[go_sem] theorem Xg (a:List AV):mdT 102 a=⟨[],false⟩:=rfl
@[go_sem] theorem Xh (a:List AV):mdT 103 a=⟨[],false⟩:=rfl
@[go_sem] theorem Xi (a:List AV):mdT 104 a=⟨[],false⟩:=rfl
@[go_sem] theorem Xj (a:List AV):mdT 105 a=⟨[],false⟩:=rfl
@[go_sem] theorem Xk (a:List AV):mdT 106 a=⟨[],false⟩:=rfl
@[go_sem] theorem Xl (a:List AV):mdT 107 a=⟨[],false⟩:=rfl
@[go_sem] theorem Xm (a:List AV):mdT 108 a=⟨[],false⟩:=rfl
@[go_sem] theorem Xn (a:List AV):mdT 109 a=⟨[],false⟩:=rfl
@[go_sem] theorem Xo (a:List AV):mdT 110 a=⟨[],false⟩:=rfl
@[go_sem] theorem Xp (a:List AV):mdT 111 a=⟨[0],true⟩:=rfl
@[go_sem] theorem Xq (a:List AV):mdT 112 a=⟨[0],true⟩:=rfl
@[go_sem] theorem Xr (a:List AV):mdT 113 a=⟨[],false⟩:=rfl
@[go_sem] theorem Xs (a:List AV):mdT 114 a=⟨[],false⟩:=rfl
@[go_sem] theorem Xt (a:List AV):mdT 115 a=⟨[],false⟩:=rfl
@[go_sem] theorem Xu (a:List AV):mdT 116 a=⟨[],false⟩:=rfl
@[go_sem] theorem Xv (a:List AV):mdT 117 a=⟨[],false⟩:=rfl
@[go_sem] theorem Xw (a:List AV):mdT 118 a=⟨[],false⟩:=rfl
@[go_sem] theorem Xx (a:List AV):mdT 119 a=⟨[],false⟩:=rfl
@[go_sem] theorem Xy (a:List AV):mdT 120 a=⟨[],false⟩:=rfl
@[go_sem] theorem Xz (a:List AV):mdT 121 a=⟨[],false⟩:=rfl
@[go_sem] theorem XA (a:List AV):mdT 122 a=⟨[],false⟩:=rfl
@[go_sem] theorem XB (a:List AV):mdT 123 a=⟨[],false⟩:=rfl
@[go_sem] theorem XC (a:List AV):mdT 124 a=⟨[],false⟩:=rfl
@[go_sem] theorem XD (a:List AV):mdT 125 a=⟨[],false⟩:=rfl
@[go_sem] theorem XE (a:List AV):mdT 126 a=⟨[],false⟩:=rfl
@[go_sem] theorem XF (a:List AV):mdT 127 a=⟨[],false⟩:=rfl
@[go_sem] theorem XG (a:List AV):mdT 128 a=⟨[],false⟩:=rfl
@[go_sem] theorem XH (a:List AV):mdT 129 a=⟨[],false⟩:=rfl
@[go_sem] theorem XI (a:List AV):mdT 130 a=⟨[],false⟩:=rfl
@[go_sem] theorem XJ (a:List AV):mdT 131 a=⟨[],false⟩:=rfl
@[go_sem] theorem XK (a:List AV):mdT 132 a=⟨[],false⟩:=rfl
@[go_sem] theorem XL (a:List AV):mdT 133 a=⟨[],false⟩:=rfl
@[go_sem] theorem XM (a:List AV):mdT 134 a=⟨[],false⟩:=rfl
@[go_sem] theorem XN (a:List AV):mdT 135 a=⟨[],false⟩:=rfl
@[go_sem] theorem XO (a:List AV):mdT 136 a=⟨[],false⟩:=rfl
@[go_sem] theorem XP (a:List AV):mdT 137 a=⟨[],false⟩:=rfl
@[go_sem] theorem XQ (a:List AV):mdT 138 a=⟨[],false⟩:=rfl
@[go_sem] theorem XR (a:List AV):mdT 139 a=⟨[],false⟩:=rfl
@[go_sem] theorem XS (a:List AV):mdT 140 a=⟨[],false⟩:=rfl
@[go_sem] theorem XT (a:List AV):mdT 141 a=⟨[],false⟩:=rfl
@[go_sem] theorem XU (a:List AV):mdT 142 a=⟨[],false⟩:=rfl
@[go_sem] theorem XV (a:List AV):mdT 143 a=⟨[],false⟩:=rfl
@[go_sem] theorem XW (a:List AV):mdT 144 a=⟨[],false⟩:=rfl
@[go_sem] theorem XX (a:List AV):mdT 145 a=⟨[],false⟩:=rfl
@[go_sem] theorem XY (a:List AV):mdT 146 a=⟨[],false⟩:=rfl
@[go_sem] theorem XZ (a:List AV):mdT 147 a=⟨[],false⟩:=rfl
@[go_sem] theorem Ya (a:List AV):mdT 148 a=⟨[],false⟩:=rfl
@[go_sem] theorem Yb (a:List AV):mdT 149 a=⟨[],false⟩:=rfl
@[go_sem] theorem Yc (a:List AV):mdT 150 a=⟨[],false⟩:=rfl
@[go_sem] theorem Yd (a:List AV):mdT 151 a=⟨[0],true⟩:=rfl
@[go_sem] theorem Ye (a:List AV):mdT 153 a=⟨[],false⟩:=rfl
@[go_sem] theorem Yf (a:List AV):mdT 155 a=⟨[],false⟩:=rfl
@[go_sem] theorem Yg (a:List AV):mdT 156 a=⟨[],false⟩:=rfl
@[go_sem] theorem Yh (a:List AV):mdT 157 a=⟨[],false⟩:=rfl
@[go_sem] theorem Yi (a:List AV):mdT 158 a=⟨[],false⟩:=rfl
@[go_sem] theorem Yj (a:List AV):mdT 159 a=⟨[],false⟩:=rfl
@[go_sem] theorem Yk (a:List AV):mdT 160 a=⟨[],false⟩:=rfl
@[go_sem] theorem Yl (a:List AV):mdT 161 a=⟨[],false⟩:=rfl
@[go_sem] theorem Ym (a:List AV):mdT 162 a=⟨[0],true⟩:=rfl
@[go_sem] theorem Yn (a:List AV):mdT 163 a=⟨[0],true⟩:=rfl
@[go_sem] theorem Yo (a:List AV):mdT 164 a=⟨[],true⟩:=rfl
@[go_sem] theorem Yp (a:List AV):mdT 165 a=⟨[0],true⟩:=rfl
@[go_sem] theorem Yq (a:List AV):mdT 166 a=⟨[0],false⟩:=rfl
@[go_sem] theorem Yr (a:List AV):mdT 167 a=⟨[],false⟩:=rfl
@[go_sem] theorem Ys (a:List AV):mdT 168 a=⟨[],false⟩:=rfl
@[go_sem] theorem Yt (a:List AV):mdT 169 a=⟨[],false⟩:=rfl
@[go_sem] theorem Yu (a:List AV):mdT 170 a=⟨[],false⟩:=rfl
@[go_sem] theorem Yv (a:List AV):mdT 171 a=⟨[],false⟩:=rfl
@[go_sem] theorem Yw (a:List AV):mdT 172 a=⟨[],false⟩:=rfl
@[go_sem] theorem Yx (a:List AV):mdT 173 a=⟨[],false⟩:=rfl
@[go_sem] theorem Yy (a:List AV):mdT 174 a=⟨[],false⟩:=rfl
@[go_sem] theorem Yz (a:List AV):mdT 175 a=⟨[],false⟩:=rfl
@[go_sem] theorem YA (a:List AV):mdT 176 a=⟨[],false⟩:=rfl
@[go_sem] theorem YB (a:List AV):mdT 177 a=⟨[],false⟩:=rfl
@[go_sem] theorem YC (a:List AV):mdT 178 a=⟨[0],true⟩:=rfl
@[go_sem] theorem YD (a:List AV):mdT 179 a=⟨[0],true⟩:=rfl
@[go_sem] theorem YE (a:List AV):mdT 180 a=⟨[],false⟩:=rfl
@[go_sem] theorem YF (a:List AV):mdT 181 a=⟨[],false⟩:=rfl
@[go_sem] theorem YG (a:List AV):mdT 182 a=⟨[],false⟩:=rfl
@[go_sem] theorem YH (a:List AV):mdT 183 a=⟨[],false⟩:=rfl
@[go_sem] theorem YI (a:List AV):mdT 184 a=⟨[],false⟩:=rfl
@[go_sem] theorem YJ (a:List AV):mdT 185 a=⟨[],false⟩:=rfl
@[go_sem] theorem YK (a:List AV):mdT 186 a=⟨[],false⟩:=rfl
@[go_sem] theorem YL (a:List AV):mdT 187 a=⟨[],false⟩:=rfl
@[go_sem] theorem YM (a:List AV):mdT 188 a=⟨[],false⟩:=rfl
@[go_sem] theorem YN (a:List AV):mdT 189 a=⟨[],false⟩:=rfl
@[go_sem] theorem YO (a:List AV):mdT 190 a=⟨[],false⟩:=rfl
@[go_sem] theorem YP (a:List AV):mdT 191 a=⟨[],false⟩:=rfl
@[go_sem] theorem YQ (a:List AV):mdT 192 a=⟨[],false⟩:=rfl
@[go_sem] theorem YR (a:List AV):mdT 193 a=⟨[],false⟩:=rfl
@[go_sem] theorem YS (a:List AV):mdT 194 a=⟨[],false⟩:=rfl
@[go_sem] theorem YT (a:List AV):mdT 195 a=⟨[],false⟩:=rfl
@[go_sem] theorem YU (a:List AV):mdT 196 a=⟨[],false⟩:=rfl
@[go_sem] theorem YV (a:List AV):mdT 197 a=⟨[],false⟩:=rfl
@[go_sem] theorem YW (a:List AV):mdT 198 a=⟨[],false⟩:=rfl
@[go_sem] theorem YX (a:List AV):mdT 199 a=⟨[],false⟩:=rfl
@[go_sem] theorem YY (a:List AV):mdT 200 a=⟨[],false⟩:=rfl
@[go_sem] theorem YZ (a:List AV):mdT 201 a=⟨[],false⟩:=rfl
@[go_sem] theorem Za (a:List AV):mdT 202 a=⟨[],false⟩:=rfl
@[go_sem] theorem Zb (a:List AV):mdT 203 a=⟨[5,6],false⟩:=rfl
@[go_sem] theorem Zc (a:List AV):mdT 204 a=⟨[],false⟩:=rfl
@[go_sem] theorem Zd (a:List AV):mdT 205 a=⟨[],false⟩:=rfl
@[go_sem] theorem Ze (a:List AV):mdT 206 a=⟨[],false⟩:=rfl
@[go_sem] theorem Zf (a:List AV):mdT 207 a=⟨[],false⟩:=rfl
@[go_sem] theorem Zg (a:List AV):mdT 208 a=⟨[],false⟩:=rfl
@[go_sem] theorem Zh (a:List AV):mdT 209 a=⟨[],false⟩:=rfl
@[go_sem] theorem Zi (a:List AV):mdT 210 a=⟨[],false⟩:=rfl
@[go_sem] theorem Zj (a:List AV):mdT 211 a=⟨[],false⟩:=rfl
@[go_sem] theorem Zk (a:List AV):mdT 212 a=⟨[],false⟩:=rfl
@[go_sem] theorem Zl (a:List AV):mdT 213 a=⟨[],false⟩:=rfl
@[go_sem] theorem Zm (a:List AV):mdT 214 a=⟨[],false⟩:=rfl
@[go_sem] theorem Zn (a:List AV):mdT 215 a=⟨[],false⟩:=rfl
@[go_sem] theorem Zo (a:List AV):mdT 216 a=⟨[],false⟩:=rfl
@[go_sem] theorem Zp (a:List AV):mdT 217 a=⟨[],false⟩:=rfl
@[go_sem] theorem Zq (a:List AV):mdT 218 a=⟨[],false⟩:=rfl
@[go_sem] theorem Zr (a:List AV):mdT 219 a=⟨[],false⟩:=rfl
@[go_sem] theorem Zs (a:List AV):mdT 220 a=⟨[],false⟩:=rfl
@[go_sem] theorem Zt (a:List AV):mdT 221 a=⟨[],false⟩:=rfl
@[go_sem] theorem Zu (a:List AV):mdT 222 a=⟨[],false⟩:=rfl
@[go_sem] theorem Zv (a:List AV):mdT 223 a=⟨[],false⟩:=rfl
@[go_sem] theorem Zw (a:List AV):mdT 224 a=⟨[],false⟩:=rfl
@[go_sem] theorem Zx (a:List AV):mdT 225 a=⟨[],false⟩:=rfl
@[go_sem] theorem Zy (a:List AV):mdT 226 a=⟨[],false⟩:=rfl
@[go_sem] theorem Zz (a:List AV):mdT 227 a=⟨[],false⟩:=rfl
@[go_sem] theorem ZA (a:List AV):mdT 228 a=⟨[],false⟩:=rfl
@[go_sem] theorem ZB (a:List AV):mdT 229 a=⟨[],false⟩:=rfl
@[go_sem] theorem ZC (a:List AV):mdT 230 a=⟨[],false⟩:=rfl
@[go_sem] theorem ZD (a:List AV):mdT 231 a=⟨[],false⟩:=rfl
@[go_sem] theorem ZE (a:List AV):mdT 232 a=⟨[],false⟩:=rfl
@[go_sem] theorem ZF (a:List AV):mdT 233 a=⟨[],false⟩:=rfl
@[go_sem] theorem ZG (a:List AV):mdT 234 a=⟨[],false⟩:=rfl
@[go_sem] theorem ZH (a:List AV):mdT 236 a=⟨[],false⟩:=rfl
@[go_sem] theorem ZI (a:List AV):mdT 238 a=⟨[],false⟩:=rfl
@[go_sem] theorem ZJ (a:List AV):mdT 240 a=⟨[],false⟩:=rfl
@[go_sem] theorem ZK (a:List AV):mdT 241 a=⟨[],false⟩:=rfl
@[go_sem] theorem ZL (a:List AV):mdT 242 a=⟨[0],true⟩:=rfl
@[go_sem] theorem ZM (a:List AV):mdT 243 a=⟨[0,1],true⟩:=rfl
@[go_sem] theorem ZN (a:List AV):mdT 244 a=⟨[1,2],true⟩:=rfl
@[go_sem] theorem ZO (a:List AV):mdT 245 a=⟨[],false⟩:=rfl
@[go_sem] theorem ZP (a:List AV):mdT 246 a=⟨[],false⟩:=rfl
@[go_sem] theorem ZQ (a:List AV):mdT 247 a=⟨[],false⟩:=rfl
@[go_sem] theorem ZR (a:List AV):mdT 248 a=⟨[],false⟩:=rfl
@[go_sem] theorem ZS (a:List AV):mdT 249 a=⟨[0],false⟩:=rfl
@[go_sem] theorem ZT (a:List AV):mdT 250 a=⟨[],false⟩:=rfl
@[go_sem] theorem ZU (a:List AV):mdT 251 a=⟨[],false⟩:=rfl
@[go_sem] theorem ZV (a:List AV):mdT 252 a=⟨[0,1],true⟩:=rfl
@[go_sem] theorem ZW (a:List AV):mdT 253 a=⟨[],false⟩:=rfl
@[go_sem] theorem ZX (a:List AV):mdT 254 a=⟨[],false⟩:=rfl
@[go_sem] theorem ZY (a:List AV):mdT 255 a=⟨[],false⟩:=rfl
@[go_sem] theorem ZZ (a:List AV):mdT 256 a=⟨[],false⟩:=rfl
@[go_sem] theorem aaa (a:List AV):mdT 257 a=⟨[],false⟩:=rfl
@[go_sem] theorem aab (a:List AV):mdT 258 a=⟨[],false⟩:=rfl
@[go_sem] theorem aac (a:List AV):mdT 259 a=⟨[],false⟩:=rfl
@[go_sem] theorem aad (a:List AV):mdT 260 a=⟨[],false⟩:=rfl
@[go_sem] theorem aae (a:List AV):mdT 261 a=⟨[],false⟩:=rfl
@[go_sem] theorem aaf (a:List AV):mdT 263 a=⟨[],false⟩:=rfl
@[go_sem] theorem aag (a:List AV):mdT 266 a=⟨[],false⟩:=rfl
@[go_sem] theorem aah (a:List AV):mdT 267 a=⟨[],false⟩:=rfl
@[go_sem] theorem aai (a:List AV):mdT 268 a=⟨[],false⟩:=rfl
@[go_sem] theorem aaj (a:List AV):mdT 269 a=⟨[],false⟩:=rfl
@[go_sem] theorem aak (a:List AV):mdT 270 a=⟨[],false⟩:=rfl
@[go_sem] theorem aal (a:List AV):mdT 271 a=⟨[],false⟩:=rfl
@[go_sem] theorem aam (a:List AV):mdT 272 a=⟨[],false⟩:=rfl
@[go_sem] theorem aan (a:List AV):mdT 273 a=⟨[],false⟩:=rfl
@[go_sem] theorem aao (a:List AV):mdT 274 a=⟨[],false⟩:=rfl
@[go_sem] theorem aap (a:List AV):mdT 275 a=⟨[],false⟩:=rfl
@[go_sem] theorem aaq (a:List AV):mdT 276 a=⟨[],false⟩:=rfl
@[go_sem] theorem aar (a:List AV):mdT 277 a=⟨[],false⟩:=rfl
@[go_sem] theorem aas (a:List AV):mdT 278 a=⟨[],false⟩:=rfl
@[go_sem] theorem aat (a:List AV):mdT 279 a=⟨[],false⟩:=rfl
@[go_sem] theorem aau (a:List AV):mdT 280 a=⟨[],false⟩:=rfl
@[go_sem] theorem aav (a:List AV):mdT 281 a=⟨[],false⟩:=rfl
@[go_sem] theorem aaw (a:List AV):mdT 288 a=⟨[],false⟩:=rfl
@[go_sem] theorem aax (a:List AV):mdT 289 a=bif spf (fnId a) then ⟨[0,1],true⟩ else ⟨[],false⟩:=rfl
@[go_sem] theorem aay (a:List AV):mdT 290 a=⟨[1000],false⟩:=rfl
@[go_sem] theorem aaz (a:List AV):mdT 291 a=⟨[0],false⟩:=rfl
@[go_sem] theorem aaA (a:List AV):mdT 292 a=⟨[],false⟩:=rfl
@[go_sem] theorem aaB (a:List AV):mdT 293 a=⟨[],false⟩:=rfl
@[go_sem] theorem aaC (a:List AV):mdT 294 a=⟨[],false⟩:=rfl
@[go_sem] theorem aaD (a:List AV):mdT 295 a=⟨[],false⟩:=rfl
@[go_sem] theorem aaE (a:List AV):mdT 298 a=⟨[],false⟩:=rfl
@[go_sem] theorem aaF (a:List AV):mdT 299 a=⟨[],false⟩:=rfl
@[go_sem] theorem aaG (a:List AV):mdT 300 a=⟨[],false⟩:=rfl
@[go_sem] theorem aaH (a:List AV):mdT 308 a=⟨[0],false⟩:=rfl
@[go_sem] theorem aaI (a:List AV):mdT 314 a=⟨[],false⟩:=rfl
@[go_sem] theorem aaJ (a:List AV):mdT 318 a=⟨[],false⟩:=rfl
@[go_sem] theorem aaK (a:List AV):mdT 319 a=⟨[],false⟩:=rfl
@[go_sem] theorem aaL (a:List AV):mdT 325 a=⟨[],false⟩:=rfl
@[go_sem] theorem aaM (a:List AV):mdT 334 a=⟨[],false⟩:=rfl
@[go_sem] theorem aaN (a:List AV):mdT 335 a=⟨[],false⟩:=rfl
end Go.Proofs.Qd
