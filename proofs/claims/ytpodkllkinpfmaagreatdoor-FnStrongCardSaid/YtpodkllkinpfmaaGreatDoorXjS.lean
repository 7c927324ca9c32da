/- The things of the program. -/
import Derived.Test.YtpodkllkinpfmaaGreatDoorXjT
import Derived.Test.YtpodkllkinpfmaaGreatDoorXj33
set_option linter.all false
set_option maxRecDepth 100000
set_option maxHeartbeats 400000
namespace Go.Proofs.Qj
open Go
structure GNode where
 name:ByteArray
 label:List Int
 watch:Int
 deriving DecidableEq
def GNode.encS (x:GNode):List AV:=[.lit (.string x.name),.sl (ab eI x.label),.lit (.int .i64 x.watch)]
theorem xb (xs:List GNode)(a0:ByteArray)(a1:List Int)(a2:Int):ab GNode.encS xs++[[.lit (.string a0),.sl (ab eI a1),.lit (.int .i64 a2)]]=ab GNode.encS (xs++[(GNode.mk a0 a1 a2)]):=ao (e:=GNode.encS) xs (GNode.mk a0 a1 a2)
theorem yB (xs:List GNode)(i:Nat)(a0:ByteArray)(a1:List Int)(a2:Int):(ab GNode.encS xs).set i [.lit (.string a0),.sl (ab eI a1),.lit (.int .i64 a2)]=ab GNode.encS (xs.set i (GNode.mk a0 a1 a2)):=aG (e:=GNode.encS) xs i (GNode.mk a0 a1 a2)
theorem yC (xs:List GNode):(ab GNode.encS xs).all (fun r=>r.length == 3)=true:=aK (e:=GNode.encS) (fun _=>rfl) xs
theorem yD (a0:ByteArray)(a1:List Int)(a2:Int):[[.lit (.string a0),.sl (ab eI a1),.lit (.int .i64 a2)]]=ab GNode.encS [(GNode.mk a0 a1 a2)]:=rfl
theorem xc (xs:List GNode)(a0:ByteArray)(a1:List Int)(a2:Int):[.lit (.string a0),.sl (ab eI a1),.lit (.int .i64 a2)]::ab GNode.encS xs=ab GNode.encS ((GNode.mk a0 a1 a2)::xs):=rfl
theorem sM (xs:List GNode)(a0:ByteArray)(a2:Int):ab GNode.encS xs++[[.lit (.string a0),.sl [],.lit (.int .i64 a2)]]=ab GNode.encS (xs++[(GNode.mk a0 [] a2)]):=ao (e:=GNode.encS) xs (GNode.mk a0 [] a2)
theorem uF (a0:ByteArray)(a2:Int):[[.lit (.string a0),.sl [],.lit (.int .i64 a2)]]=ab GNode.encS [(GNode.mk a0 [] a2)]:=rfl
theorem sN (xs:List GNode)(a0:ByteArray)(a2:Int):[.lit (.string a0),.sl [],.lit (.int .i64 a2)]::ab GNode.encS xs=ab GNode.encS ((GNode.mk a0 [] a2)::xs):=rfl
attribute[go_sem] GNode.encS xb yB yC yD xc sM uF sN
def GNode.encO (x:GNode):List AV:=[.lit (.string x.name),.own (ab eI x.label),.lit (.int .i64 x.watch)]
theorem xd (xs:List GNode)(a0:ByteArray)(a1:List Int)(a2:Int):ab GNode.encO xs++[[.lit (.string a0),.own (ab eI a1),.lit (.int .i64 a2)]]=ab GNode.encO (xs++[(GNode.mk a0 a1 a2)]):=ao (e:=GNode.encO) xs (GNode.mk a0 a1 a2)
theorem yE (xs:List GNode)(i:Nat)(a0:ByteArray)(a1:List Int)(a2:Int):(ab GNode.encO xs).set i [.lit (.string a0),.own (ab eI a1),.lit (.int .i64 a2)]=ab GNode.encO (xs.set i (GNode.mk a0 a1 a2)):=aG (e:=GNode.encO) xs i (GNode.mk a0 a1 a2)
theorem yF (xs:List GNode):(ab GNode.encO xs).all (fun r=>r.length == 3)=true:=aK (e:=GNode.encO) (fun _=>rfl) xs
theorem yG (a0:ByteArray)(a1:List Int)(a2:Int):[[.lit (.string a0),.own (ab eI a1),.lit (.int .i64 a2)]]=ab GNode.encO [(GNode.mk a0 a1 a2)]:=rfl
theorem xe (xs:List GNode)(a0:ByteArray)(a1:List Int)(a2:Int):[.lit (.string a0),.own (ab eI a1),.lit (.int .i64 a2)]::ab GNode.encO xs=ab GNode.encO ((GNode.mk a0 a1 a2)::xs):=rfl
theorem yH (xs:List GNode):frsR (ab GNode.encO xs)=true:=bn (e:=GNode.encO) (fun x=>by simp only[go_sem,GNode.encO]) xs
theorem xf (xs:List GNode):bl (ab GNode.encO xs)=ab GNode.encS xs:=aW (e:=GNode.encO) (fun x=>by simp only[go_sem,cQ,toSl,GNode.encO,GNode.encS]) xs
theorem yI (n:Nat):List.replicate n [.lit (.string (ByteArray.mk #[])),.own [],.lit (.int .i64 0)]=ab GNode.encO (List.replicate n (GNode.mk (ByteArray.mk #[]) ([]) 0)):=aI (e:=GNode.encO) n (GNode.mk (ByteArray.mk #[]) ([]) 0)
theorem sO (xs:List GNode)(a0:ByteArray)(a2:Int):ab GNode.encO xs++[[.lit (.string a0),.own [],.lit (.int .i64 a2)]]=ab GNode.encO (xs++[(GNode.mk a0 [] a2)]):=ao (e:=GNode.encO) xs (GNode.mk a0 [] a2)
theorem uG (a0:ByteArray)(a2:Int):[[.lit (.string a0),.own [],.lit (.int .i64 a2)]]=ab GNode.encO [(GNode.mk a0 [] a2)]:=rfl
theorem sP (xs:List GNode)(a0:ByteArray)(a2:Int):[.lit (.string a0),.own [],.lit (.int .i64 a2)]::ab GNode.encO xs=ab GNode.encO ((GNode.mk a0 [] a2)::xs):=rfl
attribute[go_sem] GNode.encO xd yE yF yG xe yH xf yI sO uG sP
structure GTie where
 from_:Int
 to:Int
 low:Int
 high:Int
 free:Bool
 deriving DecidableEq
def GTie.enc (x:GTie):List AV:=[.lit (.int .i64 x.from_),.lit (.int .i64 x.to),.lit (.int .i64 x.low),.lit (.int .i64 x.high),.lit (.bool x.free)]
theorem zY (xs:List GTie)(a0 a1 a2 a3:Int)(a4:Bool):ab GTie.enc xs++[[.lit (.int .i64 a0),.lit (.int .i64 a1),.lit (.int .i64 a2),.lit (.int .i64 a3),.lit (.bool a4)]]=ab GTie.enc (xs++[(GTie.mk a0 a1 a2 a3 a4)]):=ao (e:=GTie.enc) xs (GTie.mk a0 a1 a2 a3 a4)
theorem Cl (xs:List GTie)(i:Nat)(a0 a1 a2 a3:Int)(a4:Bool):(ab GTie.enc xs).set i [.lit (.int .i64 a0),.lit (.int .i64 a1),.lit (.int .i64 a2),.lit (.int .i64 a3),.lit (.bool a4)]=ab GTie.enc (xs.set i (GTie.mk a0 a1 a2 a3 a4)):=aG (e:=GTie.enc) xs i (GTie.mk a0 a1 a2 a3 a4)
theorem Cm (xs:List GTie):(ab GTie.enc xs).all (fun r=>r.length == 5)=true:=aK (e:=GTie.enc) (fun _=>rfl) xs
theorem Cn (a0 a1 a2 a3:Int)(a4:Bool):[[.lit (.int .i64 a0),.lit (.int .i64 a1),.lit (.int .i64 a2),.lit (.int .i64 a3),.lit (.bool a4)]]=ab GTie.enc [(GTie.mk a0 a1 a2 a3 a4)]:=rfl
theorem zZ (xs:List GTie)(a0 a1 a2 a3:Int)(a4:Bool):[.lit (.int .i64 a0),.lit (.int .i64 a1),.lit (.int .i64 a2),.lit (.int .i64 a3),.lit (.bool a4)]::ab GTie.enc xs=ab GTie.enc ((GTie.mk a0 a1 a2 a3 a4)::xs):=rfl
theorem Co (xs:List GTie):frsR (ab GTie.enc xs)=true:=bn (e:=GTie.enc) (fun x=>by simp only[go_sem,GTie.enc]) xs
theorem Aa (xs:List GTie):bl (ab GTie.enc xs)=ab GTie.enc xs:=aW (e:=GTie.enc) (fun x=>by simp only[go_sem,cQ,toSl,GTie.enc]) xs
theorem Cp (n:Nat):List.replicate n [.lit (.int .i64 0),.lit (.int .i64 0),.lit (.int .i64 0),.lit (.int .i64 0),.lit (.bool false)]=ab GTie.enc (List.replicate n (GTie.mk 0 0 0 0 false)):=aI (e:=GTie.enc) n (GTie.mk 0 0 0 0 false)
attribute[go_sem] GTie.enc zY Cl Cm Cn zZ Co Aa Cp
structure GShow where
 nodes:List GNode
 ties:List GTie
 horizon:Int
 deriving DecidableEq
def GShow.encS (x:GShow):List AV:=[.sl (ab GNode.encS x.nodes),.sl (ab GTie.enc x.ties),.lit (.int .i64 x.horizon)]
theorem xg (xs:List GShow)(a0:List GNode)(a1:List GTie)(a2:Int):ab GShow.encS xs++[[.sl (ab GNode.encS a0),.sl (ab GTie.enc a1),.lit (.int .i64 a2)]]=ab GShow.encS (xs++[(GShow.mk a0 a1 a2)]):=ao (e:=GShow.encS) xs (GShow.mk a0 a1 a2)
theorem yJ (xs:List GShow)(i:Nat)(a0:List GNode)(a1:List GTie)(a2:Int):(ab GShow.encS xs).set i [.sl (ab GNode.encS a0),.sl (ab GTie.enc a1),.lit (.int .i64 a2)]=ab GShow.encS (xs.set i (GShow.mk a0 a1 a2)):=aG (e:=GShow.encS) xs i (GShow.mk a0 a1 a2)
theorem yK (xs:List GShow):(ab GShow.encS xs).all (fun r=>r.length == 3)=true:=aK (e:=GShow.encS) (fun _=>rfl) xs
theorem yL (a0:List GNode)(a1:List GTie)(a2:Int):[[.sl (ab GNode.encS a0),.sl (ab GTie.enc a1),.lit (.int .i64 a2)]]=ab GShow.encS [(GShow.mk a0 a1 a2)]:=rfl
theorem xh (xs:List GShow)(a0:List GNode)(a1:List GTie)(a2:Int):[.sl (ab GNode.encS a0),.sl (ab GTie.enc a1),.lit (.int .i64 a2)]::ab GShow.encS xs=ab GShow.encS ((GShow.mk a0 a1 a2)::xs):=rfl
theorem sQ (xs:List GShow)(a1:List GTie)(a2:Int):ab GShow.encS xs++[[.sl [],.sl (ab GTie.enc a1),.lit (.int .i64 a2)]]=ab GShow.encS (xs++[(GShow.mk [] a1 a2)]):=ao (e:=GShow.encS) xs (GShow.mk [] a1 a2)
theorem uH (a1:List GTie)(a2:Int):[[.sl [],.sl (ab GTie.enc a1),.lit (.int .i64 a2)]]=ab GShow.encS [(GShow.mk [] a1 a2)]:=rfl
theorem sR (xs:List GShow)(a1:List GTie)(a2:Int):[.sl [],.sl (ab GTie.enc a1),.lit (.int .i64 a2)]::ab GShow.encS xs=ab GShow.encS ((GShow.mk [] a1 a2)::xs):=rfl
theorem sS (xs:List GShow)(a0:List GNode)(a2:Int):ab GShow.encS xs++[[.sl (ab GNode.encS a0),.sl [],.lit (.int .i64 a2)]]=ab GShow.encS (xs++[(GShow.mk a0 [] a2)]):=ao (e:=GShow.encS) xs (GShow.mk a0 [] a2)
theorem uI (a0:List GNode)(a2:Int):[[.sl (ab GNode.encS a0),.sl [],.lit (.int .i64 a2)]]=ab GShow.encS [(GShow.mk a0 [] a2)]:=rfl
theorem sT (xs:List GShow)(a0:List GNode)(a2:Int):[.sl (ab GNode.encS a0),.sl [],.lit (.int .i64 a2)]::ab GShow.encS xs=ab GShow.encS ((GShow.mk a0 [] a2)::xs):=rfl
theorem sU (xs:List GShow)(a2:Int):ab GShow.encS xs++[[.sl [],.sl [],.lit (.int .i64 a2)]]=ab GShow.encS (xs++[(GShow.mk [] [] a2)]):=ao (e:=GShow.encS) xs (GShow.mk [] [] a2)
theorem uJ (a2:Int):[[.sl [],.sl [],.lit (.int .i64 a2)]]=ab GShow.encS [(GShow.mk [] [] a2)]:=rfl
theorem sV (xs:List GShow)(a2:Int):[.sl [],.sl [],.lit (.int .i64 a2)]::ab GShow.encS xs=ab GShow.encS ((GShow.mk [] [] a2)::xs):=rfl
attribute[go_sem] GShow.encS xg yJ yK yL xh sQ uH sR sS uI sT sU uJ sV
def GShow.encO (x:GShow):List AV:=[.own (ab GNode.encO x.nodes),.own (ab GTie.enc x.ties),.lit (.int .i64 x.horizon)]
theorem xi (xs:List GShow)(a0:List GNode)(a1:List GTie)(a2:Int):ab GShow.encO xs++[[.own (ab GNode.encO a0),.own (ab GTie.enc a1),.lit (.int .i64 a2)]]=ab GShow.encO (xs++[(GShow.mk a0 a1 a2)]):=ao (e:=GShow.encO) xs (GShow.mk a0 a1 a2)
theorem yM (xs:List GShow)(i:Nat)(a0:List GNode)(a1:List GTie)(a2:Int):(ab GShow.encO xs).set i [.own (ab GNode.encO a0),.own (ab GTie.enc a1),.lit (.int .i64 a2)]=ab GShow.encO (xs.set i (GShow.mk a0 a1 a2)):=aG (e:=GShow.encO) xs i (GShow.mk a0 a1 a2)
theorem yN (xs:List GShow):(ab GShow.encO xs).all (fun r=>r.length == 3)=true:=aK (e:=GShow.encO) (fun _=>rfl) xs
theorem yO (a0:List GNode)(a1:List GTie)(a2:Int):[[.own (ab GNode.encO a0),.own (ab GTie.enc a1),.lit (.int .i64 a2)]]=ab GShow.encO [(GShow.mk a0 a1 a2)]:=rfl
theorem xj (xs:List GShow)(a0:List GNode)(a1:List GTie)(a2:Int):[.own (ab GNode.encO a0),.own (ab GTie.enc a1),.lit (.int .i64 a2)]::ab GShow.encO xs=ab GShow.encO ((GShow.mk a0 a1 a2)::xs):=rfl
theorem yP (xs:List GShow):frsR (ab GShow.encO xs)=true:=bn (e:=GShow.encO) (fun x=>by simp only[go_sem,GShow.encO]) xs
theorem xk (xs:List GShow):bl (ab GShow.encO xs)=ab GShow.encS xs:=aW (e:=GShow.encO) (fun x=>by simp only[go_sem,cQ,toSl,GShow.encO,GShow.encS]) xs
theorem yQ (n:Nat):List.replicate n [.own [],.own [],.lit (.int .i64 0)]=ab GShow.encO (List.replicate n (GShow.mk ([]) ([]) 0)):=aI (e:=GShow.encO) n (GShow.mk ([]) ([]) 0)
theorem sW (xs:List GShow)(a1:List GTie)(a2:Int):ab GShow.encO xs++[[.own [],.own (ab GTie.enc a1),.lit (.int .i64 a2)]]=ab GShow.encO (xs++[(GShow.mk [] a1 a2)]):=ao (e:=GShow.encO) xs (GShow.mk [] a1 a2)
theorem uK (a1:List GTie)(a2:Int):[[.own [],.own (ab GTie.enc a1),.lit (.int .i64 a2)]]=ab GShow.encO [(GShow.mk [] a1 a2)]:=rfl
theorem sX (xs:List GShow)(a1:List GTie)(a2:Int):[.own [],.own (ab GTie.enc a1),.lit (.int .i64 a2)]::ab GShow.encO xs=ab GShow.encO ((GShow.mk [] a1 a2)::xs):=rfl
theorem sY (xs:List GShow)(a0:List GNode)(a2:Int):ab GShow.encO xs++[[.own (ab GNode.encO a0),.own [],.lit (.int .i64 a2)]]=ab GShow.encO (xs++[(GShow.mk a0 [] a2)]):=ao (e:=GShow.encO) xs (GShow.mk a0 [] a2)
theorem uL (a0:List GNode)(a2:Int):[[.own (ab GNode.encO a0),.own [],.lit (.int .i64 a2)]]=ab GShow.encO [(GShow.mk a0 [] a2)]:=rfl
theorem sZ (xs:List GShow)(a0:List GNode)(a2:Int):[.own (ab GNode.encO a0),.own [],.lit (.int .i64 a2)]::ab GShow.encO xs=ab GShow.encO ((GShow.mk a0 [] a2)::xs):=rfl
theorem ta (xs:List GShow)(a2:Int):ab GShow.encO xs++[[.own [],.own [],.lit (.int .i64 a2)]]=ab GShow.encO (xs++[(GShow.mk [] [] a2)]):=ao (e:=GShow.encO) xs (GShow.mk [] [] a2)
theorem uM (a2:Int):[[.own [],.own [],.lit (.int .i64 a2)]]=ab GShow.encO [(GShow.mk [] [] a2)]:=rfl
theorem tb (xs:List GShow)(a2:Int):[.own [],.own [],.lit (.int .i64 a2)]::ab GShow.encO xs=ab GShow.encO ((GShow.mk [] [] a2)::xs):=rfl
attribute[go_sem] GShow.encO xi yM yN yO xj yP xk yQ sW uK sX sY uL sZ ta uM tb
structure GChoice where
 lengths:List Int
 values:List Int
 deriving DecidableEq
def GChoice.encS (x:GChoice):List AV:=[.sl (ab eI x.lengths),.sl (ab eI x.values)]
theorem tc (xs:List GChoice)(a0 a1:List Int):ab GChoice.encS xs++[[.sl (ab eI a0),.sl (ab eI a1)]]=ab GChoice.encS (xs++[(GChoice.mk a0 a1)]):=ao (e:=GChoice.encS) xs (GChoice.mk a0 a1)
theorem uN (xs:List GChoice)(i:Nat)(a0 a1:List Int):(ab GChoice.encS xs).set i [.sl (ab eI a0),.sl (ab eI a1)]=ab GChoice.encS (xs.set i (GChoice.mk a0 a1)):=aG (e:=GChoice.encS) xs i (GChoice.mk a0 a1)
theorem uO (xs:List GChoice):(ab GChoice.encS xs).all (fun r=>r.length == 2)=true:=aK (e:=GChoice.encS) (fun _=>rfl) xs
theorem uP (a0 a1:List Int):[[.sl (ab eI a0),.sl (ab eI a1)]]=ab GChoice.encS [(GChoice.mk a0 a1)]:=rfl
theorem td (xs:List GChoice)(a0 a1:List Int):[.sl (ab eI a0),.sl (ab eI a1)]::ab GChoice.encS xs=ab GChoice.encS ((GChoice.mk a0 a1)::xs):=rfl
theorem pZ (xs:List GChoice)(a1:List Int):ab GChoice.encS xs++[[.sl [],.sl (ab eI a1)]]=ab GChoice.encS (xs++[(GChoice.mk [] a1)]):=ao (e:=GChoice.encS) xs (GChoice.mk [] a1)
theorem rf (a1:List Int):[[.sl [],.sl (ab eI a1)]]=ab GChoice.encS [(GChoice.mk [] a1)]:=rfl
theorem qa (xs:List GChoice)(a1:List Int):[.sl [],.sl (ab eI a1)]::ab GChoice.encS xs=ab GChoice.encS ((GChoice.mk [] a1)::xs):=rfl
theorem qb (xs:List GChoice)(a0:List Int):ab GChoice.encS xs++[[.sl (ab eI a0),.sl []]]=ab GChoice.encS (xs++[(GChoice.mk a0 [])]):=ao (e:=GChoice.encS) xs (GChoice.mk a0 [])
theorem rg (a0:List Int):[[.sl (ab eI a0),.sl []]]=ab GChoice.encS [(GChoice.mk a0 [])]:=rfl
theorem qc (xs:List GChoice)(a0:List Int):[.sl (ab eI a0),.sl []]::ab GChoice.encS xs=ab GChoice.encS ((GChoice.mk a0 [])::xs):=rfl
theorem qd (xs:List GChoice)  : ab GChoice.encS xs++[[.sl [],.sl []]]=ab GChoice.encS (xs++[(GChoice.mk [] [])]):=ao (e:=GChoice.encS) xs (GChoice.mk [] [])
theorem rh  : [[.sl [],.sl []]]=ab GChoice.encS [(GChoice.mk [] [])]:=rfl
theorem qe (xs:List GChoice)  : [.sl [],.sl []]::ab GChoice.encS xs=ab GChoice.encS ((GChoice.mk [] [])::xs):=rfl
attribute[go_sem] GChoice.encS tc uN uO uP td pZ rf qa qb rg qc qd rh qe
def GChoice.encO (x:GChoice):List AV:=[.own (ab eI x.lengths),.own (ab eI x.values)]
theorem tf (xs:List GChoice)(a0 a1:List Int):ab GChoice.encO xs++[[.own (ab eI a0),.own (ab eI a1)]]=ab GChoice.encO (xs++[(GChoice.mk a0 a1)]):=ao (e:=GChoice.encO) xs (GChoice.mk a0 a1)
theorem uQ (xs:List GChoice)(i:Nat)(a0 a1:List Int):(ab GChoice.encO xs).set i [.own (ab eI a0),.own (ab eI a1)]=ab GChoice.encO (xs.set i (GChoice.mk a0 a1)):=aG (e:=GChoice.encO) xs i (GChoice.mk a0 a1)
theorem uR (xs:List GChoice):(ab GChoice.encO xs).all (fun r=>r.length == 2)=true:=aK (e:=GChoice.encO) (fun _=>rfl) xs
theorem uS (a0 a1:List Int):[[.own (ab eI a0),.own (ab eI a1)]]=ab GChoice.encO [(GChoice.mk a0 a1)]:=rfl
theorem tg (xs:List GChoice)(a0 a1:List Int):[.own (ab eI a0),.own (ab eI a1)]::ab GChoice.encO xs=ab GChoice.encO ((GChoice.mk a0 a1)::xs):=rfl
theorem uT (xs:List GChoice):frsR (ab GChoice.encO xs)=true:=bn (e:=GChoice.encO) (fun x=>by simp only[go_sem,GChoice.encO]) xs
theorem th (xs:List GChoice):bl (ab GChoice.encO xs)=ab GChoice.encS xs:=aW (e:=GChoice.encO) (fun x=>by simp only[go_sem,cQ,toSl,GChoice.encO,GChoice.encS]) xs
theorem uU (n:Nat):List.replicate n [.own [],.own []]=ab GChoice.encO (List.replicate n (GChoice.mk ([]) ([]))):=aI (e:=GChoice.encO) n (GChoice.mk ([]) ([]))
theorem qf (xs:List GChoice)(a1:List Int):ab GChoice.encO xs++[[.own [],.own (ab eI a1)]]=ab GChoice.encO (xs++[(GChoice.mk [] a1)]):=ao (e:=GChoice.encO) xs (GChoice.mk [] a1)
theorem ri (a1:List Int):[[.own [],.own (ab eI a1)]]=ab GChoice.encO [(GChoice.mk [] a1)]:=rfl
theorem qg (xs:List GChoice)(a1:List Int):[.own [],.own (ab eI a1)]::ab GChoice.encO xs=ab GChoice.encO ((GChoice.mk [] a1)::xs):=rfl
theorem qh (xs:List GChoice)(a0:List Int):ab GChoice.encO xs++[[.own (ab eI a0),.own []]]=ab GChoice.encO (xs++[(GChoice.mk a0 [])]):=ao (e:=GChoice.encO) xs (GChoice.mk a0 [])
theorem rj (a0:List Int):[[.own (ab eI a0),.own []]]=ab GChoice.encO [(GChoice.mk a0 [])]:=rfl
theorem qi (xs:List GChoice)(a0:List Int):[.own (ab eI a0),.own []]::ab GChoice.encO xs=ab GChoice.encO ((GChoice.mk a0 [])::xs):=rfl
theorem qj (xs:List GChoice)  : ab GChoice.encO xs++[[.own [],.own []]]=ab GChoice.encO (xs++[(GChoice.mk [] [])]):=ao (e:=GChoice.encO) xs (GChoice.mk [] [])
theorem rl  : [[.own [],.own []]]=ab GChoice.encO [(GChoice.mk [] [])]:=rfl
theorem qk (xs:List GChoice)  : [.own [],.own []]::ab GChoice.encO xs=ab GChoice.encO ((GChoice.mk [] [])::xs):=rfl
attribute[go_sem] GChoice.encO tf uQ uR uS tg uT th uU qf ri qg qh rj qi qj rl qk
structure aw where
 low:Int
 high:Int
 deriving DecidableEq
def aw.enc (x:aw):List AV:=[.lit (.int .i64 x.low),.lit (.int .i64 x.high)]
theorem rm (xs:List aw)(a0 a1:Int):ab aw.enc xs++[[.lit (.int .i64 a0),.lit (.int .i64 a1)]]=ab aw.enc (xs++[(aw.mk a0 a1)]):=ao (e:=aw.enc) xs (aw.mk a0 a1)
theorem ti (xs:List aw)(i:Nat)(a0 a1:Int):(ab aw.enc xs).set i [.lit (.int .i64 a0),.lit (.int .i64 a1)]=ab aw.enc (xs.set i (aw.mk a0 a1)):=aG (e:=aw.enc) xs i (aw.mk a0 a1)
theorem tj (xs:List aw):(ab aw.enc xs).all (fun r=>r.length == 2)=true:=aK (e:=aw.enc) (fun _=>rfl) xs
theorem tk (a0 a1:Int):[[.lit (.int .i64 a0),.lit (.int .i64 a1)]]=ab aw.enc [(aw.mk a0 a1)]:=rfl
theorem rn (xs:List aw)(a0 a1:Int):[.lit (.int .i64 a0),.lit (.int .i64 a1)]::ab aw.enc xs=ab aw.enc ((aw.mk a0 a1)::xs):=rfl
theorem tn (xs:List aw):frsR (ab aw.enc xs)=true:=bn (e:=aw.enc) (fun x=>by simp only[go_sem,aw.enc]) xs
theorem ro (xs:List aw):bl (ab aw.enc xs)=ab aw.enc xs:=aW (e:=aw.enc) (fun x=>by simp only[go_sem,cQ,toSl,aw.enc]) xs
theorem tp (n:Nat):List.replicate n [.lit (.int .i64 0),.lit (.int .i64 0)]=ab aw.enc (List.replicate n (aw.mk 0 0)):=aI (e:=aw.enc) n (aw.mk 0 0)
attribute[go_sem] aw.enc rm ti tj tk rn tn ro tp
structure GLink where
 from_:Int
 to:Int
 span:aw
 deriving DecidableEq
def GLink.enc (x:GLink):List AV:=[.lit (.int .i64 x.from_),.lit (.int .i64 x.to),.lit (.int .i64 x.span.low),.lit (.int .i64 x.span.high)]
theorem yR (xs:List GLink)(a0 a1 a2 a3:Int):ab GLink.enc xs++[[.lit (.int .i64 a0),.lit (.int .i64 a1),.lit (.int .i64 a2),.lit (.int .i64 a3)]]=ab GLink.enc (xs++[(GLink.mk a0 a1 (aw.mk a2 a3))]):=ao (e:=GLink.enc) xs (GLink.mk a0 a1 (aw.mk a2 a3))
theorem Ab (xs:List GLink)(i:Nat)(a0 a1 a2 a3:Int):(ab GLink.enc xs).set i [.lit (.int .i64 a0),.lit (.int .i64 a1),.lit (.int .i64 a2),.lit (.int .i64 a3)]=ab GLink.enc (xs.set i (GLink.mk a0 a1 (aw.mk a2 a3))):=aG (e:=GLink.enc) xs i (GLink.mk a0 a1 (aw.mk a2 a3))
theorem Ac (xs:List GLink):(ab GLink.enc xs).all (fun r=>r.length == 4)=true:=aK (e:=GLink.enc) (fun _=>rfl) xs
theorem Ad (a0 a1 a2 a3:Int):[[.lit (.int .i64 a0),.lit (.int .i64 a1),.lit (.int .i64 a2),.lit (.int .i64 a3)]]=ab GLink.enc [(GLink.mk a0 a1 (aw.mk a2 a3))]:=rfl
theorem yS (xs:List GLink)(a0 a1 a2 a3:Int):[.lit (.int .i64 a0),.lit (.int .i64 a1),.lit (.int .i64 a2),.lit (.int .i64 a3)]::ab GLink.enc xs=ab GLink.enc ((GLink.mk a0 a1 (aw.mk a2 a3))::xs):=rfl
theorem Ae (xs:List GLink):frsR (ab GLink.enc xs)=true:=bn (e:=GLink.enc) (fun x=>by simp only[go_sem,GLink.enc]) xs
theorem yT (xs:List GLink):bl (ab GLink.enc xs)=ab GLink.enc xs:=aW (e:=GLink.enc) (fun x=>by simp only[go_sem,cQ,toSl,GLink.enc]) xs
theorem Af (n:Nat):List.replicate n [.lit (.int .i64 0),.lit (.int .i64 0),.lit (.int .i64 0),.lit (.int .i64 0)]=ab GLink.enc (List.replicate n (GLink.mk 0 0 (aw.mk 0 0))):=aI (e:=GLink.enc) n (GLink.mk 0 0 (aw.mk 0 0))
attribute[go_sem] GLink.enc yR Ab Ac Ad yS Ae yT Af
structure GSimple where
 events:Int
 links:List GLink
 deriving DecidableEq
def GSimple.encS (x:GSimple):List AV:=[.lit (.int .i64 x.events),.sl (ab GLink.enc x.links)]
theorem tq (xs:List GSimple)(a0:Int)(a1:List GLink):ab GSimple.encS xs++[[.lit (.int .i64 a0),.sl (ab GLink.enc a1)]]=ab GSimple.encS (xs++[(GSimple.mk a0 a1)]):=ao (e:=GSimple.encS) xs (GSimple.mk a0 a1)
theorem uV (xs:List GSimple)(i:Nat)(a0:Int)(a1:List GLink):(ab GSimple.encS xs).set i [.lit (.int .i64 a0),.sl (ab GLink.enc a1)]=ab GSimple.encS (xs.set i (GSimple.mk a0 a1)):=aG (e:=GSimple.encS) xs i (GSimple.mk a0 a1)
theorem uW (xs:List GSimple):(ab GSimple.encS xs).all (fun r=>r.length == 2)=true:=aK (e:=GSimple.encS) (fun _=>rfl) xs
theorem uX (a0:Int)(a1:List GLink):[[.lit (.int .i64 a0),.sl (ab GLink.enc a1)]]=ab GSimple.encS [(GSimple.mk a0 a1)]:=rfl
theorem tu (xs:List GSimple)(a0:Int)(a1:List GLink):[.lit (.int .i64 a0),.sl (ab GLink.enc a1)]::ab GSimple.encS xs=ab GSimple.encS ((GSimple.mk a0 a1)::xs):=rfl
theorem ql (xs:List GSimple)(a0:Int):ab GSimple.encS xs++[[.lit (.int .i64 a0),.sl []]]=ab GSimple.encS (xs++[(GSimple.mk a0 [])]):=ao (e:=GSimple.encS) xs (GSimple.mk a0 [])
theorem rp (a0:Int):[[.lit (.int .i64 a0),.sl []]]=ab GSimple.encS [(GSimple.mk a0 [])]:=rfl
theorem qm (xs:List GSimple)(a0:Int):[.lit (.int .i64 a0),.sl []]::ab GSimple.encS xs=ab GSimple.encS ((GSimple.mk a0 [])::xs):=rfl
attribute[go_sem] GSimple.encS tq uV uW uX tu ql rp qm
def GSimple.encO (x:GSimple):List AV:=[.lit (.int .i64 x.events),.own (ab GLink.enc x.links)]
theorem tv (xs:List GSimple)(a0:Int)(a1:List GLink):ab GSimple.encO xs++[[.lit (.int .i64 a0),.own (ab GLink.enc a1)]]=ab GSimple.encO (xs++[(GSimple.mk a0 a1)]):=ao (e:=GSimple.encO) xs (GSimple.mk a0 a1)
theorem uY (xs:List GSimple)(i:Nat)(a0:Int)(a1:List GLink):(ab GSimple.encO xs).set i [.lit (.int .i64 a0),.own (ab GLink.enc a1)]=ab GSimple.encO (xs.set i (GSimple.mk a0 a1)):=aG (e:=GSimple.encO) xs i (GSimple.mk a0 a1)
theorem uZ (xs:List GSimple):(ab GSimple.encO xs).all (fun r=>r.length == 2)=true:=aK (e:=GSimple.encO) (fun _=>rfl) xs
theorem va (a0:Int)(a1:List GLink):[[.lit (.int .i64 a0),.own (ab GLink.enc a1)]]=ab GSimple.encO [(GSimple.mk a0 a1)]:=rfl
theorem tw (xs:List GSimple)(a0:Int)(a1:List GLink):[.lit (.int .i64 a0),.own (ab GLink.enc a1)]::ab GSimple.encO xs=ab GSimple.encO ((GSimple.mk a0 a1)::xs):=rfl
theorem vb (xs:List GSimple):frsR (ab GSimple.encO xs)=true:=bn (e:=GSimple.encO) (fun x=>by simp only[go_sem,GSimple.encO]) xs
theorem tx (xs:List GSimple):bl (ab GSimple.encO xs)=ab GSimple.encS xs:=aW (e:=GSimple.encO) (fun x=>by simp only[go_sem,cQ,toSl,GSimple.encO,GSimple.encS]) xs
theorem vc (n:Nat):List.replicate n [.lit (.int .i64 0),.own []]=ab GSimple.encO (List.replicate n (GSimple.mk 0 ([]))):=aI (e:=GSimple.encO) n (GSimple.mk 0 ([]))
theorem qn (xs:List GSimple)(a0:Int):ab GSimple.encO xs++[[.lit (.int .i64 a0),.own []]]=ab GSimple.encO (xs++[(GSimple.mk a0 [])]):=ao (e:=GSimple.encO) xs (GSimple.mk a0 [])
theorem rq (a0:Int):[[.lit (.int .i64 a0),.own []]]=ab GSimple.encO [(GSimple.mk a0 [])]:=rfl
theorem qo (xs:List GSimple)(a0:Int):[.lit (.int .i64 a0),.own []]::ab GSimple.encO xs=ab GSimple.encO ((GSimple.mk a0 [])::xs):=rfl
attribute[go_sem] GSimple.encO tv uY uZ va tw vb tx vc qn rq qo
structure GEdge where
 from_:Int
 to:Int
 weight:Int
 deriving DecidableEq
def GEdge.enc (x:GEdge):List AV:=[.lit (.int .i64 x.from_),.lit (.int .i64 x.to),.lit (.int .i64 x.weight)]
theorem yU (xs:List GEdge)(a0 a1 a2:Int):ab GEdge.enc xs++[[.lit (.int .i64 a0),.lit (.int .i64 a1),.lit (.int .i64 a2)]]=ab GEdge.enc (xs++[(GEdge.mk a0 a1 a2)]):=ao (e:=GEdge.enc) xs (GEdge.mk a0 a1 a2)
theorem Ag (xs:List GEdge)(i:Nat)(a0 a1 a2:Int):(ab GEdge.enc xs).set i [.lit (.int .i64 a0),.lit (.int .i64 a1),.lit (.int .i64 a2)]=ab GEdge.enc (xs.set i (GEdge.mk a0 a1 a2)):=aG (e:=GEdge.enc) xs i (GEdge.mk a0 a1 a2)
theorem Ah (xs:List GEdge):(ab GEdge.enc xs).all (fun r=>r.length == 3)=true:=aK (e:=GEdge.enc) (fun _=>rfl) xs
theorem Ai (a0 a1 a2:Int):[[.lit (.int .i64 a0),.lit (.int .i64 a1),.lit (.int .i64 a2)]]=ab GEdge.enc [(GEdge.mk a0 a1 a2)]:=rfl
theorem yV (xs:List GEdge)(a0 a1 a2:Int):[.lit (.int .i64 a0),.lit (.int .i64 a1),.lit (.int .i64 a2)]::ab GEdge.enc xs=ab GEdge.enc ((GEdge.mk a0 a1 a2)::xs):=rfl
theorem Aj (xs:List GEdge):frsR (ab GEdge.enc xs)=true:=bn (e:=GEdge.enc) (fun x=>by simp only[go_sem,GEdge.enc]) xs
theorem yW (xs:List GEdge):bl (ab GEdge.enc xs)=ab GEdge.enc xs:=aW (e:=GEdge.enc) (fun x=>by simp only[go_sem,cQ,toSl,GEdge.enc]) xs
theorem Ak (n:Nat):List.replicate n [.lit (.int .i64 0),.lit (.int .i64 0),.lit (.int .i64 0)]=ab GEdge.enc (List.replicate n (GEdge.mk 0 0 0)):=aI (e:=GEdge.enc) n (GEdge.mk 0 0 0)
attribute[go_sem] GEdge.enc yU Ag Ah Ai yV Aj yW Ak
structure GGraph where
 nodes:Int
 edges:List GEdge
 deriving DecidableEq
def GGraph.encS (x:GGraph):List AV:=[.lit (.int .i64 x.nodes),.sl (ab GEdge.enc x.edges)]
theorem vd (xs:List GGraph)(a0:Int)(a1:List GEdge):ab GGraph.encS xs++[[.lit (.int .i64 a0),.sl (ab GEdge.enc a1)]]=ab GGraph.encS (xs++[(GGraph.mk a0 a1)]):=ao (e:=GGraph.encS) xs (GGraph.mk a0 a1)
theorem xl (xs:List GGraph)(i:Nat)(a0:Int)(a1:List GEdge):(ab GGraph.encS xs).set i [.lit (.int .i64 a0),.sl (ab GEdge.enc a1)]=ab GGraph.encS (xs.set i (GGraph.mk a0 a1)):=aG (e:=GGraph.encS) xs i (GGraph.mk a0 a1)
theorem xm (xs:List GGraph):(ab GGraph.encS xs).all (fun r=>r.length == 2)=true:=aK (e:=GGraph.encS) (fun _=>rfl) xs
theorem xn (a0:Int)(a1:List GEdge):[[.lit (.int .i64 a0),.sl (ab GEdge.enc a1)]]=ab GGraph.encS [(GGraph.mk a0 a1)]:=rfl
theorem ve (xs:List GGraph)(a0:Int)(a1:List GEdge):[.lit (.int .i64 a0),.sl (ab GEdge.enc a1)]::ab GGraph.encS xs=ab GGraph.encS ((GGraph.mk a0 a1)::xs):=rfl
theorem rr (xs:List GGraph)(a0:Int):ab GGraph.encS xs++[[.lit (.int .i64 a0),.sl []]]=ab GGraph.encS (xs++[(GGraph.mk a0 [])]):=ao (e:=GGraph.encS) xs (GGraph.mk a0 [])
theorem tz (a0:Int):[[.lit (.int .i64 a0),.sl []]]=ab GGraph.encS [(GGraph.mk a0 [])]:=rfl
theorem rt (xs:List GGraph)(a0:Int):[.lit (.int .i64 a0),.sl []]::ab GGraph.encS xs=ab GGraph.encS ((GGraph.mk a0 [])::xs):=rfl
attribute[go_sem] GGraph.encS vd xl xm xn ve rr tz rt
def GGraph.encO (x:GGraph):List AV:=[.lit (.int .i64 x.nodes),.own (ab GEdge.enc x.edges)]
theorem vf (xs:List GGraph)(a0:Int)(a1:List GEdge):ab GGraph.encO xs++[[.lit (.int .i64 a0),.own (ab GEdge.enc a1)]]=ab GGraph.encO (xs++[(GGraph.mk a0 a1)]):=ao (e:=GGraph.encO) xs (GGraph.mk a0 a1)
theorem xo (xs:List GGraph)(i:Nat)(a0:Int)(a1:List GEdge):(ab GGraph.encO xs).set i [.lit (.int .i64 a0),.own (ab GEdge.enc a1)]=ab GGraph.encO (xs.set i (GGraph.mk a0 a1)):=aG (e:=GGraph.encO) xs i (GGraph.mk a0 a1)
theorem xp (xs:List GGraph):(ab GGraph.encO xs).all (fun r=>r.length == 2)=true:=aK (e:=GGraph.encO) (fun _=>rfl) xs
theorem xq (a0:Int)(a1:List GEdge):[[.lit (.int .i64 a0),.own (ab GEdge.enc a1)]]=ab GGraph.encO [(GGraph.mk a0 a1)]:=rfl
theorem vg (xs:List GGraph)(a0:Int)(a1:List GEdge):[.lit (.int .i64 a0),.own (ab GEdge.enc a1)]::ab GGraph.encO xs=ab GGraph.encO ((GGraph.mk a0 a1)::xs):=rfl
theorem xr (xs:List GGraph):frsR (ab GGraph.encO xs)=true:=bn (e:=GGraph.encO) (fun x=>by simp only[go_sem,GGraph.encO]) xs
theorem vh (xs:List GGraph):bl (ab GGraph.encO xs)=ab GGraph.encS xs:=aW (e:=GGraph.encO) (fun x=>by simp only[go_sem,cQ,toSl,GGraph.encO,GGraph.encS]) xs
theorem xt (n:Nat):List.replicate n [.lit (.int .i64 0),.own []]=ab GGraph.encO (List.replicate n (GGraph.mk 0 ([]))):=aI (e:=GGraph.encO) n (GGraph.mk 0 ([]))
theorem ru (xs:List GGraph)(a0:Int):ab GGraph.encO xs++[[.lit (.int .i64 a0),.own []]]=ab GGraph.encO (xs++[(GGraph.mk a0 [])]):=ao (e:=GGraph.encO) xs (GGraph.mk a0 [])
theorem tA (a0:Int):[[.lit (.int .i64 a0),.own []]]=ab GGraph.encO [(GGraph.mk a0 [])]:=rfl
theorem rv (xs:List GGraph)(a0:Int):[.lit (.int .i64 a0),.own []]::ab GGraph.encO xs=ab GGraph.encO ((GGraph.mk a0 [])::xs):=rfl
attribute[go_sem] GGraph.encO vf xo xp xq vg xr vh xt ru tA rv
structure az where
 size:Int
 cells:List Int
 deriving DecidableEq
def az.encS (x:az):List AV:=[.lit (.int .i64 x.size),.sl (ab eI x.cells)]
theorem vi (xs:List az)(a0:Int)(a1:List Int):ab az.encS xs++[[.lit (.int .i64 a0),.sl (ab eI a1)]]=ab az.encS (xs++[(az.mk a0 a1)]):=ao (e:=az.encS) xs (az.mk a0 a1)
theorem xu (xs:List az)(i:Nat)(a0:Int)(a1:List Int):(ab az.encS xs).set i [.lit (.int .i64 a0),.sl (ab eI a1)]=ab az.encS (xs.set i (az.mk a0 a1)):=aG (e:=az.encS) xs i (az.mk a0 a1)
theorem xv (xs:List az):(ab az.encS xs).all (fun r=>r.length == 2)=true:=aK (e:=az.encS) (fun _=>rfl) xs
theorem xw (a0:Int)(a1:List Int):[[.lit (.int .i64 a0),.sl (ab eI a1)]]=ab az.encS [(az.mk a0 a1)]:=rfl
theorem vj (xs:List az)(a0:Int)(a1:List Int):[.lit (.int .i64 a0),.sl (ab eI a1)]::ab az.encS xs=ab az.encS ((az.mk a0 a1)::xs):=rfl
theorem rx (xs:List az)(a0:Int):ab az.encS xs++[[.lit (.int .i64 a0),.sl []]]=ab az.encS (xs++[(az.mk a0 [])]):=ao (e:=az.encS) xs (az.mk a0 [])
theorem tB (a0:Int):[[.lit (.int .i64 a0),.sl []]]=ab az.encS [(az.mk a0 [])]:=rfl
theorem ry (xs:List az)(a0:Int):[.lit (.int .i64 a0),.sl []]::ab az.encS xs=ab az.encS ((az.mk a0 [])::xs):=rfl
attribute[go_sem] az.encS vi xu xv xw vj rx tB ry
def az.encO (x:az):List AV:=[.lit (.int .i64 x.size),.own (ab eI x.cells)]
theorem vk (xs:List az)(a0:Int)(a1:List Int):ab az.encO xs++[[.lit (.int .i64 a0),.own (ab eI a1)]]=ab az.encO (xs++[(az.mk a0 a1)]):=ao (e:=az.encO) xs (az.mk a0 a1)
theorem xx (xs:List az)(i:Nat)(a0:Int)(a1:List Int):(ab az.encO xs).set i [.lit (.int .i64 a0),.own (ab eI a1)]=ab az.encO (xs.set i (az.mk a0 a1)):=aG (e:=az.encO) xs i (az.mk a0 a1)
theorem xy (xs:List az):(ab az.encO xs).all (fun r=>r.length == 2)=true:=aK (e:=az.encO) (fun _=>rfl) xs
theorem xz (a0:Int)(a1:List Int):[[.lit (.int .i64 a0),.own (ab eI a1)]]=ab az.encO [(az.mk a0 a1)]:=rfl
theorem vl (xs:List az)(a0:Int)(a1:List Int):[.lit (.int .i64 a0),.own (ab eI a1)]::ab az.encO xs=ab az.encO ((az.mk a0 a1)::xs):=rfl
theorem xA (xs:List az):frsR (ab az.encO xs)=true:=bn (e:=az.encO) (fun x=>by simp only[go_sem,az.encO]) xs
theorem vm (xs:List az):bl (ab az.encO xs)=ab az.encS xs:=aW (e:=az.encO) (fun x=>by simp only[go_sem,cQ,toSl,az.encO,az.encS]) xs
theorem xB (n:Nat):List.replicate n [.lit (.int .i64 0),.own []]=ab az.encO (List.replicate n (az.mk 0 ([]))):=aI (e:=az.encO) n (az.mk 0 ([]))
theorem rz (xs:List az)(a0:Int):ab az.encO xs++[[.lit (.int .i64 a0),.own []]]=ab az.encO (xs++[(az.mk a0 [])]):=ao (e:=az.encO) xs (az.mk a0 [])
theorem tC (a0:Int):[[.lit (.int .i64 a0),.own []]]=ab az.encO [(az.mk a0 [])]:=rfl
theorem rA (xs:List az)(a0:Int):[.lit (.int .i64 a0),.own []]::ab az.encO xs=ab az.encO ((az.mk a0 [])::xs):=rfl
attribute[go_sem] az.encO vk xx xy xz vl xA vm xB rz tC rA
structure GL01Cur where
 b:List Int
 i:Int
 h:Int
 deriving DecidableEq
def GL01Cur.encS (x:GL01Cur):List AV:=[.sl (ab (eK .u8) x.b),.lit (.int .i64 x.i),.lit (.int .i64 x.h)]
theorem tD (xs:List GL01Cur)(a0:List Int)(a1 a2:Int):ab GL01Cur.encS xs++[[.sl (ab (eK .u8) a0),.lit (.int .i64 a1),.lit (.int .i64 a2)]]=ab GL01Cur.encS (xs++[(GL01Cur.mk a0 a1 a2)]):=ao (e:=GL01Cur.encS) xs (GL01Cur.mk a0 a1 a2)
theorem vn (xs:List GL01Cur)(i:Nat)(a0:List Int)(a1 a2:Int):(ab GL01Cur.encS xs).set i [.sl (ab (eK .u8) a0),.lit (.int .i64 a1),.lit (.int .i64 a2)]=ab GL01Cur.encS (xs.set i (GL01Cur.mk a0 a1 a2)):=aG (e:=GL01Cur.encS) xs i (GL01Cur.mk a0 a1 a2)
theorem vp (xs:List GL01Cur):(ab GL01Cur.encS xs).all (fun r=>r.length == 3)=true:=aK (e:=GL01Cur.encS) (fun _=>rfl) xs
theorem vq (a0:List Int)(a1 a2:Int):[[.sl (ab (eK .u8) a0),.lit (.int .i64 a1),.lit (.int .i64 a2)]]=ab GL01Cur.encS [(GL01Cur.mk a0 a1 a2)]:=rfl
theorem tE (xs:List GL01Cur)(a0:List Int)(a1 a2:Int):[.sl (ab (eK .u8) a0),.lit (.int .i64 a1),.lit (.int .i64 a2)]::ab GL01Cur.encS xs=ab GL01Cur.encS ((GL01Cur.mk a0 a1 a2)::xs):=rfl
theorem qp (xs:List GL01Cur)(a1 a2:Int):ab GL01Cur.encS xs++[[.sl [],.lit (.int .i64 a1),.lit (.int .i64 a2)]]=ab GL01Cur.encS (xs++[(GL01Cur.mk [] a1 a2)]):=ao (e:=GL01Cur.encS) xs (GL01Cur.mk [] a1 a2)
theorem rB (a1 a2:Int):[[.sl [],.lit (.int .i64 a1),.lit (.int .i64 a2)]]=ab GL01Cur.encS [(GL01Cur.mk [] a1 a2)]:=rfl
theorem qq (xs:List GL01Cur)(a1 a2:Int):[.sl [],.lit (.int .i64 a1),.lit (.int .i64 a2)]::ab GL01Cur.encS xs=ab GL01Cur.encS ((GL01Cur.mk [] a1 a2)::xs):=rfl
attribute[go_sem] GL01Cur.encS tD vn vp vq tE qp rB qq
def GL01Cur.encO (x:GL01Cur):List AV:=[.own (ab (eK .u8) x.b),.lit (.int .i64 x.i),.lit (.int .i64 x.h)]
theorem tF (xs:List GL01Cur)(a0:List Int)(a1 a2:Int):ab GL01Cur.encO xs++[[.own (ab (eK .u8) a0),.lit (.int .i64 a1),.lit (.int .i64 a2)]]=ab GL01Cur.encO (xs++[(GL01Cur.mk a0 a1 a2)]):=ao (e:=GL01Cur.encO) xs (GL01Cur.mk a0 a1 a2)
theorem vt (xs:List GL01Cur)(i:Nat)(a0:List Int)(a1 a2:Int):(ab GL01Cur.encO xs).set i [.own (ab (eK .u8) a0),.lit (.int .i64 a1),.lit (.int .i64 a2)]=ab GL01Cur.encO (xs.set i (GL01Cur.mk a0 a1 a2)):=aG (e:=GL01Cur.encO) xs i (GL01Cur.mk a0 a1 a2)
theorem vu (xs:List GL01Cur):(ab GL01Cur.encO xs).all (fun r=>r.length == 3)=true:=aK (e:=GL01Cur.encO) (fun _=>rfl) xs
theorem vw (a0:List Int)(a1 a2:Int):[[.own (ab (eK .u8) a0),.lit (.int .i64 a1),.lit (.int .i64 a2)]]=ab GL01Cur.encO [(GL01Cur.mk a0 a1 a2)]:=rfl
theorem tG (xs:List GL01Cur)(a0:List Int)(a1 a2:Int):[.own (ab (eK .u8) a0),.lit (.int .i64 a1),.lit (.int .i64 a2)]::ab GL01Cur.encO xs=ab GL01Cur.encO ((GL01Cur.mk a0 a1 a2)::xs):=rfl
theorem vx (xs:List GL01Cur):frsR (ab GL01Cur.encO xs)=true:=bn (e:=GL01Cur.encO) (fun x=>by simp only[go_sem,GL01Cur.encO]) xs
theorem tH (xs:List GL01Cur):bl (ab GL01Cur.encO xs)=ab GL01Cur.encS xs:=aW (e:=GL01Cur.encO) (fun x=>by simp only[go_sem,cQ,toSl,GL01Cur.encO,GL01Cur.encS]) xs
theorem vy (n:Nat):List.replicate n [.own [],.lit (.int .i64 0),.lit (.int .i64 0)]=ab GL01Cur.encO (List.replicate n (GL01Cur.mk ([]) 0 0)):=aI (e:=GL01Cur.encO) n (GL01Cur.mk ([]) 0 0)
theorem qr (xs:List GL01Cur)(a1 a2:Int):ab GL01Cur.encO xs++[[.own [],.lit (.int .i64 a1),.lit (.int .i64 a2)]]=ab GL01Cur.encO (xs++[(GL01Cur.mk [] a1 a2)]):=ao (e:=GL01Cur.encO) xs (GL01Cur.mk [] a1 a2)
theorem rC (a1 a2:Int):[[.own [],.lit (.int .i64 a1),.lit (.int .i64 a2)]]=ab GL01Cur.encO [(GL01Cur.mk [] a1 a2)]:=rfl
theorem qt (xs:List GL01Cur)(a1 a2:Int):[.own [],.lit (.int .i64 a1),.lit (.int .i64 a2)]::ab GL01Cur.encO xs=ab GL01Cur.encO ((GL01Cur.mk [] a1 a2)::xs):=rfl
attribute[go_sem] GL01Cur.encO tF vt vu vw tG vx tH vy qr rC qt
structure aj where
 now:Int
 times:List Int
 values:List Int
 deriving DecidableEq
def aj.encS (x:aj):List AV:=[.lit (.int .i64 x.now),.sl (ab eI x.times),.sl (ab eI x.values)]
theorem vz (xs:List aj)(a0:Int)(a1 a2:List Int):ab aj.encS xs++[[.lit (.int .i64 a0),.sl (ab eI a1),.sl (ab eI a2)]]=ab aj.encS (xs++[(aj.mk a0 a1 a2)]):=ao (e:=aj.encS) xs (aj.mk a0 a1 a2)
theorem xC (xs:List aj)(i:Nat)(a0:Int)(a1 a2:List Int):(ab aj.encS xs).set i [.lit (.int .i64 a0),.sl (ab eI a1),.sl (ab eI a2)]=ab aj.encS (xs.set i (aj.mk a0 a1 a2)):=aG (e:=aj.encS) xs i (aj.mk a0 a1 a2)
theorem xD (xs:List aj):(ab aj.encS xs).all (fun r=>r.length == 3)=true:=aK (e:=aj.encS) (fun _=>rfl) xs
theorem xE (a0:Int)(a1 a2:List Int):[[.lit (.int .i64 a0),.sl (ab eI a1),.sl (ab eI a2)]]=ab aj.encS [(aj.mk a0 a1 a2)]:=rfl
theorem vA (xs:List aj)(a0:Int)(a1 a2:List Int):[.lit (.int .i64 a0),.sl (ab eI a1),.sl (ab eI a2)]::ab aj.encS xs=ab aj.encS ((aj.mk a0 a1 a2)::xs):=rfl
theorem rD (xs:List aj)(a0:Int)(a2:List Int):ab aj.encS xs++[[.lit (.int .i64 a0),.sl [],.sl (ab eI a2)]]=ab aj.encS (xs++[(aj.mk a0 [] a2)]):=ao (e:=aj.encS) xs (aj.mk a0 [] a2)
theorem tI (a0:Int)(a2:List Int):[[.lit (.int .i64 a0),.sl [],.sl (ab eI a2)]]=ab aj.encS [(aj.mk a0 [] a2)]:=rfl
theorem rE (xs:List aj)(a0:Int)(a2:List Int):[.lit (.int .i64 a0),.sl [],.sl (ab eI a2)]::ab aj.encS xs=ab aj.encS ((aj.mk a0 [] a2)::xs):=rfl
theorem rG (xs:List aj)(a0:Int)(a1:List Int):ab aj.encS xs++[[.lit (.int .i64 a0),.sl (ab eI a1),.sl []]]=ab aj.encS (xs++[(aj.mk a0 a1 [])]):=ao (e:=aj.encS) xs (aj.mk a0 a1 [])
theorem tJ (a0:Int)(a1:List Int):[[.lit (.int .i64 a0),.sl (ab eI a1),.sl []]]=ab aj.encS [(aj.mk a0 a1 [])]:=rfl
theorem rH (xs:List aj)(a0:Int)(a1:List Int):[.lit (.int .i64 a0),.sl (ab eI a1),.sl []]::ab aj.encS xs=ab aj.encS ((aj.mk a0 a1 [])::xs):=rfl
theorem rI (xs:List aj)(a0:Int):ab aj.encS xs++[[.lit (.int .i64 a0),.sl [],.sl []]]=ab aj.encS (xs++[(aj.mk a0 [] [])]):=ao (e:=aj.encS) xs (aj.mk a0 [] [])
theorem tK (a0:Int):[[.lit (.int .i64 a0),.sl [],.sl []]]=ab aj.encS [(aj.mk a0 [] [])]:=rfl
theorem rJ (xs:List aj)(a0:Int):[.lit (.int .i64 a0),.sl [],.sl []]::ab aj.encS xs=ab aj.encS ((aj.mk a0 [] [])::xs):=rfl
attribute[go_sem] aj.encS vz xC xD xE vA rD tI rE rG tJ rH rI tK rJ
def aj.encO (x:aj):List AV:=[.lit (.int .i64 x.now),.own (ab eI x.times),.own (ab eI x.values)]
theorem vB (xs:List aj)(a0:Int)(a1 a2:List Int):ab aj.encO xs++[[.lit (.int .i64 a0),.own (ab eI a1),.own (ab eI a2)]]=ab aj.encO (xs++[(aj.mk a0 a1 a2)]):=ao (e:=aj.encO) xs (aj.mk a0 a1 a2)
theorem xF (xs:List aj)(i:Nat)(a0:Int)(a1 a2:List Int):(ab aj.encO xs).set i [.lit (.int .i64 a0),.own (ab eI a1),.own (ab eI a2)]=ab aj.encO (xs.set i (aj.mk a0 a1 a2)):=aG (e:=aj.encO) xs i (aj.mk a0 a1 a2)
theorem xG (xs:List aj):(ab aj.encO xs).all (fun r=>r.length == 3)=true:=aK (e:=aj.encO) (fun _=>rfl) xs
theorem xH (a0:Int)(a1 a2:List Int):[[.lit (.int .i64 a0),.own (ab eI a1),.own (ab eI a2)]]=ab aj.encO [(aj.mk a0 a1 a2)]:=rfl
theorem vC (xs:List aj)(a0:Int)(a1 a2:List Int):[.lit (.int .i64 a0),.own (ab eI a1),.own (ab eI a2)]::ab aj.encO xs=ab aj.encO ((aj.mk a0 a1 a2)::xs):=rfl
theorem xI (xs:List aj):frsR (ab aj.encO xs)=true:=bn (e:=aj.encO) (fun x=>by simp only[go_sem,aj.encO]) xs
theorem vD (xs:List aj):bl (ab aj.encO xs)=ab aj.encS xs:=aW (e:=aj.encO) (fun x=>by simp only[go_sem,cQ,toSl,aj.encO,aj.encS]) xs
theorem xJ (n:Nat):List.replicate n [.lit (.int .i64 0),.own [],.own []]=ab aj.encO (List.replicate n (aj.mk 0 ([]) ([]))):=aI (e:=aj.encO) n (aj.mk 0 ([]) ([]))
theorem rK (xs:List aj)(a0:Int)(a2:List Int):ab aj.encO xs++[[.lit (.int .i64 a0),.own [],.own (ab eI a2)]]=ab aj.encO (xs++[(aj.mk a0 [] a2)]):=ao (e:=aj.encO) xs (aj.mk a0 [] a2)
theorem tL (a0:Int)(a2:List Int):[[.lit (.int .i64 a0),.own [],.own (ab eI a2)]]=ab aj.encO [(aj.mk a0 [] a2)]:=rfl
theorem rL (xs:List aj)(a0:Int)(a2:List Int):[.lit (.int .i64 a0),.own [],.own (ab eI a2)]::ab aj.encO xs=ab aj.encO ((aj.mk a0 [] a2)::xs):=rfl
theorem rM (xs:List aj)(a0:Int)(a1:List Int):ab aj.encO xs++[[.lit (.int .i64 a0),.own (ab eI a1),.own []]]=ab aj.encO (xs++[(aj.mk a0 a1 [])]):=ao (e:=aj.encO) xs (aj.mk a0 a1 [])
theorem tM (a0:Int)(a1:List Int):[[.lit (.int .i64 a0),.own (ab eI a1),.own []]]=ab aj.encO [(aj.mk a0 a1 [])]:=rfl
theorem rN (xs:List aj)(a0:Int)(a1:List Int):[.lit (.int .i64 a0),.own (ab eI a1),.own []]::ab aj.encO xs=ab aj.encO ((aj.mk a0 a1 [])::xs):=rfl
theorem rO (xs:List aj)(a0:Int):ab aj.encO xs++[[.lit (.int .i64 a0),.own [],.own []]]=ab aj.encO (xs++[(aj.mk a0 [] [])]):=ao (e:=aj.encO) xs (aj.mk a0 [] [])
theorem tN (a0:Int):[[.lit (.int .i64 a0),.own [],.own []]]=ab aj.encO [(aj.mk a0 [] [])]:=rfl
theorem rP (xs:List aj)(a0:Int):[.lit (.int .i64 a0),.own [],.own []]::ab aj.encO xs=ab aj.encO ((aj.mk a0 [] [])::xs):=rfl
attribute[go_sem] aj.encO vB xF xG xH vC xI vD xJ rK tL rL rM tM rN rO tN rP
structure aC where
 now:Int
 ties:List Int
 nodes:List Int
 values:List Int
 deriving DecidableEq
def aC.encS (x:aC):List AV:=[.lit (.int .i64 x.now),.sl (ab eI x.ties),.sl (ab eI x.nodes),.sl (ab eI x.values)]
theorem vE (xs:List aC)(a0:Int)(a1 a2 a3:List Int):ab aC.encS xs++[[.lit (.int .i64 a0),.sl (ab eI a1),.sl (ab eI a2),.sl (ab eI a3)]]=ab aC.encS (xs++[(aC.mk a0 a1 a2 a3)]):=ao (e:=aC.encS) xs (aC.mk a0 a1 a2 a3)
theorem xK (xs:List aC)(i:Nat)(a0:Int)(a1 a2 a3:List Int):(ab aC.encS xs).set i [.lit (.int .i64 a0),.sl (ab eI a1),.sl (ab eI a2),.sl (ab eI a3)]=ab aC.encS (xs.set i (aC.mk a0 a1 a2 a3)):=aG (e:=aC.encS) xs i (aC.mk a0 a1 a2 a3)
theorem xL (xs:List aC):(ab aC.encS xs).all (fun r=>r.length == 4)=true:=aK (e:=aC.encS) (fun _=>rfl) xs
theorem xM (a0:Int)(a1 a2 a3:List Int):[[.lit (.int .i64 a0),.sl (ab eI a1),.sl (ab eI a2),.sl (ab eI a3)]]=ab aC.encS [(aC.mk a0 a1 a2 a3)]:=rfl
theorem vF (xs:List aC)(a0:Int)(a1 a2 a3:List Int):[.lit (.int .i64 a0),.sl (ab eI a1),.sl (ab eI a2),.sl (ab eI a3)]::ab aC.encS xs=ab aC.encS ((aC.mk a0 a1 a2 a3)::xs):=rfl
attribute[go_sem] aC.encS vE xK xL xM vF
def aC.encO (x:aC):List AV:=[.lit (.int .i64 x.now),.own (ab eI x.ties),.own (ab eI x.nodes),.own (ab eI x.values)]
theorem vG (xs:List aC)(a0:Int)(a1 a2 a3:List Int):ab aC.encO xs++[[.lit (.int .i64 a0),.own (ab eI a1),.own (ab eI a2),.own (ab eI a3)]]=ab aC.encO (xs++[(aC.mk a0 a1 a2 a3)]):=ao (e:=aC.encO) xs (aC.mk a0 a1 a2 a3)
theorem xN (xs:List aC)(i:Nat)(a0:Int)(a1 a2 a3:List Int):(ab aC.encO xs).set i [.lit (.int .i64 a0),.own (ab eI a1),.own (ab eI a2),.own (ab eI a3)]=ab aC.encO (xs.set i (aC.mk a0 a1 a2 a3)):=aG (e:=aC.encO) xs i (aC.mk a0 a1 a2 a3)
theorem xO (xs:List aC):(ab aC.encO xs).all (fun r=>r.length == 4)=true:=aK (e:=aC.encO) (fun _=>rfl) xs
theorem xP (a0:Int)(a1 a2 a3:List Int):[[.lit (.int .i64 a0),.own (ab eI a1),.own (ab eI a2),.own (ab eI a3)]]=ab aC.encO [(aC.mk a0 a1 a2 a3)]:=rfl
theorem vH (xs:List aC)(a0:Int)(a1 a2 a3:List Int):[.lit (.int .i64 a0),.own (ab eI a1),.own (ab eI a2),.own (ab eI a3)]::ab aC.encO xs=ab aC.encO ((aC.mk a0 a1 a2 a3)::xs):=rfl
theorem xQ (xs:List aC):frsR (ab aC.encO xs)=true:=bn (e:=aC.encO) (fun x=>by simp only[go_sem,aC.encO]) xs
theorem vI (xs:List aC):bl (ab aC.encO xs)=ab aC.encS xs:=aW (e:=aC.encO) (fun x=>by simp only[go_sem,cQ,toSl,aC.encO,aC.encS]) xs
theorem xR (n:Nat):List.replicate n [.lit (.int .i64 0),.own [],.own [],.own []]=ab aC.encO (List.replicate n (aC.mk 0 ([]) ([]) ([]))):=aI (e:=aC.encO) n (aC.mk 0 ([]) ([]) ([]))
attribute[go_sem] aC.encO vG xN xO xP vH xQ vI xR
structure aN where
 show_:GShow
 state:aj
 lazy:Bool
 log:List aC
 deriving DecidableEq
def aN.encS (x:aN):List AV:=[.sl (ab GNode.encS x.show_.nodes),.sl (ab GTie.enc x.show_.ties),.lit (.int .i64 x.show_.horizon),.lit (.int .i64 x.state.now),.sl (ab eI x.state.times),.sl (ab eI x.state.values),.lit (.bool x.lazy),.sl (ab aC.encS x.log)]
theorem xS (xs:List aN)(a0:List GNode)(a1:List GTie)(a2 a3:Int)(a4 a5:List Int)(a6:Bool)(a7:List aC):ab aN.encS xs++[[.sl (ab GNode.encS a0),.sl (ab GTie.enc a1),.lit (.int .i64 a2),.lit (.int .i64 a3),.sl (ab eI a4),.sl (ab eI a5),.lit (.bool a6),.sl (ab aC.encS a7)]]=ab aN.encS (xs++[(aN.mk (GShow.mk a0 a1 a2) (aj.mk a3 a4 a5) a6 a7)]):=ao (e:=aN.encS) xs (aN.mk (GShow.mk a0 a1 a2) (aj.mk a3 a4 a5) a6 a7)
theorem yX (xs:List aN)(i:Nat)(a0:List GNode)(a1:List GTie)(a2 a3:Int)(a4 a5:List Int)(a6:Bool)(a7:List aC):(ab aN.encS xs).set i [.sl (ab GNode.encS a0),.sl (ab GTie.enc a1),.lit (.int .i64 a2),.lit (.int .i64 a3),.sl (ab eI a4),.sl (ab eI a5),.lit (.bool a6),.sl (ab aC.encS a7)]=ab aN.encS (xs.set i (aN.mk (GShow.mk a0 a1 a2) (aj.mk a3 a4 a5) a6 a7)):=aG (e:=aN.encS) xs i (aN.mk (GShow.mk a0 a1 a2) (aj.mk a3 a4 a5) a6 a7)
theorem yY (xs:List aN):(ab aN.encS xs).all (fun r=>r.length == 8)=true:=aK (e:=aN.encS) (fun _=>rfl) xs
theorem yZ (a0:List GNode)(a1:List GTie)(a2 a3:Int)(a4 a5:List Int)(a6:Bool)(a7:List aC):[[.sl (ab GNode.encS a0),.sl (ab GTie.enc a1),.lit (.int .i64 a2),.lit (.int .i64 a3),.sl (ab eI a4),.sl (ab eI a5),.lit (.bool a6),.sl (ab aC.encS a7)]]=ab aN.encS [(aN.mk (GShow.mk a0 a1 a2) (aj.mk a3 a4 a5) a6 a7)]:=rfl
theorem xT (xs:List aN)(a0:List GNode)(a1:List GTie)(a2 a3:Int)(a4 a5:List Int)(a6:Bool)(a7:List aC):[.sl (ab GNode.encS a0),.sl (ab GTie.enc a1),.lit (.int .i64 a2),.lit (.int .i64 a3),.sl (ab eI a4),.sl (ab eI a5),.lit (.bool a6),.sl (ab aC.encS a7)]::ab aN.encS xs=ab aN.encS ((aN.mk (GShow.mk a0 a1 a2) (aj.mk a3 a4 a5) a6 a7)::xs):=rfl
attribute[go_sem] aN.encS xS yX yY yZ xT
def aN.encO (x:aN):List AV:=[.own (ab GNode.encO x.show_.nodes),.own (ab GTie.enc x.show_.ties),.lit (.int .i64 x.show_.horizon),.lit (.int .i64 x.state.now),.own (ab eI x.state.times),.own (ab eI x.state.values),.lit (.bool x.lazy),.own (ab aC.encO x.log)]
theorem xU (xs:List aN)(a0:List GNode)(a1:List GTie)(a2 a3:Int)(a4 a5:List Int)(a6:Bool)(a7:List aC):ab aN.encO xs++[[.own (ab GNode.encO a0),.own (ab GTie.enc a1),.lit (.int .i64 a2),.lit (.int .i64 a3),.own (ab eI a4),.own (ab eI a5),.lit (.bool a6),.own (ab aC.encO a7)]]=ab aN.encO (xs++[(aN.mk (GShow.mk a0 a1 a2) (aj.mk a3 a4 a5) a6 a7)]):=ao (e:=aN.encO) xs (aN.mk (GShow.mk a0 a1 a2) (aj.mk a3 a4 a5) a6 a7)
theorem za (xs:List aN)(i:Nat)(a0:List GNode)(a1:List GTie)(a2 a3:Int)(a4 a5:List Int)(a6:Bool)(a7:List aC):(ab aN.encO xs).set i [.own (ab GNode.encO a0),.own (ab GTie.enc a1),.lit (.int .i64 a2),.lit (.int .i64 a3),.own (ab eI a4),.own (ab eI a5),.lit (.bool a6),.own (ab aC.encO a7)]=ab aN.encO (xs.set i (aN.mk (GShow.mk a0 a1 a2) (aj.mk a3 a4 a5) a6 a7)):=aG (e:=aN.encO) xs i (aN.mk (GShow.mk a0 a1 a2) (aj.mk a3 a4 a5) a6 a7)
theorem zb (xs:List aN):(ab aN.encO xs).all (fun r=>r.length == 8)=true:=aK (e:=aN.encO) (fun _=>rfl) xs
theorem zd (a0:List GNode)(a1:List GTie)(a2 a3:Int)(a4 a5:List Int)(a6:Bool)(a7:List aC):[[.own (ab GNode.encO a0),.own (ab GTie.enc a1),.lit (.int .i64 a2),.lit (.int .i64 a3),.own (ab eI a4),.own (ab eI a5),.lit (.bool a6),.own (ab aC.encO a7)]]=ab aN.encO [(aN.mk (GShow.mk a0 a1 a2) (aj.mk a3 a4 a5) a6 a7)]:=rfl
theorem xV (xs:List aN)(a0:List GNode)(a1:List GTie)(a2 a3:Int)(a4 a5:List Int)(a6:Bool)(a7:List aC):[.own (ab GNode.encO a0),.own (ab GTie.enc a1),.lit (.int .i64 a2),.lit (.int .i64 a3),.own (ab eI a4),.own (ab eI a5),.lit (.bool a6),.own (ab aC.encO a7)]::ab aN.encO xs=ab aN.encO ((aN.mk (GShow.mk a0 a1 a2) (aj.mk a3 a4 a5) a6 a7)::xs):=rfl
theorem ze (xs:List aN):frsR (ab aN.encO xs)=true:=bn (e:=aN.encO) (fun x=>by simp only[go_sem,aN.encO]) xs
theorem xW (xs:List aN):bl (ab aN.encO xs)=ab aN.encS xs:=aW (e:=aN.encO) (fun x=>by simp only[go_sem,cQ,toSl,aN.encO,aN.encS]) xs
theorem zf (n:Nat):List.replicate n [.own [],.own [],.lit (.int .i64 0),.lit (.int .i64 0),.own [],.own [],.lit (.bool false),.own []]=ab aN.encO (List.replicate n (aN.mk (GShow.mk ([]) ([]) 0) (aj.mk 0 ([]) ([])) false ([]))):=aI (e:=aN.encO) n (aN.mk (GShow.mk ([]) ([]) 0) (aj.mk 0 ([]) ([])) false ([]))
attribute[go_sem] aN.encO xU za zb zd xV ze xW zf
structure GCue where
 name:ByteArray
 after:Int
 atEnd:Bool
 low:Int
 high:Int
 min_:Int
 max_:Int
 free:Bool
 if_:Int
 watch:Int
 device:Int
 deriving DecidableEq
def GCue.enc (x:GCue):List AV:=[.lit (.string x.name),.lit (.int .i64 x.after),.lit (.bool x.atEnd),.lit (.int .i64 x.low),.lit (.int .i64 x.high),.lit (.int .i64 x.min_),.lit (.int .i64 x.max_),.lit (.bool x.free),.lit (.int .i64 x.if_),.lit (.int .i64 x.watch),.lit (.int .i64 x.device)]
theorem Al (xs:List GCue)(a0:ByteArray)(a1:Int)(a2:Bool)(a3 a4 a5 a6:Int)(a7:Bool)(a8 a9 a10:Int):ab GCue.enc xs++[[.lit (.string a0),.lit (.int .i64 a1),.lit (.bool a2),.lit (.int .i64 a3),.lit (.int .i64 a4),.lit (.int .i64 a5),.lit (.int .i64 a6),.lit (.bool a7),.lit (.int .i64 a8),.lit (.int .i64 a9),.lit (.int .i64 a10)]]=ab GCue.enc (xs++[(GCue.mk a0 a1 a2 a3 a4 a5 a6 a7 a8 a9 a10)]):=ao (e:=GCue.enc) xs (GCue.mk a0 a1 a2 a3 a4 a5 a6 a7 a8 a9 a10)
theorem Cq (xs:List GCue)(i:Nat)(a0:ByteArray)(a1:Int)(a2:Bool)(a3 a4 a5 a6:Int)(a7:Bool)(a8 a9 a10:Int):(ab GCue.enc xs).set i [.lit (.string a0),.lit (.int .i64 a1),.lit (.bool a2),.lit (.int .i64 a3),.lit (.int .i64 a4),.lit (.int .i64 a5),.lit (.int .i64 a6),.lit (.bool a7),.lit (.int .i64 a8),.lit (.int .i64 a9),.lit (.int .i64 a10)]=ab GCue.enc (xs.set i (GCue.mk a0 a1 a2 a3 a4 a5 a6 a7 a8 a9 a10)):=aG (e:=GCue.enc) xs i (GCue.mk a0 a1 a2 a3 a4 a5 a6 a7 a8 a9 a10)
theorem Cr (xs:List GCue):(ab GCue.enc xs).all (fun r=>r.length == 11)=true:=aK (e:=GCue.enc) (fun _=>rfl) xs
theorem Cs (a0:ByteArray)(a1:Int)(a2:Bool)(a3 a4 a5 a6:Int)(a7:Bool)(a8 a9 a10:Int):[[.lit (.string a0),.lit (.int .i64 a1),.lit (.bool a2),.lit (.int .i64 a3),.lit (.int .i64 a4),.lit (.int .i64 a5),.lit (.int .i64 a6),.lit (.bool a7),.lit (.int .i64 a8),.lit (.int .i64 a9),.lit (.int .i64 a10)]]=ab GCue.enc [(GCue.mk a0 a1 a2 a3 a4 a5 a6 a7 a8 a9 a10)]:=rfl
theorem Am (xs:List GCue)(a0:ByteArray)(a1:Int)(a2:Bool)(a3 a4 a5 a6:Int)(a7:Bool)(a8 a9 a10:Int):[.lit (.string a0),.lit (.int .i64 a1),.lit (.bool a2),.lit (.int .i64 a3),.lit (.int .i64 a4),.lit (.int .i64 a5),.lit (.int .i64 a6),.lit (.bool a7),.lit (.int .i64 a8),.lit (.int .i64 a9),.lit (.int .i64 a10)]::ab GCue.enc xs=ab GCue.enc ((GCue.mk a0 a1 a2 a3 a4 a5 a6 a7 a8 a9 a10)::xs):=rfl
theorem Ct (xs:List GCue):frsR (ab GCue.enc xs)=true:=bn (e:=GCue.enc) (fun x=>by simp only[go_sem,GCue.enc]) xs
theorem An (xs:List GCue):bl (ab GCue.enc xs)=ab GCue.enc xs:=aW (e:=GCue.enc) (fun x=>by simp only[go_sem,cQ,toSl,GCue.enc]) xs
theorem Cu (n:Nat):List.replicate n [.lit (.string (ByteArray.mk #[])),.lit (.int .i64 0),.lit (.bool false),.lit (.int .i64 0),.lit (.int .i64 0),.lit (.int .i64 0),.lit (.int .i64 0),.lit (.bool false),.lit (.int .i64 0),.lit (.int .i64 0),.lit (.int .i64 0)]=ab GCue.enc (List.replicate n (GCue.mk (ByteArray.mk #[]) 0 false 0 0 0 0 false 0 0 0)):=aI (e:=GCue.enc) n (GCue.mk (ByteArray.mk #[]) 0 false 0 0 0 0 false 0 0 0)
attribute[go_sem] GCue.enc Al Cq Cr Cs Am Ct An Cu
structure am where
 cues:List GCue
 prep:List Int
 horizon:Int
 deriving DecidableEq
def am.encS (x:am):List AV:=[.sl (ab GCue.enc x.cues),.sl (ab eI x.prep),.lit (.int .i64 x.horizon)]
theorem vJ (xs:List am)(a0:List GCue)(a1:List Int)(a2:Int):ab am.encS xs++[[.sl (ab GCue.enc a0),.sl (ab eI a1),.lit (.int .i64 a2)]]=ab am.encS (xs++[(am.mk a0 a1 a2)]):=ao (e:=am.encS) xs (am.mk a0 a1 a2)
theorem xX (xs:List am)(i:Nat)(a0:List GCue)(a1:List Int)(a2:Int):(ab am.encS xs).set i [.sl (ab GCue.enc a0),.sl (ab eI a1),.lit (.int .i64 a2)]=ab am.encS (xs.set i (am.mk a0 a1 a2)):=aG (e:=am.encS) xs i (am.mk a0 a1 a2)
theorem xY (xs:List am):(ab am.encS xs).all (fun r=>r.length == 3)=true:=aK (e:=am.encS) (fun _=>rfl) xs
theorem xZ (a0:List GCue)(a1:List Int)(a2:Int):[[.sl (ab GCue.enc a0),.sl (ab eI a1),.lit (.int .i64 a2)]]=ab am.encS [(am.mk a0 a1 a2)]:=rfl
theorem vK (xs:List am)(a0:List GCue)(a1:List Int)(a2:Int):[.sl (ab GCue.enc a0),.sl (ab eI a1),.lit (.int .i64 a2)]::ab am.encS xs=ab am.encS ((am.mk a0 a1 a2)::xs):=rfl
theorem rQ (xs:List am)(a1:List Int)(a2:Int):ab am.encS xs++[[.sl [],.sl (ab eI a1),.lit (.int .i64 a2)]]=ab am.encS (xs++[(am.mk [] a1 a2)]):=ao (e:=am.encS) xs (am.mk [] a1 a2)
theorem tO (a1:List Int)(a2:Int):[[.sl [],.sl (ab eI a1),.lit (.int .i64 a2)]]=ab am.encS [(am.mk [] a1 a2)]:=rfl
theorem rR (xs:List am)(a1:List Int)(a2:Int):[.sl [],.sl (ab eI a1),.lit (.int .i64 a2)]::ab am.encS xs=ab am.encS ((am.mk [] a1 a2)::xs):=rfl
theorem rS (xs:List am)(a0:List GCue)(a2:Int):ab am.encS xs++[[.sl (ab GCue.enc a0),.sl [],.lit (.int .i64 a2)]]=ab am.encS (xs++[(am.mk a0 [] a2)]):=ao (e:=am.encS) xs (am.mk a0 [] a2)
theorem tP (a0:List GCue)(a2:Int):[[.sl (ab GCue.enc a0),.sl [],.lit (.int .i64 a2)]]=ab am.encS [(am.mk a0 [] a2)]:=rfl
theorem rU (xs:List am)(a0:List GCue)(a2:Int):[.sl (ab GCue.enc a0),.sl [],.lit (.int .i64 a2)]::ab am.encS xs=ab am.encS ((am.mk a0 [] a2)::xs):=rfl
theorem rV (xs:List am)(a2:Int):ab am.encS xs++[[.sl [],.sl [],.lit (.int .i64 a2)]]=ab am.encS (xs++[(am.mk [] [] a2)]):=ao (e:=am.encS) xs (am.mk [] [] a2)
theorem tQ (a2:Int):[[.sl [],.sl [],.lit (.int .i64 a2)]]=ab am.encS [(am.mk [] [] a2)]:=rfl
theorem rW (xs:List am)(a2:Int):[.sl [],.sl [],.lit (.int .i64 a2)]::ab am.encS xs=ab am.encS ((am.mk [] [] a2)::xs):=rfl
attribute[go_sem] am.encS vJ xX xY xZ vK rQ tO rR rS tP rU rV tQ rW
def am.encO (x:am):List AV:=[.own (ab GCue.enc x.cues),.own (ab eI x.prep),.lit (.int .i64 x.horizon)]
theorem vL (xs:List am)(a0:List GCue)(a1:List Int)(a2:Int):ab am.encO xs++[[.own (ab GCue.enc a0),.own (ab eI a1),.lit (.int .i64 a2)]]=ab am.encO (xs++[(am.mk a0 a1 a2)]):=ao (e:=am.encO) xs (am.mk a0 a1 a2)
theorem ya (xs:List am)(i:Nat)(a0:List GCue)(a1:List Int)(a2:Int):(ab am.encO xs).set i [.own (ab GCue.enc a0),.own (ab eI a1),.lit (.int .i64 a2)]=ab am.encO (xs.set i (am.mk a0 a1 a2)):=aG (e:=am.encO) xs i (am.mk a0 a1 a2)
theorem yb (xs:List am):(ab am.encO xs).all (fun r=>r.length == 3)=true:=aK (e:=am.encO) (fun _=>rfl) xs
theorem yc (a0:List GCue)(a1:List Int)(a2:Int):[[.own (ab GCue.enc a0),.own (ab eI a1),.lit (.int .i64 a2)]]=ab am.encO [(am.mk a0 a1 a2)]:=rfl
theorem vM (xs:List am)(a0:List GCue)(a1:List Int)(a2:Int):[.own (ab GCue.enc a0),.own (ab eI a1),.lit (.int .i64 a2)]::ab am.encO xs=ab am.encO ((am.mk a0 a1 a2)::xs):=rfl
theorem yd (xs:List am):frsR (ab am.encO xs)=true:=bn (e:=am.encO) (fun x=>by simp only[go_sem,am.encO]) xs
theorem vN (xs:List am):bl (ab am.encO xs)=ab am.encS xs:=aW (e:=am.encO) (fun x=>by simp only[go_sem,cQ,toSl,am.encO,am.encS]) xs
theorem ye (n:Nat):List.replicate n [.own [],.own [],.lit (.int .i64 0)]=ab am.encO (List.replicate n (am.mk ([]) ([]) 0)):=aI (e:=am.encO) n (am.mk ([]) ([]) 0)
theorem rX (xs:List am)(a1:List Int)(a2:Int):ab am.encO xs++[[.own [],.own (ab eI a1),.lit (.int .i64 a2)]]=ab am.encO (xs++[(am.mk [] a1 a2)]):=ao (e:=am.encO) xs (am.mk [] a1 a2)
theorem tR (a1:List Int)(a2:Int):[[.own [],.own (ab eI a1),.lit (.int .i64 a2)]]=ab am.encO [(am.mk [] a1 a2)]:=rfl
theorem rY (xs:List am)(a1:List Int)(a2:Int):[.own [],.own (ab eI a1),.lit (.int .i64 a2)]::ab am.encO xs=ab am.encO ((am.mk [] a1 a2)::xs):=rfl
theorem rZ (xs:List am)(a0:List GCue)(a2:Int):ab am.encO xs++[[.own (ab GCue.enc a0),.own [],.lit (.int .i64 a2)]]=ab am.encO (xs++[(am.mk a0 [] a2)]):=ao (e:=am.encO) xs (am.mk a0 [] a2)
theorem tS (a0:List GCue)(a2:Int):[[.own (ab GCue.enc a0),.own [],.lit (.int .i64 a2)]]=ab am.encO [(am.mk a0 [] a2)]:=rfl
theorem sa (xs:List am)(a0:List GCue)(a2:Int):[.own (ab GCue.enc a0),.own [],.lit (.int .i64 a2)]::ab am.encO xs=ab am.encO ((am.mk a0 [] a2)::xs):=rfl
theorem sb (xs:List am)(a2:Int):ab am.encO xs++[[.own [],.own [],.lit (.int .i64 a2)]]=ab am.encO (xs++[(am.mk [] [] a2)]):=ao (e:=am.encO) xs (am.mk [] [] a2)
theorem tT (a2:Int):[[.own [],.own [],.lit (.int .i64 a2)]]=ab am.encO [(am.mk [] [] a2)]:=rfl
theorem sc (xs:List am)(a2:Int):[.own [],.own [],.lit (.int .i64 a2)]::ab am.encO xs=ab am.encO ((am.mk [] [] a2)::xs):=rfl
attribute[go_sem] am.encO vL ya yb yc vM yd vN ye rX tR rY rZ tS sa sb tT sc
def spf (f:Nat):Bool:=[206,281].contains f
@[go_sem] theorem Py:spf 143=false:=rfl
@[go_sem] theorem Pz:spf 188=false:=rfl
@[go_sem] theorem PA:spf 191=false:=rfl
@[go_sem] theorem PB:spf 194=false:=rfl
@[go_sem] theorem PC:spf 206=true:=rfl
@[go_sem] theorem PD:spf 222=false:=rfl
@[go_sem] theorem PE:spf 225=false:=rfl
@[go_sem] theorem PF:spf 252=false:=rfl
@[go_sem] theorem PG:spf 255=false:=rfl
@[go_sem] theorem PH:spf 269=false:=rfl
@[go_sem] theorem PI:spf 273=false:=rfl
@[go_sem] theorem PJ:spf 281=true:=rfl
@[go_sem] theorem PK:spf 292=false:=rfl
@[go_sem] theorem PL:spf 310=false:=rfl
@[go_sem] theorem PM:spf 311=false:=rfl
@[go_sem] theorem PN:spf 315=false:=rfl
@[go_sem] theorem PO:spf 125=false:=rfl
@[go_sem] theorem PP:spf 186=false:=rfl
@[go_sem] theorem PQ:spf 271=false:=rfl
@[go_sem] theorem PS:spf 276=false:=rfl
@[go_sem] theorem PT:spf 308=false:=rfl
def mdT:Nat→List AV→Md:=fun n a=>match n with
 | 18=>⟨[0],false⟩
 | 19=>⟨[0],false⟩
 | 20=>⟨[0],false⟩
 | 75=>⟨[0],false⟩
 | 76=>⟨[0],false⟩
 | 77=>⟨[0],false⟩
 | 79=>⟨[0],true⟩
 | 80=>⟨[],true⟩
 | 84=>⟨[],true⟩
 | 85=>⟨[0],true⟩
 | 96=>⟨[0],true⟩
 | 117=>⟨[0],true⟩
 | 127=>⟨[],true⟩
 | 130=>⟨[0],true⟩
 | 139=>⟨[0],true⟩
 | 141=>⟨[0],false⟩
 | 182=>⟨[0],true⟩
 | 183=>⟨[0,1],true⟩
 | 198=>⟨[0],true⟩
 | 206=>⟨[0],true⟩
 | 207=>⟨[0],true⟩
 | 208=>⟨[],true⟩
 | 209=>⟨[0],true⟩
 | 219=>⟨[0],true⟩
 | 230=>⟨[0],false⟩
 | 232=>⟨[0],true⟩
 | 246=>⟨[1,2,3],false⟩
 | 252=>⟨[5,6],false⟩
 | 279=>⟨[0],true⟩
 | 280=>⟨[0,1],true⟩
 | 281=>⟨[1,2],true⟩
 | 282=>⟨[0],false⟩
 | 289=>⟨[1000],false⟩
 | 290=>⟨[0],false⟩
 | 316=>bif spf (fnId a) then ⟨[0,1],true⟩ else ⟨[],false⟩
 | 320=>⟨[0],false⟩
 | _=>⟨[],false⟩
@[go_sem] theorem md3 (a:List AV):mdT 3 a=⟨[],false⟩:=rfl
@[go_sem] theorem md4 (a:List AV):mdT 4 a=⟨[],false⟩:=rfl
@[go_sem] theorem md5 (a:List AV):mdT 5 a=⟨[],false⟩:=rfl
@[go_sem] theorem md7 (a:List AV):mdT 7 a=⟨[],false⟩:=rfl
@[go_sem] theorem md9 (a:List AV):mdT 9 a=⟨[],false⟩:=rfl
@[go_sem] theorem md10 (a:List AV):mdT 10 a=⟨[],false⟩:=rfl
@[go_sem] theorem md11 (a:List AV):mdT 11 a=⟨[],false⟩:=rfl
@[go_sem] theorem md12 (a:List AV):mdT 12 a=⟨[],false⟩:=rfl
@[go_sem] theorem md13 (a:List AV):mdT 13 a=⟨[],false⟩:=rfl
@[go_sem] theorem md14 (a:List AV):mdT 14 a=⟨[],false⟩:=rfl
@[go_sem] theorem md15 (a:List AV):mdT 15 a=⟨[],false⟩:=rfl
@[go_sem] theorem md16 (a:List AV):mdT 16 a=⟨[],false⟩:=rfl
@[go_sem] theorem md17 (a:List AV):mdT 17 a=⟨[],false⟩:=rfl
@[go_sem] theorem md18 (a:List AV):mdT 18 a=⟨[0],false⟩:=rfl
@[go_sem] theorem md19 (a:List AV):mdT 19 a=⟨[0],false⟩:=rfl
@[go_sem] theorem md20 (a:List AV):mdT 20 a=⟨[0],false⟩:=rfl
@[go_sem] theorem md21 (a:List AV):mdT 21 a=⟨[],false⟩:=rfl
@[go_sem] theorem md22 (a:List AV):mdT 22 a=⟨[],false⟩:=rfl
@[go_sem] theorem md23 (a:List AV):mdT 23 a=⟨[],false⟩:=rfl
@[go_sem] theorem md24 (a:List AV):mdT 24 a=⟨[],false⟩:=rfl
@[go_sem] theorem md25 (a:List AV):mdT 25 a=⟨[],false⟩:=rfl
@[go_sem] theorem md26 (a:List AV):mdT 26 a=⟨[],false⟩:=rfl
@[go_sem] theorem md27 (a:List AV):mdT 27 a=⟨[],false⟩:=rfl
@[go_sem] theorem md28 (a:List AV):mdT 28 a=⟨[],false⟩:=rfl
@[go_sem] theorem md29 (a:List AV):mdT 29 a=⟨[],false⟩:=rfl
@[go_sem] theorem md30 (a:List AV):mdT 30 a=⟨[],false⟩:=rfl
@[go_sem] theorem md31 (a:List AV):mdT 31 a=⟨[],false⟩:=rfl
@[go_sem] theorem md32 (a:List AV):mdT 32 a=⟨[],false⟩:=rfl
@[go_sem] theorem md33 (a:List AV):mdT 33 a=⟨[],false⟩:=rfl
@[go_sem] theorem md34 (a:List AV):mdT 34 a=⟨[],false⟩:=rfl
@[go_sem] theorem md35 (a:List AV):mdT 35 a=⟨[],false⟩:=rfl
@[go_sem] theorem md36 (a:List AV):mdT 36 a=⟨[],false⟩:=rfl
@[go_sem] theorem md37 (a:List AV):mdT 37 a=⟨[],false⟩:=rfl
@[go_sem] theorem md38 (a:List AV):mdT 38 a=⟨[],false⟩:=rfl
@[go_sem] theorem md39 (a:List AV):mdT 39 a=⟨[],false⟩:=rfl
@[go_sem] theorem md40 (a:List AV):mdT 40 a=⟨[],false⟩:=rfl
@[go_sem] theorem md41 (a:List AV):mdT 41 a=⟨[],false⟩:=rfl
@[go_sem] theorem md42 (a:List AV):mdT 42 a=⟨[],false⟩:=rfl
@[go_sem] theorem md43 (a:List AV):mdT 43 a=⟨[],false⟩:=rfl
@[go_sem] theorem md44 (a:List AV):mdT 44 a=⟨[],false⟩:=rfl
@[go_sem] theorem md45 (a:List AV):mdT 45 a=⟨[],false⟩:=rfl
@[go_sem] theorem md48 (a:List AV):mdT 48 a=⟨[],false⟩:=rfl
@[go_sem] theorem md51 (a:List AV):mdT 51 a=⟨[],false⟩:=rfl
@[go_sem] theorem md52 (a:List AV):mdT 52 a=⟨[],false⟩:=rfl
@[go_sem] theorem md53 (a:List AV):mdT 53 a=⟨[],false⟩:=rfl
@[go_sem] theorem md55 (a:List AV):mdT 55 a=⟨[],false⟩:=rfl
@[go_sem] theorem md57 (a:List AV):mdT 57 a=⟨[],false⟩:=rfl
@[go_sem] theorem md58 (a:List AV):mdT 58 a=⟨[],false⟩:=rfl
@[go_sem] theorem md59 (a:List AV):mdT 59 a=⟨[],false⟩:=rfl
@[go_sem] theorem md60 (a:List AV):mdT 60 a=⟨[],false⟩:=rfl
@[go_sem] theorem md61 (a:List AV):mdT 61 a=⟨[],false⟩:=rfl
@[go_sem] theorem md62 (a:List AV):mdT 62 a=⟨[],false⟩:=rfl
@[go_sem] theorem md63 (a:List AV):mdT 63 a=⟨[],false⟩:=rfl
@[go_sem] theorem md64 (a:List AV):mdT 64 a=⟨[],false⟩:=rfl
@[go_sem] theorem md65 (a:List AV):mdT 65 a=⟨[],false⟩:=rfl
@[go_sem] theorem md66 (a:List AV):mdT 66 a=⟨[],false⟩:=rfl
@[go_sem] theorem md67 (a:List AV):mdT 67 a=⟨[],false⟩:=rfl
@[go_sem] theorem md68 (a:List AV):mdT 68 a=⟨[],false⟩:=rfl
@[go_sem] theorem md69 (a:List AV):mdT 69 a=⟨[],false⟩:=rfl
@[go_sem] theorem md70 (a:List AV):mdT 70 a=⟨[],false⟩:=rfl
@[go_sem] theorem md71 (a:List AV):mdT 71 a=⟨[],false⟩:=rfl
@[go_sem] theorem md72 (a:List AV):mdT 72 a=⟨[],false⟩:=rfl
@[go_sem] theorem md73 (a:List AV):mdT 73 a=⟨[],false⟩:=rfl
@[go_sem] theorem md74 (a:List AV):mdT 74 a=⟨[],false⟩:=rfl
@[go_sem] theorem md75 (a:List AV):mdT 75 a=⟨[0],false⟩:=rfl
@[go_sem] theorem md76 (a:List AV):mdT 76 a=⟨[0],false⟩:=rfl
@[go_sem] theorem md77 (a:List AV):mdT 77 a=⟨[0],false⟩:=rfl
@[go_sem] theorem md78 (a:List AV):mdT 78 a=⟨[],false⟩:=rfl
@[go_sem] theorem md79 (a:List AV):mdT 79 a=⟨[0],true⟩:=rfl
@[go_sem] theorem md80 (a:List AV):mdT 80 a=⟨[],true⟩:=rfl
@[go_sem] theorem md81 (a:List AV):mdT 81 a=⟨[],false⟩:=rfl
@[go_sem] theorem md82 (a:List AV):mdT 82 a=⟨[],false⟩:=rfl
@[go_sem] theorem md83 (a:List AV):mdT 83 a=⟨[],false⟩:=rfl
@[go_sem] theorem md84 (a:List AV):mdT 84 a=⟨[],true⟩:=rfl
@[go_sem] theorem md85 (a:List AV):mdT 85 a=⟨[0],true⟩:=rfl
@[go_sem] theorem md86 (a:List AV):mdT 86 a=⟨[],false⟩:=rfl
@[go_sem] theorem md87 (a:List AV):mdT 87 a=⟨[],false⟩:=rfl
@[go_sem] theorem md88 (a:List AV):mdT 88 a=⟨[],false⟩:=rfl
@[go_sem] theorem md89 (a:List AV):mdT 89 a=⟨[],false⟩:=rfl
@[go_sem] theorem md90 (a:List AV):mdT 90 a=⟨[],false⟩:=rfl
@[go_sem] theorem md91 (a:List AV):mdT 91 a=⟨[],false⟩:=rfl
@[go_sem] theorem md92 (a:List AV):mdT 92 a=⟨[],false⟩:=rfl
@[go_sem] theorem md93 (a:List AV):mdT 93 a=⟨[],false⟩:=rfl
@[go_sem] theorem md94 (a:List AV):mdT 94 a=⟨[],false⟩:=rfl
@[go_sem] theorem md95 (a:List AV):mdT 95 a=⟨[],false⟩:=rfl
@[go_sem] theorem md96 (a:List AV):mdT 96 a=⟨[0],true⟩:=rfl
@[go_sem] theorem md97 (a:List AV):mdT 97 a=⟨[],false⟩:=rfl
@[go_sem] theorem md98 (a:List AV):mdT 98 a=⟨[],false⟩:=rfl
@[go_sem] theorem md99 (a:List AV):mdT 99 a=⟨[],false⟩:=rfl
@[go_sem] theorem PW (a:List AV):mdT 100 a=⟨[],false⟩:=rfl
@[go_sem] theorem PX (a:List AV):mdT 101 a=⟨[],false⟩:=rfl
@[go_sem] theorem PY (a:List AV):mdT 102 a=⟨[],false⟩:=rfl
@[go_sem] theorem PZ (a:List AV):mdT 103 a=⟨[],false⟩:=rfl
@[go_sem] theorem Qa (a:List AV):mdT 104 a=⟨[],false⟩:=rfl
@[go_sem] theorem Qb (a:List AV):mdT 105 a=⟨[],false⟩:=rfl
@[go_sem] theorem Qc (a:List AV):mdT 106 a=⟨[],false⟩:=rfl
@[go_sem] theorem Qd (a:List AV):mdT 107 a=⟨[],false⟩:=rfl
@[go_sem] theorem Qe (a:List AV):mdT 108 a=⟨[],false⟩:=rfl
@[go_sem] theorem Qf (a:List AV):mdT 109 a=⟨[],false⟩:=rfl
@[go_sem] theorem Qg (a:List AV):mdT 110 a=⟨[],false⟩:=rfl
@[go_sem] theorem Qh (a:List AV):mdT 111 a=⟨[],false⟩:=rfl
@[go_sem] theorem Qi (a:List AV):mdT 112 a=⟨[],false⟩:=rfl
@[go_sem] theorem Qj (a:List AV):mdT 113 a=⟨[],false⟩:=rfl
@[go_sem] theorem Qk (a:List AV):mdT 114 a=⟨[],false⟩:=rfl
@[go_sem] theorem Ql (a:List AV):mdT 115 a=⟨[],false⟩:=rfl
@[go_sem] theorem Qm (a:List AV):mdT 116 a=⟨[],false⟩:=rfl
@[go_sem] theorem Qn (a:List AV):mdT 117 a=⟨[0],true⟩:=rfl
@[go_sem] theorem Qo (a:List AV):mdT 118 a=⟨[],false⟩:=rfl
@[go_sem] theorem Qp (a:List AV):mdT 119 a=⟨[],false⟩:=rfl
@[go_sem] theorem Qq (a:List AV):mdT 120 a=⟨[],false⟩:=rfl
@[go_sem] theorem Qr (a:List AV):mdT 121 a=⟨[],false⟩:=rfl
@[go_sem] theorem Qs (a:List AV):mdT 122 a=⟨[],false⟩:=rfl
@[go_sem] theorem Qt (a:List AV):mdT 123 a=⟨[],false⟩:=rfl
@[go_sem] theorem Qu (a:List AV):mdT 124 a=⟨[],false⟩:=rfl
@[go_sem] theorem Qv (a:List AV):mdT 125 a=⟨[],false⟩:=rfl
@[go_sem] theorem Qw (a:List AV):mdT 126 a=⟨[],false⟩:=rfl
@[go_sem] theorem Qy (a:List AV):mdT 127 a=⟨[],true⟩:=rfl
@[go_sem] theorem Qz (a:List AV):mdT 128 a=⟨[],false⟩:=rfl
@[go_sem] theorem QA (a:List AV):mdT 129 a=⟨[],false⟩:=rfl
@[go_sem] theorem QB (a:List AV):mdT 130 a=⟨[0],true⟩:=rfl
@[go_sem] theorem QC (a:List AV):mdT 131 a=⟨[],false⟩:=rfl
@[go_sem] theorem QD (a:List AV):mdT 132 a=⟨[],false⟩:=rfl
@[go_sem] theorem QE (a:List AV):mdT 134 a=⟨[],false⟩:=rfl
@[go_sem] theorem QF (a:List AV):mdT 136 a=⟨[],false⟩:=rfl
@[go_sem] theorem QG (a:List AV):mdT 137 a=⟨[],false⟩:=rfl
@[go_sem] theorem QH (a:List AV):mdT 138 a=⟨[],false⟩:=rfl
@[go_sem] theorem QI (a:List AV):mdT 139 a=⟨[0],true⟩:=rfl
@[go_sem] theorem QJ (a:List AV):mdT 141 a=⟨[0],false⟩:=rfl
@[go_sem] theorem QK (a:List AV):mdT 142 a=⟨[],false⟩:=rfl
@[go_sem] theorem QL (a:List AV):mdT 143 a=⟨[],false⟩:=rfl
@[go_sem] theorem QM (a:List AV):mdT 144 a=⟨[],false⟩:=rfl
@[go_sem] theorem QN (a:List AV):mdT 145 a=⟨[],false⟩:=rfl
@[go_sem] theorem QO (a:List AV):mdT 146 a=⟨[],false⟩:=rfl
@[go_sem] theorem QP (a:List AV):mdT 147 a=⟨[],false⟩:=rfl
@[go_sem] theorem QQ (a:List AV):mdT 148 a=⟨[],false⟩:=rfl
@[go_sem] theorem QR (a:List AV):mdT 149 a=⟨[],false⟩:=rfl
@[go_sem] theorem QS (a:List AV):mdT 150 a=⟨[],false⟩:=rfl
@[go_sem] theorem QT (a:List AV):mdT 151 a=⟨[],false⟩:=rfl
@[go_sem] theorem QU (a:List AV):mdT 153 a=⟨[],false⟩:=rfl
@[go_sem] theorem QV (a:List AV):mdT 155 a=⟨[],false⟩:=rfl
@[go_sem] theorem QW (a:List AV):mdT 156 a=⟨[],false⟩:=rfl
@[go_sem] theorem QX (a:List AV):mdT 157 a=⟨[],false⟩:=rfl
@[go_sem] theorem QY (a:List AV):mdT 158 a=⟨[],false⟩:=rfl
@[go_sem] theorem QZ (a:List AV):mdT 159 a=⟨[],false⟩:=rfl
@[go_sem] theorem Ra (a:List AV):mdT 160 a=⟨[],false⟩:=rfl
@[go_sem] theorem Rb (a:List AV):mdT 161 a=⟨[],false⟩:=rfl
@[go_sem] theorem Rc (a:List AV):mdT 162 a=⟨[],false⟩:=rfl
@[go_sem] theorem Rd (a:List AV):mdT 163 a=⟨[],false⟩:=rfl
@[go_sem] theorem Re (a:List AV):mdT 164 a=⟨[],false⟩:=rfl
@[go_sem] theorem Rf (a:List AV):mdT 165 a=⟨[],false⟩:=rfl
@[go_sem] theorem Rg (a:List AV):mdT 166 a=⟨[],false⟩:=rfl
@[go_sem] theorem Rh (a:List AV):mdT 167 a=⟨[],false⟩:=rfl
@[go_sem] theorem Ri (a:List AV):mdT 168 a=⟨[],false⟩:=rfl
@[go_sem] theorem Rj (a:List AV):mdT 169 a=⟨[],false⟩:=rfl
@[go_sem] theorem Rk (a:List AV):mdT 170 a=⟨[],false⟩:=rfl
@[go_sem] theorem Rl (a:List AV):mdT 171 a=⟨[],false⟩:=rfl
@[go_sem] theorem Rm (a:List AV):mdT 172 a=⟨[],false⟩:=rfl
@[go_sem] theorem Rn (a:List AV):mdT 173 a=⟨[],false⟩:=rfl
@[go_sem] theorem Ro (a:List AV):mdT 174 a=⟨[],false⟩:=rfl
@[go_sem] theorem Rp (a:List AV):mdT 175 a=⟨[],false⟩:=rfl
@[go_sem] theorem Rq (a:List AV):mdT 176 a=⟨[],false⟩:=rfl
@[go_sem] theorem Rr (a:List AV):mdT 177 a=⟨[],false⟩:=rfl
@[go_sem] theorem Rs (a:List AV):mdT 178 a=⟨[],false⟩:=rfl
@[go_sem] theorem Rt (a:List AV):mdT 179 a=⟨[],false⟩:=rfl
@[go_sem] theorem Ru (a:List AV):mdT 180 a=⟨[],false⟩:=rfl
@[go_sem] theorem Rv (a:List AV):mdT 181 a=⟨[],false⟩:=rfl
@[go_sem] theorem Rw (a:List AV):mdT 182 a=⟨[0],true⟩:=rfl
@[go_sem] theorem Ry (a:List AV):mdT 183 a=⟨[0,1],true⟩:=rfl
@[go_sem] theorem Rz (a:List AV):mdT 184 a=⟨[],false⟩:=rfl
@[go_sem] theorem RA (a:List AV):mdT 185 a=⟨[],false⟩:=rfl
@[go_sem] theorem RB (a:List AV):mdT 186 a=⟨[],false⟩:=rfl
@[go_sem] theorem RC (a:List AV):mdT 187 a=⟨[],false⟩:=rfl
@[go_sem] theorem RD (a:List AV):mdT 188 a=⟨[],false⟩:=rfl
@[go_sem] theorem RE (a:List AV):mdT 189 a=⟨[],false⟩:=rfl
@[go_sem] theorem RF (a:List AV):mdT 190 a=⟨[],false⟩:=rfl
@[go_sem] theorem RG (a:List AV):mdT 191 a=⟨[],false⟩:=rfl
@[go_sem] theorem RH (a:List AV):mdT 192 a=⟨[],false⟩:=rfl
@[go_sem] theorem RI (a:List AV):mdT 193 a=⟨[],false⟩:=rfl
@[go_sem] theorem RJ (a:List AV):mdT 194 a=⟨[],false⟩:=rfl
@[go_sem] theorem RK (a:List AV):mdT 195 a=⟨[],false⟩:=rfl
@[go_sem] theorem RL (a:List AV):mdT 196 a=⟨[],false⟩:=rfl
@[go_sem] theorem RM (a:List AV):mdT 197 a=⟨[],false⟩:=rfl
@[go_sem] theorem RN (a:List AV):mdT 198 a=⟨[0],true⟩:=rfl
@[go_sem] theorem RP (a:List AV):mdT 199 a=⟨[],false⟩:=rfl
@[go_sem] theorem RQ (a:List AV):mdT 200 a=⟨[],false⟩:=rfl
@[go_sem] theorem RR (a:List AV):mdT 201 a=⟨[],false⟩:=rfl
@[go_sem] theorem RT (a:List AV):mdT 202 a=⟨[],false⟩:=rfl
@[go_sem] theorem RU (a:List AV):mdT 203 a=⟨[],false⟩:=rfl
@[go_sem] theorem RV (a:List AV):mdT 204 a=⟨[],false⟩:=rfl
@[go_sem] theorem RW (a:List AV):mdT 205 a=⟨[],false⟩:=rfl
@[go_sem] theorem RX (a:List AV):mdT 206 a=⟨[0],true⟩:=rfl
@[go_sem] theorem RY (a:List AV):mdT 207 a=⟨[0],true⟩:=rfl
@[go_sem] theorem RZ (a:List AV):mdT 208 a=⟨[],true⟩:=rfl
@[go_sem] theorem Sa (a:List AV):mdT 209 a=⟨[0],true⟩:=rfl
@[go_sem] theorem Sb (a:List AV):mdT 210 a=⟨[],false⟩:=rfl
@[go_sem] theorem Sc (a:List AV):mdT 211 a=⟨[],false⟩:=rfl
@[go_sem] theorem Sd (a:List AV):mdT 212 a=⟨[],false⟩:=rfl
@[go_sem] theorem Se (a:List AV):mdT 213 a=⟨[],false⟩:=rfl
@[go_sem] theorem Sf (a:List AV):mdT 214 a=⟨[],false⟩:=rfl
@[go_sem] theorem Sg (a:List AV):mdT 215 a=⟨[],false⟩:=rfl
@[go_sem] theorem Si (a:List AV):mdT 216 a=⟨[],false⟩:=rfl
@[go_sem] theorem Sj (a:List AV):mdT 217 a=⟨[],false⟩:=rfl
@[go_sem] theorem Sk (a:List AV):mdT 218 a=⟨[],false⟩:=rfl
@[go_sem] theorem Sl (a:List AV):mdT 219 a=⟨[0],true⟩:=rfl
@[go_sem] theorem Sm (a:List AV):mdT 220 a=⟨[],false⟩:=rfl
@[go_sem] theorem Sn (a:List AV):mdT 221 a=⟨[],false⟩:=rfl
@[go_sem] theorem So (a:List AV):mdT 222 a=⟨[],false⟩:=rfl
@[go_sem] theorem Sp (a:List AV):mdT 223 a=⟨[],false⟩:=rfl
@[go_sem] theorem Sq (a:List AV):mdT 224 a=⟨[],false⟩:=rfl
@[go_sem] theorem Sr (a:List AV):mdT 225 a=⟨[],false⟩:=rfl
@[go_sem] theorem Ss (a:List AV):mdT 226 a=⟨[],false⟩:=rfl
@[go_sem] theorem Su (a:List AV):mdT 227 a=⟨[],false⟩:=rfl
@[go_sem] theorem Sv (a:List AV):mdT 228 a=⟨[],false⟩:=rfl
@[go_sem] theorem Sw (a:List AV):mdT 229 a=⟨[],false⟩:=rfl
@[go_sem] theorem Sx (a:List AV):mdT 230 a=⟨[0],false⟩:=rfl
@[go_sem] theorem Sy (a:List AV):mdT 231 a=⟨[],false⟩:=rfl
@[go_sem] theorem Sz (a:List AV):mdT 232 a=⟨[0],true⟩:=rfl
@[go_sem] theorem SA (a:List AV):mdT 234 a=⟨[],false⟩:=rfl
@[go_sem] theorem SB (a:List AV):mdT 235 a=⟨[],false⟩:=rfl
@[go_sem] theorem SC (a:List AV):mdT 236 a=⟨[],false⟩:=rfl
@[go_sem] theorem SD (a:List AV):mdT 237 a=⟨[],false⟩:=rfl
@[go_sem] theorem SE (a:List AV):mdT 238 a=⟨[],false⟩:=rfl
@[go_sem] theorem SF (a:List AV):mdT 239 a=⟨[],false⟩:=rfl
@[go_sem] theorem SG (a:List AV):mdT 240 a=⟨[],false⟩:=rfl
@[go_sem] theorem SH (a:List AV):mdT 241 a=⟨[],false⟩:=rfl
@[go_sem] theorem SI (a:List AV):mdT 242 a=⟨[],false⟩:=rfl
@[go_sem] theorem SJ (a:List AV):mdT 243 a=⟨[],false⟩:=rfl
@[go_sem] theorem SK (a:List AV):mdT 245 a=⟨[],false⟩:=rfl
@[go_sem] theorem SL (a:List AV):mdT 246 a=⟨[1,2,3],false⟩:=rfl
@[go_sem] theorem SM (a:List AV):mdT 247 a=⟨[],false⟩:=rfl
@[go_sem] theorem SN (a:List AV):mdT 248 a=⟨[],false⟩:=rfl
@[go_sem] theorem SO (a:List AV):mdT 249 a=⟨[],false⟩:=rfl
@[go_sem] theorem SP (a:List AV):mdT 250 a=⟨[],false⟩:=rfl
@[go_sem] theorem SQ (a:List AV):mdT 251 a=⟨[],false⟩:=rfl
@[go_sem] theorem SR (a:List AV):mdT 252 a=⟨[5,6],false⟩:=rfl
@[go_sem] theorem SS (a:List AV):mdT 253 a=⟨[],false⟩:=rfl
@[go_sem] theorem ST (a:List AV):mdT 254 a=⟨[],false⟩:=rfl
@[go_sem] theorem SU (a:List AV):mdT 255 a=⟨[],false⟩:=rfl
@[go_sem] theorem SV (a:List AV):mdT 256 a=⟨[],false⟩:=rfl
@[go_sem] theorem SW (a:List AV):mdT 257 a=⟨[],false⟩:=rfl
@[go_sem] theorem SX (a:List AV):mdT 258 a=⟨[],false⟩:=rfl
@[go_sem] theorem SY (a:List AV):mdT 259 a=⟨[],false⟩:=rfl
@[go_sem] theorem SZ (a:List AV):mdT 260 a=⟨[],false⟩:=rfl
@[go_sem] theorem Ta (a:List AV):mdT 261 a=⟨[],false⟩:=rfl
@[go_sem] theorem Tb (a:List AV):mdT 262 a=⟨[],false⟩:=rfl
@[go_sem] theorem Tc (a:List AV):mdT 263 a=⟨[],false⟩:=rfl
@[go_sem] theorem Td (a:List AV):mdT 264 a=⟨[],false⟩:=rfl
@[go_sem] theorem Te (a:List AV):mdT 265 a=⟨[],false⟩:=rfl
@[go_sem] theorem Tf (a:List AV):mdT 266 a=⟨[],false⟩:=rfl
@[go_sem] theorem Tg (a:List AV):mdT 267 a=⟨[],false⟩:=rfl
@[go_sem] theorem Th (a:List AV):mdT 268 a=⟨[],false⟩:=rfl
@[go_sem] theorem Ti (a:List AV):mdT 269 a=⟨[],false⟩:=rfl
@[go_sem] theorem Tj (a:List AV):mdT 270 a=⟨[],false⟩:=rfl
@[go_sem] theorem Tk (a:List AV):mdT 271 a=⟨[],false⟩:=rfl
@[go_sem] theorem Tl (a:List AV):mdT 272 a=⟨[],false⟩:=rfl
@[go_sem] theorem Tm (a:List AV):mdT 273 a=⟨[],false⟩:=rfl
@[go_sem] theorem Tn (a:List AV):mdT 274 a=⟨[],false⟩:=rfl
@[go_sem] theorem To (a:List AV):mdT 275 a=⟨[],false⟩:=rfl
@[go_sem] theorem Tp (a:List AV):mdT 276 a=⟨[],false⟩:=rfl
@[go_sem] theorem Tq (a:List AV):mdT 277 a=⟨[],false⟩:=rfl
@[go_sem] theorem Tr (a:List AV):mdT 278 a=⟨[],false⟩:=rfl
@[go_sem] theorem Ts (a:List AV):mdT 279 a=⟨[0],true⟩:=rfl
@[go_sem] theorem Tt (a:List AV):mdT 280 a=⟨[0,1],true⟩:=rfl
@[go_sem] theorem Tu (a:List AV):mdT 281 a=⟨[1,2],true⟩:=rfl
@[go_sem] theorem Tv (a:List AV):mdT 282 a=⟨[0],false⟩:=rfl
@[go_sem] theorem Tw (a:List AV):mdT 287 a=⟨[],false⟩:=rfl
@[go_sem] theorem Tx (a:List AV):mdT 288 a=⟨[],false⟩:=rfl
@[go_sem] theorem Tz (a:List AV):mdT 289 a=⟨[1000],false⟩:=rfl
@[go_sem] theorem TA (a:List AV):mdT 290 a=⟨[0],false⟩:=rfl
@[go_sem] theorem TB (a:List AV):mdT 291 a=⟨[],false⟩:=rfl
@[go_sem] theorem TC (a:List AV):mdT 292 a=⟨[],false⟩:=rfl
@[go_sem] theorem TD (a:List AV):mdT 293 a=⟨[],false⟩:=rfl
@[go_sem] theorem TE (a:List AV):mdT 294 a=⟨[],false⟩:=rfl
@[go_sem] theorem TF (a:List AV):mdT 295 a=⟨[],false⟩:=rfl
@[go_sem] theorem TG (a:List AV):mdT 296 a=⟨[],false⟩:=rfl
@[go_sem] theorem TH (a:List AV):mdT 297 a=⟨[],false⟩:=rfl
@[go_sem] theorem TJ (a:List AV):mdT 298 a=⟨[],false⟩:=rfl
@[go_sem] theorem TL (a:List AV):mdT 299 a=⟨[],false⟩:=rfl
@[go_sem] theorem TM (a:List AV):mdT 300 a=⟨[],false⟩:=rfl
@[go_sem] theorem TN (a:List AV):mdT 301 a=⟨[],false⟩:=rfl
@[go_sem] theorem TO (a:List AV):mdT 302 a=⟨[],false⟩:=rfl
@[go_sem] theorem TP (a:List AV):mdT 303 a=⟨[],false⟩:=rfl
@[go_sem] theorem TQ (a:List AV):mdT 304 a=⟨[],false⟩:=rfl
@[go_sem] theorem TR (a:List AV):mdT 305 a=⟨[],false⟩:=rfl
@[go_sem] theorem TS (a:List AV):mdT 306 a=⟨[],false⟩:=rfl
@[go_sem] theorem TT (a:List AV):mdT 307 a=⟨[],false⟩:=rfl
@[go_sem] theorem TU (a:List AV):mdT 308 a=⟨[],false⟩:=rfl
@[go_sem] theorem TV (a:List AV):mdT 309 a=⟨[],false⟩:=rfl
@[go_sem] theorem TW (a:List AV):mdT 310 a=⟨[],false⟩:=rfl
@[go_sem] theorem TX (a:List AV):mdT 311 a=⟨[],false⟩:=rfl
@[go_sem] theorem TY (a:List AV):mdT 313 a=⟨[],false⟩:=rfl
@[go_sem] theorem TZ (a:List AV):mdT 314 a=⟨[],false⟩:=rfl
@[go_sem] theorem Ua (a:List AV):mdT 315 a=⟨[],false⟩:=rfl
@[go_sem] theorem Ub (a:List AV):mdT 316 a=bif spf (fnId a) then ⟨[0,1],true⟩ else ⟨[],false⟩:=rfl
@[go_sem] theorem Uc (a:List AV):mdT 320 a=⟨[0],false⟩:=rfl
@[go_sem] theorem Ud (a:List AV):mdT 326 a=⟨[],false⟩:=rfl
@[go_sem] theorem Ue (a:List AV):mdT 330 a=⟨[],false⟩:=rfl
@[go_sem] theorem Uf (a:List AV):mdT 331 a=⟨[],false⟩:=rfl
@[go_sem] theorem Ug (a:List AV):mdT 332 a=⟨[],false⟩:=rfl
@[go_sem] theorem Uh (a:List AV):mdT 333 a=⟨[],false⟩:=rfl
@[go_sem] theorem Ui (a:List AV):mdT 334 a=⟨[],false⟩:=rfl
@[go_sem] theorem Uj (a:List AV):mdT 335 a=⟨[],false⟩:=rfl
@[go_sem] theorem Uk (a:List AV):mdT 336 a=⟨[],false⟩:=rfl
@[go_sem] theorem Ul (a:List AV):mdT 337 a=⟨[],false⟩:=rfl
@[go_sem] theorem Um (a:List AV):mdT 338 a=⟨[],false⟩:=rfl
@[go_sem] theorem Un (a:List AV):mdT 339 a=⟨[],false⟩:=rfl
@[go_sem] theorem Uo (a:List AV):mdT 340 a=⟨[],false⟩:=rfl
@[go_sem] theorem Up (a:List AV):mdT 341 a=⟨[],false⟩:=rfl
@[go_sem] theorem Uq (a:List AV):mdT 342 a=⟨[],false⟩:=rfl
@[go_sem] theorem Ur (a:List AV):mdT 343 a=⟨[],false⟩:=rfl
@[go_sem] theorem Us (a:List AV):mdT 344 a=⟨[],false⟩:=rfl
@[go_sem] theorem Ut (a:List AV):mdT 356 a=⟨[],false⟩:=rfl
@[go_sem] theorem Uu (a:List AV):mdT 357 a=⟨[],false⟩:=rfl
@[go_sem] theorem Uv (a:List AV):mdT 358 a=⟨[],false⟩:=rfl
@[go_sem] theorem Uw (a:List AV):mdT 359 a=⟨[],false⟩:=rfl
@[go_sem] theorem Ux (a:List AV):mdT 360 a=⟨[],false⟩:=rfl
@[go_sem] theorem Uy (a:List AV):mdT 361 a=⟨[],false⟩:=rfl
@[go_sem] theorem Uz (a:List AV):mdT 362 a=⟨[],false⟩:=rfl
@[go_sem] theorem UA (a:List AV):mdT 363 a=⟨[],false⟩:=rfl
@[go_sem] theorem UB (a:List AV):mdT 364 a=⟨[],false⟩:=rfl
@[go_sem] theorem UC (a:List AV):mdT 365 a=⟨[],false⟩:=rfl
@[go_sem] theorem UD (a:List AV):mdT 371 a=⟨[],false⟩:=rfl
@[go_sem] theorem UE (a:List AV):mdT 372 a=⟨[],false⟩:=rfl
@[go_sem] theorem UF (a:List AV):mdT 373 a=⟨[],false⟩:=rfl
@[go_sem] theorem UG (a:List AV):mdT 374 a=⟨[],false⟩:=rfl
end Go.Proofs.Qj
